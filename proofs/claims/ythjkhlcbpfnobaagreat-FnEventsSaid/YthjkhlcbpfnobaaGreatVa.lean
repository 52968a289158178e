/- An abstract machine NL the model of Go, by value, and that it is sound: part Va. No condition. -/
import Derived.WalkKit
import Derived.Below
set_option linter.unusedVariables false
set_option linter.unusedSimpArgs false
namespace Go.Vm
inductive D where
 | int (k : IntKind) (n : Int)
 | bool (b : Bool)
 | str (s : ByteArray)
 | sl (size : Nat) (rows : List (List D))
 | unk
 deriving Inhabited
def D.scalar : D -> Bool
 | .sl _ _ => false
 | _ => true
abbrev CS := Nat -> Nat -> Prop
inductive Rd (T : CS) (w : World) : Value -> D -> Prop
 | int (k : IntKind) (n : Int) : Rd T w (.int k n) (.int k n)
 | bool (b : Bool) : Rd T w (.bool b) (.bool b)
 | str (s : ByteArray) : Rd T w (.string s) (.str s)
 | unk (v : Value) (h : v.oneCell' = true) : Rd T w v .unk
 | nil (size : Nat) : Rd T w (.slice none 0 0) (.sl size [])
 | sl (a : Addr) (len cap size : Nat) (rows : List (List D)) (g : Nat -> Value)
   (hl : rows.length = len) (hc : len <= cap) (hm : cap <= maxLen) (hz : ∀ r ∈ rows, r.length = size) (hs : rows.flatten ≠ [] -> a.spot = none)
   (hg : ∀ k d, rows.flatten[k]? = some d -> w.cell? ⟨a.block, a.off + k, none⟩ = some (g k) /\ T a.block (a.off + k))
   (hr : ∀ k d, rows.flatten[k]? = some d -> Rd T w (g k) d) : Rd T w (.slice (some a) len cap) (.sl size rows)
theorem Rd.mono {T T' : CS} {w w' : World} (hT : ∀ b k v, T b k -> w.cell? ⟨b, k, none⟩ = some v -> w'.cell? ⟨b, k, none⟩ = some v /\ T' b k)
  {v : Value} {d : D} (h : Rd T w v d) : Rd T' w' v d := by
 induction h with
 | int k n => exact .int k n
 | bool b => exact .bool b
 | str s => exact .str s
 | unk v h => exact .unk v h
 | nil s => exact .nil s
 | sl a len cap size rows g hl hc hm hz hs hg hr ih =>
  exact .sl a len cap size rows g hl hc hm hz hs (fun k d hk => hT _ _ _ (hg k d hk).2 (hg k d hk).1) (fun k d hk => ih k d hk)
theorem Rd.Xc {T : CS} {w : World} {v : Value} {d : D} (h : Rd T w v d) : v.oneCell' = true := by
 cases h <;> first | rfl | assumption
inductive At where
 | any
 | d (x : D)
 | nil (size : Nat)
 | sref (t j lo len : Nat)
 | ptr (t j i c : Nat)
 | bptr (t c : Nat)
 | fn (f t : Nat)
 | rptr (r : List D) (c : Nat)
 | tref (t j i c : Nat) (o : Option Nat)
 deriving Inhabited
inductive V where
 | any
 | one (x : At)
 | agg (xs : List At)
 | tup (xs : List V)
 | cnd (g : Bool) (x : V)
 | fix (v : Value) (x : V)
 deriving Inhabited
inductive Ob where
 | none
 | box (cells : List At)
 | arr (q : Bool) (size : Nat) (rows : List (List D))
 | lit (size : Nat) (rows : List (List At))
 deriving Inhabited
structure Hd where
 v : Value
 n : Nat -> Value
 u : Nat -> Prop
abbrev Ent := V × List Ob
abbrev St := List Ent
def St.get (σ : St) (t : Nat) : V := match σ[t]? with | some e => e.1 | none => .any
def YU (os : List Ob) (j : Nat) : Ob := match os[j]? with | some o => o | none => .none
def St.ob (σ : St) (t j : Nat) : Ob := match σ[t]? with | some e => YU e.2 j | none => .none
def St.put : St -> Nat -> V -> St
 | [], _, _ => []
 | e :: σ, 0, v => (v, e.2) :: σ
 | e :: σ, t + 1, v => e :: St.put σ t v
def St.Zs : St -> Nat -> Nat -> Ob -> St
 | [], _, _, _ => []
 | e :: σ, 0, j, o => (e.1, e.2.set j o) :: σ
 | e :: σ, t + 1, j, o => e :: St.Zs σ t j o
def St.new : St -> Nat -> V -> List Ob -> St
 | [], _, _, _ => []
 | _ :: σ, 0, v, os => (v, os) :: σ
 | e :: σ, t + 1, v, os => e :: St.new σ t v os
theorem St.QN (σ : St) (t : Nat) (v : V) : (σ.put t v).length = σ.length := by
 induction σ generalizing t with
 | nil => rfl
 | cons e σ ih => cases t <;> simp [St.put, ih]
theorem St.Y0 (σ : St) (t j : Nat) (o : Ob) : (σ.Zs t j o).length = σ.length := by
 induction σ generalizing t with
 | nil => rfl
 | cons e σ ih => cases t <;> simp [St.Zs, ih]
theorem St.kn (σ : St) (t : Nat) (v : V) (os : List Ob) : (σ.new t v os).length = σ.length := by
 induction σ generalizing t with
 | nil => rfl
 | cons e σ ih => cases t <;> simp [St.new, ih]
theorem St.KO (σ : St) (t : Nat) (v : V) (u : Nat) : (σ.put t v).get u = if u = t /\ t < σ.length then v else σ.get u := by
 induction σ generalizing t u with
 | nil => simp [St.put, St.get]
 | cons e σ ih =>
  cases t with
  | zero => cases u <;> simp [St.put, St.get]
  | succ t => cases u with
   | zero => simp [St.put, St.get]
   | succ u => have := ih t u; simp only [St.get, St.put] at this ⊢; simpa using this
theorem St.QP (σ : St) (t : Nat) (v : V) : (σ.put t v).ob = σ.ob := by
 funext u j
 induction σ generalizing t u with
 | nil => simp [St.put, St.ob]
 | cons e σ ih =>
  cases t with
  | zero => cases u <;> simp [St.put, St.ob]
  | succ t => cases u with
   | zero => simp [St.put, St.ob]
   | succ u => have := ih t u; simp only [St.ob, St.put] at this ⊢; simpa using this
theorem St.Xj (σ : St) (t j : Nat) (o : Ob) (u : Nat) : (σ.Zs t j o).get u = σ.get u := by
 induction σ generalizing t u with
 | nil => simp [St.Zs, St.get]
 | cons e σ ih =>
  cases t with
  | zero => cases u <;> simp [St.Zs, St.get]
  | succ t => cases u with
   | zero => simp [St.Zs, St.get]
   | succ u => have := ih t u; simp only [St.get, St.Zs] at this ⊢; simpa using this
theorem FG (os : List Ob) (j : Nat) (o : Ob) (i : Nat) : YU (os.set j o) i = if i = j /\ j < os.length then o else YU os i := by
 unfold YU
 rw [List.getElem?_set]
 by_cases h : j = i
 ·subst h
  by_cases h2 : j < os.length
  ·simp [h2]
  ·simp [h2]
 ·simp [h, Ne.symm h]
theorem St.XK (σ : St) (t j : Nat) (o : Ob) (u i : Nat) (hl : σ.ob t j ≠ .none) : (σ.Zs t j o).ob u i = if u = t /\ i = j then o else σ.ob u i := by
 induction σ generalizing t u with
 | nil => simp [St.ob] at hl
 | cons e σ ih =>
  cases t with
  | zero =>
   have hj : j < e.2.length := by
    simp only [St.ob, List.getElem?_cons_zero, YU] at hl
    rcases Nat.lt_or_ge j e.2.length with h | h
    ·exact h
    ·simp [List.getElem?_eq_none h] at hl
   cases u with
   | zero => simp [St.Zs, St.ob, FG, hj]
   | succ u => simp [St.Zs, St.ob]
  | succ t => cases u with
   | zero => simp [St.Zs, St.ob]
   | succ u =>
    have := ih t u (by simpa [St.ob] using hl)
    simp only [St.ob, St.Zs] at this ⊢; simpa using this
theorem St.Wc (σ : St) (t : Nat) (v : V) (os : List Ob) (u : Nat) : (σ.new t v os).get u = if u = t /\ t < σ.length then v else σ.get u := by
 induction σ generalizing t u with
 | nil => simp [St.new, St.get]
 | cons e σ ih =>
  cases t with
  | zero => cases u <;> simp [St.new, St.get]
  | succ t => cases u with
   | zero => simp [St.new, St.get]
   | succ u => have := ih t u; simp only [St.get, St.new] at this ⊢; simpa using this
theorem St.Qj (σ : St) (t : Nat) (v : V) (os : List Ob) (u j : Nat) : (σ.new t v os).ob u j = if u = t /\ t < σ.length then YU os j else σ.ob u j := by
 induction σ generalizing t u with
 | nil => simp [St.new, St.ob]
 | cons e σ ih =>
  cases t with
  | zero => cases u <;> simp [St.new, St.ob]
  | succ t => cases u with
   | zero => simp [St.new, St.ob]
   | succ u => have := ih t u; simp only [St.ob, St.new] at this ⊢; simpa using this
def Rf (h : Value) (len : Nat) : Value := match h with | .slice b _ c => .slice b len c | v => v
def D9 (h : Value) (size n lo len : Nat) (v : Value) : Prop :=
 lo + len <= n /\ (len = n -> lo = 0 -> v = h) /\ (lo = 0 -> v = Rf h len) /\ ∃ base cap, v = .slice base len cap /\ len <= cap /\ cap <= maxLen /\ (base = none -> cap = 0) /\ (0 < len -> ∃ b rn, h = .slice (some ⟨b, 0, none⟩) n rn /\ base = some ⟨b, lo * size, none⟩)
def wu : Option Nat -> Value -> Value -> Prop
 | none, x, v => v = x
 | some k, x, v => ∃ b n cap, x = .slice (some ⟨b, 0, none⟩) n cap /\ v = .pointer (some ⟨b, k, none⟩)
def YH (T : CS) (h : Nat -> Nat -> Hd) (ob : Nat -> Nat -> Ob) (w : World) : At -> Value -> Prop
 | .any, v => v.oneCell' = true
 | .d x, v => Rd T w v x
 | .nil _, v => v = .slice none 0 0
 | .sref t j lo len, v => v.oneCell' = true /\ (∀ q size rows, ob t j = .arr q size rows -> D9 (h t j).v size rows.length lo len v) /\ (∀ size rows, ob t j = .lit size rows -> D9 (h t j).v size rows.length lo len v)
 | .ptr t j i c, v => v.oneCell' = true /\ (∀ q size rows, ob t j = .arr q size rows -> ∃ b n cap, (h t j).v = .slice (some ⟨b, 0, none⟩) n cap /\ v = .pointer (some ⟨b, i * size + c, none⟩))
 | .bptr t c, v => v.oneCell' = true /\ ∀ cells, ob t 0 = .box cells -> ∃ b, (h t 0).v = .pointer (some ⟨b, 0, none⟩) /\ v = .pointer (some ⟨b, c, none⟩)
 | .fn f t, v => v.oneCell' = true /\ ∀ cells, ob t 0 = .box cells -> ∃ b, (h t 0).v = .pointer (some ⟨b, 0, none⟩) /\ v = .func (.func f) #[] #[.pointer (some ⟨b, 0, none⟩)]
 | .rptr r c, v => ∃ b off, ∃ g : Nat -> Value, v = .pointer (some ⟨b, off + c, none⟩) /\ ∀ k d, r[k]? = some d -> w.cell? ⟨b, off + k, none⟩ = some (g k) /\ T b (off + k) /\ Rd T w (g k) d
 | .tref t j i c o, v => v.oneCell' = true /\ ∀ size rows, ob t j = .arr true size rows -> wu o ((h t j).n (i * size + c)) v
theorem YH.Xc {T : CS} {h : Nat -> Nat -> Hd} {ob : Nat -> Nat -> Ob} {w : World} {x : At} {v : Value} (r : YH T h ob w x v) : v.oneCell' = true := by
 cases x with
 | any => exact r
 | d x => exact Rd.Xc r
 | nil s => cases r; rfl
 | sref => exact r.1
 | ptr => exact r.1
 | bptr => exact r.1
 | fn => exact r.1
 | tref => exact r.1
 | rptr r' c => obtain ⟨b, off, g, rfl, _⟩ := r; rfl
inductive Z5 {α β : Type} (R : α -> β -> Prop) : List α -> List β -> Prop
 | nil : Z5 R [] []
 | cons {a b l m} : R a b -> Z5 R l m -> Z5 R (a :: l) (b :: m)
theorem Z5.imp {α β : Type} {R S : α -> β -> Prop} (h : ∀ a b, R a b -> S a b) {l : List α} {m : List β} (x : Z5 R l m) : Z5 S l m := by
 induction x with
 | nil => exact .nil
 | cons r _ ih => exact .cons (h _ _ r) ih
theorem Z5.length {α β : Type} {R : α -> β -> Prop} {l : List α} {m : List β} (x : Z5 R l m) : l.length = m.length := by
 induction x with
 | nil => rfl
 | cons r _ ih => simp [ih]
theorem Z5.get {α β : Type} {R : α -> β -> Prop} {l : List α} {m : List β} (x : Z5 R l m) : ∀ (i : Nat) (a : α), l[i]? = some a -> ∃ b, m[i]? = some b /\ R a b := by
 induction x with
 | nil => intro i a h; simp at h
 | cons r _ ih =>
  intro i a h
  cases i with
  | zero => simp at h; subst h; exact ⟨_, by simp, r⟩
  | succ i => simpa using ih i a (by simpa using h)
theorem Z5.get' {α β : Type} {R : α -> β -> Prop} {l : List α} {m : List β} (x : Z5 R l m) : ∀ (i : Nat) (b : β), m[i]? = some b -> ∃ a, l[i]? = some a /\ R a b := by
 induction x with
 | nil => intro i a h; simp at h
 | cons r _ ih =>
  intro i a h
  cases i with
  | zero => simp at h; subst h; exact ⟨_, by simp, r⟩
  | succ i => simpa using ih i a (by simpa using h)
theorem Z5.zq {α β : Type} {R : α -> β -> Prop} {l : List α} {m : List β} (hl : l.length = m.length) (h : ∀ (i : Nat) (a : α) (b : β), l[i]? = some a -> m[i]? = some b -> R a b) : Z5 R l m := by
 induction l generalizing m with
 | nil => cases m with
  | nil => exact .nil
  | cons b m => simp at hl
 | cons a l ih => cases m with
  | nil => simp at hl
  | cons b m => exact .cons (h 0 a b (by simp) (by simp)) (ih (by simpa using hl) (fun i a b ha hb => h (i + 1) a b (by simpa using ha) (by simpa using hb)))
theorem Z5.append {α β : Type} {R : α -> β -> Prop} {l l' : List α} {m m' : List β} (x : Z5 R l m) (y : Z5 R l' m') : Z5 R (l ++ l') (m ++ m') := by
 induction x with
 | nil => exact y
 | cons r _ ih => exact .cons r ih
theorem Z5.take {α β : Type} {R : α -> β -> Prop} {l : List α} {m : List β} (x : Z5 R l m) (n : Nat) : Z5 R (l.take n) (m.take n) := by
 induction x generalizing n with
 | nil => simpa using Z5.nil
 | cons r _ ih => cases n with
  | zero => simpa using Z5.nil
  | succ n => simpa using Z5.cons r (ih n)
theorem Z5.drop {α β : Type} {R : α -> β -> Prop} {l : List α} {m : List β} (x : Z5 R l m) (n : Nat) : Z5 R (l.drop n) (m.drop n) := by
 induction x generalizing n with
 | nil => simpa using Z5.nil
 | cons r x ih => cases n with
  | zero => simpa using Z5.cons r x
  | succ n => simpa using ih n
theorem Z5.set {α β : Type} {R : α -> β -> Prop} {l : List α} {m : List β} (x : Z5 R l m) (i : Nat) {a : α} {b : β} (r : R a b) : Z5 R (l.set i a) (m.set i b) := by
 induction x generalizing i with
 | nil => simpa using Z5.nil
 | cons r' x ih => cases i with
  | zero => simpa using Z5.cons r x
  | succ i => simpa using Z5.cons r' (ih i)
theorem Z5.mem {α β : Type} {R : α -> β -> Prop} {l : List α} {m : List β} (x : Z5 R l m) {b : β} (h : b ∈ m) : ∃ a, a ∈ l /\ R a b := by
 obtain ⟨i, hi⟩ := List.mem_iff_getElem?.1 h
 obtain ⟨a, ha, r⟩ := x.get' i b hi
 exact ⟨a, List.mem_of_getElem? ha, r⟩
def Jn (T : CS) (h : Nat -> Nat -> Hd) (ob : Nat -> Nat -> Ob) (w : World) : V -> Value -> Prop
 | .any, _ => True
 | .one x, v => YH T h ob w x v
 | .agg xs, v => ∃ cs : Array Value, v = .agg cs /\ Z5 (YH T h ob w) xs cs.toList
 | .tup _, _ => False
 | .cnd _ _, _ => False
 | .fix _ _, _ => False
def QK (T : CS) (h : Nat -> Nat -> Hd) (ob : Nat -> Nat -> Ob) (w : World) : V -> Value -> Prop
 | .tup xs, v => ∃ vs : Array Value, v = .tuple vs /\ Z5 (Jn T h ob w) xs vs.toList
 | .cnd g x, v => (g = true -> Jn T h ob w x v) /\ (g = false -> v = undef)
 | .any, _ => True
 | .one x, v => YH T h ob w x v
 | .agg xs, v => Jn T h ob w (.agg xs) v
 | .fix u x, v => v = u /\ Jn T h ob w x v
theorem Jn.up {T : CS} {h : Nat -> Nat -> Hd} {ob : Nat -> Nat -> Ob} {w : World} {x : V} {v : Value} (r : Jn T h ob w x v) : QK T h ob w x v := by
 cases x <;> first | exact r | exact r.elim
def blk : Value -> Option Nat
 | .slice (some a) _ _ => some a.block
 | .pointer (some a) => some a.block
 | _ => none
def Hd.of (v : Value) : Hd := ⟨v, fun _ => undef, fun b => blk v = some b⟩
inductive Own (w : World) : Value -> D -> (Nat -> Prop) -> Prop
 | int (k : IntKind) (n : Int) (S : Nat -> Prop) : Own w (.int k n) (.int k n) S
 | bool (b : Bool) (S : Nat -> Prop) : Own w (.bool b) (.bool b) S
 | str (s : ByteArray) (S : Nat -> Prop) : Own w (.string s) (.str s) S
 | unk (v : Value) (h : v.oneCell' = true) (S : Nat -> Prop) : Own w v .unk S
 | sl (v : Value) (size : Nat) (rows : List (List D)) (S : Nat -> Prop) (e : TypeId) (xs : List Value) (Sk : Nat -> Nat -> Prop) (ho : w.ownsRow 0 e size v rows.length xs) (hz : ∀ r ∈ rows, r.length = size)
   (hb : ∀ b, blk v = some b -> S b) (hl : xs.length = rows.flatten.length) (hk : ∀ k x d, xs[k]? = some x -> rows.flatten[k]? = some d -> Own w x d (Sk k))
   (hs : ∀ k b, Sk k b -> S b /\ blk v ≠ some b) (hd : ∀ i j b, Sk i b -> Sk j b -> i = j) : Own w v (.sl size rows) S
def Qt (w : World) (xs : List Value) (ds : List D) (S : Nat -> Prop) : Prop :=
 xs.length = ds.length /\ ∃ Sk : Nat -> Nat -> Prop, (∀ k x d, xs[k]? = some x -> ds[k]? = some d -> Own w x d (Sk k)) /\ (∀ k b, Sk k b -> S b) /\ (∀ i j b, Sk i b -> Sk j b -> i = j)
def Qs (T : CS) (h : Nat -> Nat -> Hd) (ob : Nat -> Nat -> Ob) (w : World) (hd : Hd) : Ob -> Prop
 | .none => True
 | .box cells => ∃ b cs e, hd.v = .pointer (some ⟨b, 0, none⟩) /\ w.heap[b]? = some (.cells cs e (0, 0)) /\ Z5 (YH T h ob w) cells cs.toList
 | .arr false size rows => ∃ e xs, w.ownsRow 0 e size hd.v rows.length xs /\ (∀ r ∈ rows, r.length = size) /\ Z5 (Rd T w) xs rows.flatten
 | .arr true size rows => ∃ e xs, w.ownsRow 0 e size hd.v rows.length xs /\ (∀ r ∈ rows, r.length = size) /\ Qt w xs rows.flatten (fun b => hd.u b /\ blk hd.v ≠ some b) /\ (∀ k x d, xs[k]? = some x -> rows.flatten[k]? = some d -> d.scalar = false -> hd.n k = x)
 | .lit size rows => ∃ e xs, w.ownsRow 0 e size hd.v rows.length xs /\ (∀ r ∈ rows, r.length = size) /\ Z5 (YH T h ob w) rows.flatten xs
def Tof (T0 : CS) (X : Nat -> Prop) : CS := fun b k => T0 b k \/ X b
structure Yr (B : Nat -> Prop) (w w' : World) : Prop where
 os : w'.os = w.os
 tape : w'.tape = w.tape
 output : w'.output = w.output
 size : w.heap.size <= w'.heap.size
 block : ∀ k, B k -> w'.heap[k]? = w.heap[k]?
theorem Yr.refl (B : Nat -> Prop) (w : World) : Yr B w w := ⟨rfl, rfl, rfl, Nat.le_refl _, fun _ _ => rfl⟩
theorem Yr.trans {B : Nat -> Prop} {a b c : World} (h : Yr B a b) (k : Yr B b c) : Yr B a c :=
 ⟨k.os.trans h.os, k.tape.trans h.tape, k.output.trans h.output, Nat.le_trans h.size k.size, fun i hi => (k.block i hi).trans (h.block i hi)⟩
theorem Yr.Ru {B : Nat -> Prop} {w w' : World} (h : RowKit.Below w.heap.size w w') (hB : ∀ b, B b -> b < w.heap.size) : Yr B w w' := ⟨h.os, h.tape, h.output, h.size, fun k hk => h.block k (hB k hk)⟩
structure Rel (T0 : CS) (B : Nat -> Prop) (σ : St) (a : Act) (w : World) (X : Nat -> Prop) (h : Nat -> Nat -> Hd) : Prop where
 size : a.tmps.size = σ.length
 defers : a.defers = []
 hB : ∀ b, B b -> b < w.heap.size
 hX : ∀ b, X b -> ¬ B b /\ b < w.heap.size
 hT : ∀ b k, T0 b k -> B b
 slot : ∀ t, t < σ.length -> QK (Tof T0 X) h σ.ob w (σ.get t) (a.tmps.getD t undef)
 obj : ∀ t j, Qs (Tof T0 X) h σ.ob w (h t j) (σ.ob t j)
 ub : ∀ t j b, σ.ob t j ≠ .none -> blk (h t j).v = some b -> (h t j).u b
 own : ∀ t j b, σ.ob t j ≠ .none -> (h t j).u b -> ¬ B b /\ ¬ X b /\ b < w.heap.size
 inj : ∀ t j t' j' b, σ.ob t j ≠ .none -> σ.ob t' j' ≠ .none -> (h t j).u b -> (h t' j').u b -> t = t' /\ j = j'
def Q0 (T0 : CS) (B : Nat -> Prop) (σ : St) (a : Act) (w : World) : Prop := ∃ X h, Rel T0 B σ a w X h
theorem Rel.AX {T0 : CS} {B : Nat -> Prop} {σ : St} {a : Act} {w : World} {X : Nat -> Prop} {h : Nat -> Nat -> Hd} (r : Rel T0 B σ a w X h) {t j b : Nat} (ho : σ.ob t j ≠ .none) (hb : blk (h t j).v = some b) : ¬ B b /\ ¬ X b /\ b < w.heap.size :=
 r.own t j b ho (r.ub t j b ho hb)
section
variable {T T' : CS} {h h' : Nat -> Nat -> Hd} {ob sI : Nat -> Nat -> Ob} {w w' : World}
theorem YH.mono (hT : ∀ b k v, T b k -> w.cell? ⟨b, k, none⟩ = some v -> w'.cell? ⟨b, k, none⟩ = some v /\ T' b k) {x : At} {v : Value}
  (r : YH T h ob w x v) : YH T' h ob w' x v := by
 cases x with
 | any => exact r
 | d x => exact Rd.mono hT r
 | nil s => exact r
 | sref t j lo len => exact r
 | ptr t j i c => exact r
 | bptr t c => exact r
 | fn f t => exact r
 | tref t j i c o => exact r
 | rptr rr c =>
  obtain ⟨b, off, g, e, hk⟩ := r
  exact ⟨b, off, g, e, fun k d hd => ⟨(hT _ _ _ (hk k d hd).2.1 (hk k d hd).1).1, (hT _ _ _ (hk k d hd).2.1 (hk k d hd).1).2, Rd.mono hT (hk k d hd).2.2⟩⟩
theorem Jn.mono (hT : ∀ b k v, T b k -> w.cell? ⟨b, k, none⟩ = some v -> w'.cell? ⟨b, k, none⟩ = some v /\ T' b k) {x : V} {v : Value}
  (r : Jn T h ob w x v) : Jn T' h ob w' x v := by
 cases x with
 | any => exact r
 | one x => exact YH.mono hT r
 | agg xs => obtain ⟨cs, e, r⟩ := r; exact ⟨cs, e, r.imp fun _ _ => YH.mono hT⟩
 | tup xs => exact r.elim
 | cnd g x => exact r.elim
 | fix u x => exact r.elim
theorem QK.mono (hT : ∀ b k v, T b k -> w.cell? ⟨b, k, none⟩ = some v -> w'.cell? ⟨b, k, none⟩ = some v /\ T' b k) {x : V} {v : Value}
  (r : QK T h ob w x v) : QK T' h ob w' x v := by
 cases x with
 | any => exact r
 | one x => exact YH.mono hT r
 | agg xs => exact Jn.mono (x := .agg xs) hT r
 | tup xs => obtain ⟨vs, e, r⟩ := r; exact ⟨vs, e, r.imp fun _ _ => Jn.mono hT⟩
 | cnd g x => exact ⟨fun hg => Jn.mono hT (r.1 hg), r.2⟩
 | fix u x => exact ⟨r.1, Jn.mono hT r.2⟩
end
end Go.Vm
namespace Go.Vm
def unc : V -> V
 | .cnd _ x => x
 | .fix _ x => x
 | x => x
def gOf : V -> Bool
 | .cnd g _ => g
 | _ => true
def ZR (P : Program) (t : TypeId) : TypeId :=
 match P.underlying t with
 | some (.slice e) => e
 | some (.array _ e) => e
 | _ => 0
def Y2 (P : Program) (t : TypeId) : Bool :=
 match P.underlying t with
 | some (.slice e) => (P.info? e).isSome
 | _ => false
def MZ (P : Program) (t : TypeId) : Option Nat :=
 match P.underlying t with
 | some (.array n e) => if (P.info? e).isSome then some n else none
 | _ => none
def VE (P : Program) (t : TypeId) : Bool :=
 match P.underlying t with
 | some (.struct _) | some (.array _ _) => true
 | _ => false
def yW (P : Program) (t : TypeId) : Bool :=
 (P.underlying t).isSome && (P.info? t).isSome && (VE P t || P.cellsOf t == 1)
def X3 (P : Program) (t : TypeId) (f : Nat) : Nat :=
 match P.underlying t with
 | some (.struct fs) => (match fs[f]? with | some fd => fd.offset | none => 0)
 | _ => 0
def yS (P : Program) (t : TypeId) (f : Nat) : TypeId :=
 match P.underlying t with
 | some (.struct fs) => (match fs[f]? with | some fd => fd.type | none => 0)
 | _ => 0
def xb (P : Program) (t : TypeId) (f : Nat) : Bool :=
 match P.underlying t with
 | some (.struct fs) => (match fs[f]? with | some fd => (P.info? fd.type).isSome && decide (P.cellsOf fd.type ≠ 0) | none => false)
 | _ => false
def EU (P : Program) (t : TypeId) : Option IntKind :=
 match P.underlying t with
 | some (.int k) => some k
 | _ => none
def UQ (P : Program) (t : TypeId) : Bool :=
 match P.underlying t with
 | some .string => true
 | _ => false
def OL (P : Program) (t : TypeId) : Bool :=
 match P.underlying t with
 | some .bool => true
 | _ => false
def cst (P : Program) (ty : TypeId) : Value -> V
 | .int k n => .one (.d (.int k n))
 | .bool b => .one (.d (.bool b))
 | .string s => .one (.d (.str s))
 | .slice none 0 0 => .one (.nil (P.cellsOf (ZR P ty)))
 | _ => .any
def look (P : Program) (σ : St) (ty : TypeId) : Operand -> V
 | .tmp t => σ.get t
 | .const v => cst P ty v
 | _ => .any
section
variable {P : Program} {T0 : CS} {B : Nat -> Prop} {σ : St} {a : Act} {w : World} {X : Nat -> Prop} {h : Nat -> Nat -> Hd}
theorem Rel.get (r : Rel T0 B σ a w X h) (t : Nat) : QK (Tof T0 X) h σ.ob w (σ.get t) (a.tmps.getD t undef) := by
 rcases Nat.lt_or_ge t σ.length with hl | hl
 ·exact r.slot t hl
 ·simp [St.get, List.getElem?_eq_none hl, QK]
theorem Bk (T : CS) (h : Nat -> Nat -> Hd) (ob : Nat -> Nat -> Ob) (w : World) (ty : TypeId) (v : Value) : QK T h ob w (cst P ty v) v := by
 unfold cst
 split
 ·exact .int _ _
 ·exact .bool _
 ·exact .str _
 ·rfl
 ·trivial
theorem Rel.look (r : Rel T0 B σ a w X h) (ty : TypeId) (x : Operand) : QK (Tof T0 X) h σ.ob w (look P σ ty x) (a.eval x) := by
 cases x with
 | tmp t => exact r.get t
 | const v => exact Bk _ _ _ _ _ _
 | global g => trivial
 | func f => trivial
theorem QK.unc {T : CS} {h : Nat -> Nat -> Hd} {ob : Nat -> Nat -> Ob} {w : World} {x : V} {v : Value} (r : QK T h ob w x v) (hg : gOf x = true) : QK T h ob w (unc x) v := by
 cases x with
 | cnd g x => exact Jn.up (r.1 hg)
 | fix u x => exact Jn.up r.2
 | _ => exact r
theorem Rel.arg (r : Rel T0 B σ a w X h) (ty : TypeId) (x : Operand) {v : V} (he : Vm.unc (Vm.look P σ ty x) = v) (hg : gOf (Vm.look P σ ty x) = true) : QK (Tof T0 X) h σ.ob w v (a.eval x) := by
 subst he
 exact (r.look ty x).unc hg
theorem Rel.put (r : Rel T0 B σ a w X h) (d : Nat) (v : V) (val : Value) (hv : QK (Tof T0 X) h σ.ob w v val) : Rel T0 B (σ.put d v) (a.put (some d) val) w X h := by
 refine ⟨by simp [Act.put, r.size, St.QN], r.defers, r.hB, r.hX, r.hT, fun t ht => ?_, fun t j => ?_, fun t j b => ?_, fun t j b => ?_, fun t j t' j' b => ?_⟩
 ·rw [St.QP, St.KO]
  rw [St.QN] at ht
  by_cases hd : t = d /\ d < σ.length
  ·obtain ⟨rfl, hl⟩ := hd
   simp only [hl, and_self, if_true]
   have : (a.tmps.setIfInBounds t val).getD t undef = val := by simp [r.size, hl]
   simp only [Act.put, this]; exact hv
  ·rw [if_neg hd]
   have uH : d ≠ t := fun e => hd ⟨e.symm, e ▸ ht⟩
   have : (a.tmps.setIfInBounds d val).getD t undef = a.tmps.getD t undef := by simp [Array.getElem?_setIfInBounds_ne uH]
   simp only [Act.put, this]; exact r.slot t ht
 ·rw [St.QP]; exact r.obj t j
 ·rw [St.QP]; exact r.ub t j b
 ·rw [St.QP]; exact r.own t j b
 ·rw [St.QP]; exact r.inj t j t' j' b
end
def ldV (P : Program) (T : TypeId) (xs : List At) : V := if VE P T then .agg xs else (match xs with | [x] => .one x | _ => .any)
def L8 (k : IntKind) (x y : Int) : Int := k.wrap (BitVec.ofInt k.bits x &&& BitVec.ofInt k.bits y).toNat
def iOr (k : IntKind) (x y : Int) : Int := k.wrap (BitVec.ofInt k.bits x ||| BitVec.ofInt k.bits y).toNat
def Ch (k : IntKind) (x y : Int) : Int := k.wrap (BitVec.ofInt k.bits x ^^^ BitVec.ofInt k.bits y).toNat
def LW (op : BinOp) (k : IntKind) (x y : Int) (v : V) : Prop :=
 match op with
 | .eql => v = .one (.d (.bool (x == y)))
 | .neq => v = .one (.d (.bool (x != y)))
 | .lss => v = .one (.d (.bool (decide (x < y))))
 | .leq => v = .one (.d (.bool (decide (x <= y))))
 | .gtr => v = .one (.d (.bool (decide (x > y))))
 | .geq => v = .one (.d (.bool (decide (x >= y))))
 | .add => v = .one (.d (.int k (k.wrap (x + y))))
 | .sub => v = .one (.d (.int k (k.wrap (x - y))))
 | .mul => v = .one (.d (.int k (k.wrap (x * y))))
 | .quo => y ≠ 0 /\ v = .one (.d (.int k (k.wrap (x.tdiv y))))
 | .rem => y ≠ 0 /\ v = .one (.d (.int k (x.tmod y)))
 | .and => v = .one (.d (.int k (L8 k x y)))
 | .or => v = .one (.d (.int k (iOr k x y)))
 | .xor => v = .one (.d (.int k (Ch k x y)))
 | .shl => 0 <= y /\ v = .one (.d (.int k (k.wrap (x * 2 ^ (min y.toNat k.bits)))))
 | .shr => 0 <= y /\ v = .one (.d (.int k (x.fdiv (2 ^ (min y.toNat k.bits)))))
 | _ => False
def MT (op : BinOp) (x y : ByteArray) (v : V) : Prop :=
 match op with
 | .add => ((x.size + y.size : Nat) : Int) <= 9223372036854775807 /\ v = .one (.d (.str (x ++ y)))
 | .eql => v = .one (.d (.bool (decide (x = y))))
 | .neq => v = .one (.d (.bool (!decide (x = y))))
 | _ => False
def Rz (op : BinOp) (x y : Bool) (v : V) : Prop :=
 match op with
 | .eql => v = .one (.d (.bool (x == y)))
 | .neq => v = .one (.d (.bool (!(x == y))))
 | _ => False
theorem Ef {P : Program} {op : BinOp} {k : IntKind} {x y : Int} {v : V} {t : TypeId} {kk : IntKind} (hk : (op = .shl \/ op = .shr) \/ kk = k) (hb : LW op k x y v) (w : World) :
  ∃ d, v = .one (.d d) /\ ∃ val, (binOp op t (.int k x) (.int kk y)).run P w = .ok val w /\ ∀ T w', Rd T w' val d := by
 cases op <;> simp only [LW] at hb
 case shl => obtain ⟨h0, rfl⟩ := hb; exact ⟨_, rfl, _, by simp [binOp, Op.shift, Int.not_lt.2 h0], fun _ _ => .int _ _⟩
 case shr => obtain ⟨h0, rfl⟩ := hb; exact ⟨_, rfl, _, by simp [binOp, Op.shift, Int.not_lt.2 h0], fun _ _ => .int _ _⟩
 all_goals (have dt : kk = k := by rcases hk with (hk | hk) | hk <;> first | exact hk | cases hk)
 all_goals subst dt
 case quo => obtain ⟨h0, rfl⟩ := hb; exact ⟨_, rfl, _, by simp [binOp, Op.intDiv, h0], fun _ _ => .int _ _⟩
 case rem => obtain ⟨h0, rfl⟩ := hb; exact ⟨_, rfl, _, by simp [binOp, Op.intDiv, h0], fun _ _ => .int _ _⟩
 case add => subst hb; exact ⟨_, rfl, _, by simp [binOp, Op.intArith], fun _ _ => .int _ _⟩
 case sub => subst hb; exact ⟨_, rfl, _, by simp [binOp, Op.intArith], fun _ _ => .int _ _⟩
 case mul => subst hb; exact ⟨_, rfl, _, by simp [binOp, Op.intArith], fun _ _ => .int _ _⟩
 case and => subst hb; exact ⟨_, rfl, _, by simp [binOp, Op.intBits, L8], fun _ _ => .int _ _⟩
 case or => subst hb; exact ⟨_, rfl, _, by simp [binOp, Op.intBits, iOr], fun _ _ => .int _ _⟩
 case xor => subst hb; exact ⟨_, rfl, _, by simp [binOp, Op.intBits, Ch], fun _ _ => .int _ _⟩
 all_goals (subst hb; exact ⟨_, rfl, .bool _, by simp only [binOp, Op.intCmp, ne_eq, not_true_eq_false, if_false]; rfl, fun _ _ => .bool _⟩)
theorem Eb (x y : ByteArray) : (x.toList == y.toList) = decide (x = y) := by
 rw [ByteArray.toList_eq, ByteArray.toList_eq, Bool.eq_iff_iff]
 simp only [beq_iff_eq, decide_eq_true_eq]
 constructor
 ·intro hh; cases x; cases y; simp_all
 ·rintro rfl; rfl
theorem Ei {P : Program} {op : BinOp} {x y : ByteArray} {v : V} {t : TypeId} (hb : MT op x y v) (w : World) :
  ∃ d, v = .one (.d d) /\ ∃ val, (binOp op t (.string x) (.string y)).run P w = .ok val w /\ ∀ T w', Rd T w' val d := by
 cases op <;> simp only [MT] at hb
 case add => obtain ⟨h0, rfl⟩ := hb; exact ⟨_, rfl, _, by simp only [binOp, Op.stringOp]; rw [if_neg (by simp [IntKind.max, IntKind.signed, IntKind.bits]; omega)]; rfl, fun _ _ => .str _⟩
 case eql => subst hb; exact ⟨_, rfl, .bool _, by simp only [binOp, Op.stringOp, Eb]; rfl, fun _ _ => .bool _⟩
 case neq => subst hb; exact ⟨_, rfl, .bool _, by simp only [binOp, Op.stringOp, Eb]; rfl, fun _ _ => .bool _⟩
theorem run_equalIn_bool {P : Program} {t : TypeId} (hu : P.underlying t = some .bool) (d : Nat) (x y : Bool) (w : World) : (Op.equalIn (d + 1) t (.bool x) (.bool y)).run P w = .ok (x == y) w := by
 simp [Op.equalIn, run_underlying hu]
theorem Fk {P : Program} {op : BinOp} {x y : Bool} {v : V} {t : TypeId} (ht : OL P t = true) (hb : Rz op x y v) (w : World) :
  ∃ d, v = .one (.d d) /\ ∃ val, (binOp op t (.bool x) (.bool y)).run P w = .ok val w /\ ∀ T w', Rd T w' val d := by
 have hu : P.underlying t = some .bool := by
  unfold OL at ht; split at ht <;> first | assumption | cases ht
 cases op <;> simp only [Rz] at hb
 case eql => subst hb; exact ⟨_, rfl, _, by simp only [binOp, Op.equal, Op.maxDepth, Sem.run_bind, run_equalIn_bool hu 9999, Result.andThen_ok, Sem.run_pure], fun _ _ => .bool _⟩
 case neq => subst hb; exact ⟨_, rfl, _, by simp only [binOp, Op.equal, Op.maxDepth, Sem.run_bind, run_equalIn_bool hu 9999, Result.andThen_ok, Sem.run_pure], fun _ _ => .bool _⟩
end Go.Vm
namespace Go.Vm
def kW (P : Program) (σ : St) (x : Operand) (k : IntKind) (n : Int) : Prop := gOf (look P σ 0 x) = true /\ unc (look P σ 0 x) = .one (.d (.int k n))
def bnd (P : Program) (σ : St) (tq : Nat) : Option Operand -> Nat -> Prop
 | none, n => n = tq
 | some x, n => ∃ k i, gOf (look P σ 0 x) = true /\ unc (look P σ 0 x) = .one (.d (.int k i)) /\ 0 <= i /\ n = i.toNat
def cut {α : Type} (xs : List α) (off n : Nat) : List α := (xs.drop off).take n
def jO (P : Program) : Nat -> TypeId -> Option (List At)
 | 0, _ => none
 | n + 1, t =>
  match P.underlying t with
  | some .bool => some [.d (.bool false)]
  | some (.int k) => some [.d (.int k 0)]
  | some .string => some [.d (.str ⟨#[]⟩)]
  | some (.slice e) => some [.nil (P.cellsOf e)]
  | some (.struct fs) => (fs.toList.mapM (fun f => jO P n f.type)).map List.flatten
  | some (.array m e) => (jO P n e).map (fun r => (List.replicate m r).flatten)
  | _ => none
def zAt : At -> Value -> Bool
 | .d (.bool b), .bool b' => b == b'
 | .d (.int k n), .int k' n' => k == k' && n == n'
 | .d (.str s), .string s' => s.data.toList == s'.data.toList
 | .nil _, .slice none 0 0 => true
 | _, _ => false
def Dq : List At -> List Value -> Bool
 | [], [] => true
 | x :: xs, v :: vs => zAt x v && Dq xs vs
 | _, _ => false
def Xn (P : Program) (t : TypeId) : Bool :=
 match jO P 12 t, P.info? t with
 | some row, some i => (match i.zero with | some z => Dq row z.cells.toList && i.size == row.length | none => false)
 | _, _ => false
theorem Bp {x : At} {v : Value} (hz : zAt x v = true) (T : CS) (h : Nat -> Nat -> Hd) (ob : Nat -> Nat -> Ob) (w : World) : YH T h ob w x v := by
 unfold zAt at hz
 split at hz
 ·simp at hz; subst hz; exact .bool _
 ·simp at hz; obtain ⟨rfl, rfl⟩ := hz; exact .int _ _
 ·rename_i s s'
  simp at hz
  have : s = s' := by cases s; cases s'; simp_all
  subst this; exact .str _
 ·rfl
 ·cases hz
theorem C0 {xs : List At} {vs : List Value} (hz : Dq xs vs = true) (T : CS) (h : Nat -> Nat -> Hd) (ob : Nat -> Nat -> Ob) (w : World) : Z5 (YH T h ob w) xs vs := by
 induction xs generalizing vs with
 | nil => cases vs with
  | nil => exact .nil
  | cons v vs => simp [Dq] at hz
 | cons x xs ih => cases vs with
  | nil => simp [Dq] at hz
  | cons v vs => simp [Dq] at hz; exact .cons (Bp hz.1 _ _ _ _) (ih hz.2)
theorem M1 {P : Program} {t : TypeId} {row : List At} (hz : Xn P t = true) (hr : jO P 12 t = some row) :
  ∃ i z, P.info? t = some i /\ i.zero = some z /\ i.size = row.length /\ (∀ T h ob w, Z5 (YH T h ob w) row z.cells.toList) := by
 unfold Xn at hz
 rw [hr] at hz
 split at hz
 ·rename_i uW i tS hi
  cases tS
  split at hz
  ·rename_i z rm
   simp at hz
   exact ⟨i, z, hi, rm, hz.2, fun T h ob w => C0 hz.1 T h ob w⟩
  ·cases hz
 ·cases hz
def V.cells : V -> List At
 | .one c => [c]
 | .agg xs => xs
 | _ => []
def V.flat : V -> Bool
 | .one _ => true
 | .agg _ => true
 | _ => false
def place {α : Type} (r : List α) (off : Nat) (xs : List α) : List α := r.take off ++ xs ++ r.drop (off + xs.length)
def xp (P : Program) (T : TypeId) (i : Nat) : Nat := match P.underlying T with | some (.array _ e) => i * P.cellsOf e | _ => X3 P T i
def bTy (P : Program) (T : TypeId) (i : Nat) : TypeId := match P.underlying T with | some (.array _ e) => e | _ => yS P T i
def bOk (P : Program) (T : TypeId) (i : Nat) : Bool := match P.underlying T with
 | some (.array _ e) => (P.info? e).isSome
 | some (.struct fs) => fs.all (fun f => (P.info? f.type).isSome) && decide (i < fs.size)
 | _ => false
def VN (P : Program) (σ : St) (T : TypeId) : List (Nat × Operand) -> List At -> List At -> Prop
 | [], r, out => out = r
 | (i, x) :: ps, r, out => bOk P T i = true /\ gOf (look P σ (bTy P T i) x) = true /\ (unc (look P σ (bTy P T i) x)).flat = true /\
   (unc (look P σ (bTy P T i) x)).cells.length = P.cellsOf (bTy P T i) /\ xp P T i + P.cellsOf (bTy P T i) <= r.length /\
   VN P σ T ps (place r (xp P T i) (unc (look P σ (bTy P T i) x)).cells) out
def Tm (P : Program) (t : TypeId) : Bool := match P.underlying t with | some .bool => true | some (.int _) => true | some .string => true | _ => false
def ki (P : Program) : List Field -> Nat -> Bool
 | [], _ => true
 | f :: fs, i => decide (f.name ≠ "_") && f.offset == i && Tm P f.type && ki P fs (i + 1)
def VT (P : Program) : List Field -> Nat -> Bool
 | [], _ => true
 | f :: fs, i => decide (f.name ≠ "_") && f.offset == i && (if Tm P f.type then VT P fs (i + 1) else (match P.underlying f.type with | some (.struct gs) => yW P f.type && VE P f.type && P.cellsOf f.type == gs.size && decide (0 < gs.size) && !P.stoodInHeld f.type && ki P gs.toList 0 && VT P fs (i + gs.size) | _ => false))
def It (P : Program) (f : Field) : List TypeId := if Tm P f.type then [f.type] else (match P.underlying f.type with | some (.struct gs) => gs.toList.map (·.type) | _ => [])
def KD (P : Program) (T : TypeId) : List TypeId := (P.fieldsOf T).toList.flatMap (It P)
def Tw (P : Program) (t : TypeId) : Bool := match P.underlying t with
 | some (.struct fs) => !P.stoodInHeld t && !P.eqGuardType P.depth t && VT P fs.toList 0
 | _ => false
def BY (P : Program) (t : TypeId) : At -> At -> Option Bool
 | .d (.int k a), .d (.int k' b) => if k = k' /\ (EU P t).isSome then some (a == b) else none
 | .d (.bool a), .d (.bool b) => if OL P t then some (a == b) else none
 | .d (.str a), .d (.str b) => if UQ P t then some (decide (a = b)) else none
 | _, _ => none
def X2 (P : Program) : List TypeId -> List At -> List At -> Option Bool
 | [], _, _ => some true
 | f :: fs, x :: xs, y :: ys => (match BY P f x y, X2 P fs xs ys with | some p, some q => some (p && q) | _, _ => none)
 | _, _, _ => none
def FU (P : Program) (op : BinOp) (T : TypeId) (x y v : V) : Prop :=
 match x, y with
 | .one (.d (.int k m)), .one (.d (.int k' n)) => ((op = .shl \/ op = .shr) \/ k' = k) /\ LW op k m n v
 | .one (.d (.str m)), .one (.d (.str n)) => MT op m n v
 | .one (.d (.bool m)), .one (.d (.bool n)) => OL P T = true /\ Rz op m n v
 | .agg xs, .agg ys => Tw P T = true /\ ∃ q, X2 P (KD P T) xs ys = some q /\ ((op = .eql /\ v = .one (.d (.bool q))) \/ (op = .neq /\ v = .one (.d (.bool (!q)))))
 | _, _ => False
def je (t j i : Nat) : Nat -> List D -> List At
 | _, [] => []
 | c, x :: xs => (match x with | .sl _ _ => .tref t j i c none | x => .d x) :: je t j i (c + 1) xs
def Vs (q : Bool) (t j i c : Nat) (xs : List D) : List At := match q with | true => je t j i c xs | false => xs.map .d
def YQ (P : Program) (σ : St) (op : Op) (ty : TypeId) (v : V) : Prop :=
 match op with
 | .move x => v = look P σ ty x
 | .assign x => v = look P σ ty x
 | .pick c a b => ∃ bc p q, gOf (look P σ ty c) = true /\ unc (look P σ ty c) = .one (.d (.bool bc)) /\ (bc = true -> unc (look P σ ty a) = .one (.d (.bool p))) /\ (bc = false -> unc (look P σ ty b) = .one (.d (.bool q))) /\
   (bc = true -> gOf (look P σ ty a) = true) /\ (bc = false -> gOf (look P σ ty b) = true) /\ v = .one (.d (.bool (cond bc p q)))
 | .load T x => gOf (look P σ 0 x) = true /\ yW P T = true /\
   (match unc (look P σ 0 x) with
   | .one (.bptr t c) => ∃ cells, σ.ob t 0 = .box cells /\ c + P.cellsOf T <= cells.length /\ v = ldV P T (cut cells c (P.cellsOf T))
   | .one (.ptr t j i c) => ∃ q size rows, σ.ob t j = .arr q size rows /\ i < rows.length /\ c + P.cellsOf T <= size /\ v = ldV P T (Vs q t j i c (cut (rows.getD i []) c (P.cellsOf T)))
   | .one (.rptr r c) => c + P.cellsOf T <= r.length /\ v = ldV P T ((cut r c (P.cellsOf T)).map .d)
   | .one (.tref t j i c (some k)) => ∃ size rows s, σ.ob t j = .arr true size rows /\ i < rows.length /\ (rows.getD i [])[c]? = some (.sl 1 s) /\ P.cellsOf T = 1 /\ k < s.length /\ (s.getD k []).all D.scalar = true /\ v = ldV P T ((s.getD k []).map .d)
   | _ => False)
 | .fieldAddr T x f => gOf (look P σ 0 x) = true /\ xb P T f = true /\
   (match unc (look P σ 0 x) with
   | .one (.bptr t c) => (∃ cells, σ.ob t 0 = .box cells) /\ v = .one (.bptr t (c + X3 P T f))
   | .one (.ptr t j i c) => (∃ q size rows, σ.ob t j = .arr q size rows) /\ v = .one (.ptr t j i (c + X3 P T f))
   | .one (.rptr r c) => v = .one (.rptr r (c + X3 P T f))
   | .one (.tref t j i c (some k)) => (∃ size rows, σ.ob t j = .arr true size rows) /\ v = .one (.tref t j i c (some (k + X3 P T f)))
   | _ => False)
 | .nilCheck x => gOf (look P σ 0 x) = true /\
   (match unc (look P σ 0 x) with
   | .one (.bptr t c) => (∃ cells, σ.ob t 0 = .box cells) /\ v = .one (.bptr t c)
   | _ => False)
 | .indexAddr T x ix => ∃ k i, kW P σ ix k i /\ 0 <= i /\ gOf (look P σ 0 x) = true /\
   (match unc (look P σ 0 x) with
   | .one (.d (.sl size rows)) => Y2 P T = true /\ size = P.cellsOf (ZR P T) /\ 0 < size /\ i < (rows.length : Int) /\ v = .one (.rptr (rows.getD i.toNat []) 0)
   | .one (.sref t j lo len) => Y2 P T = true /\ 0 < P.cellsOf (ZR P T) /\ (∃ q rows, σ.ob t j = .arr q (P.cellsOf (ZR P T)) rows) /\ i < (len : Int) /\ v = .one (.ptr t j (lo + i.toNat) 0)
   | .one (.bptr t c) => (∃ cells, σ.ob t 0 = .box cells) /\ (∃ n, MZ P T = some n /\ 1 < n /\ i < (n : Int)) /\ v = .one (.bptr t (c + i.toNat * P.cellsOf (ZR P T)))
   | .one (.tref t j m c none) => Y2 P T = true /\ 0 < P.cellsOf (ZR P T) /\ (∃ size rows s, σ.ob t j = .arr true size rows /\ m < rows.length /\ (rows.getD m [])[c]? = some (.sl (P.cellsOf (ZR P T)) s) /\ i < (s.length : Int)) /\ v = .one (.tref t j m c (some (i.toNat * P.cellsOf (ZR P T))))
   | _ => False)
 | .index T x ix => ∃ k i, kW P σ ix k i /\ 0 <= i /\ gOf (look P σ 0 x) = true /\
   (match unc (look P σ 0 x) with
   | .one (.d (.str s)) => UQ P T = true /\ i < (s.size : Int) /\ v = .one (.d (.int .u8 (s.data.toList.getD i.toNat 0).toNat))
   | .agg xs => (∃ n, MZ P T = some n /\ i < (n : Int)) /\ yW P (ZR P T) = true /\ i.toNat * P.cellsOf (ZR P T) + P.cellsOf (ZR P T) <= xs.length /\ v = ldV P (ZR P T) (cut xs (i.toNat * P.cellsOf (ZR P T)) (P.cellsOf (ZR P T)))
   | _ => False)
 | .slice T x lo hi none => gOf (look P σ 0 x) = true /\
   (match unc (look P σ 0 x) with
   | .one (.d (.str s)) => UQ P T = true /\ ∃ l h, bnd P σ 0 lo l /\ bnd P σ s.size hi h /\ l <= h /\ h <= s.size /\ v = .one (.d (.str (s.extract l h)))
   | .one (.d (.sl size rows)) => Y2 P T = true /\ size = P.cellsOf (ZR P T) /\ ∃ l h, bnd P σ 0 lo l /\ bnd P σ rows.length hi h /\ l <= h /\ h <= rows.length /\ v = .one (.d (.sl size (cut rows l (h - l))))
   | .one (.sref t j o len) => Y2 P T = true /\ (∃ q rows, σ.ob t j = .arr q (P.cellsOf (ZR P T)) rows) /\ ∃ l h, bnd P σ 0 lo l /\ bnd P σ len hi h /\ l <= h /\ h <= len /\ v = .one (.sref t j (o + l) (h - l))
   | _ => False)
 | .binOp op T x y _ => gOf (look P σ T x) = true /\ gOf (look P σ T y) = true /\
   FU P op T (unc (look P σ T x)) (unc (look P σ T y)) v
 | .unOp op _ x => gOf (look P σ 0 x) = true /\
   (match op, unc (look P σ 0 x) with
   | .not, .one (.d (.bool b)) => v = .one (.d (.bool (!b)))
   | .neg, .one (.d (.int k n)) => v = .one (.d (.int k (k.wrap (-n))))
   | _, _ => False)
 | .convert S T x => gOf (look P σ 0 x) = true /\ (P.underlying S).isSome = true /\
   (match unc (look P σ 0 x) with
   | .one (.d (.int _ n)) => ∃ k, EU P T = some k /\ v = .one (.d (.int k (k.wrap n)))
   | _ => False)
 | .extract x i => gOf (look P σ 0 x) = true /\
   (match unc (look P σ 0 x) with
   | .tup xs => xs[i]? = some v /\ v.flat = true
   | _ => False)
 | .field T x f => gOf (look P σ 0 x) = true /\ xb P T f = true /\ yW P (yS P T f) = true /\
   (match unc (look P σ 0 x) with
   | .agg xs => X3 P T f + P.cellsOf (yS P T f) <= xs.length /\ v = ldV P (yS P T f) (cut xs (X3 P T f) (P.cellsOf (yS P T f)))
   | _ => False)
 | .build T parts => Xn P T = true /\ VE P T = true /\ ∃ z out, jO P 12 T = some z /\ VN P σ T parts.toList z out /\ v = .agg out
 | .call c =>
   (match c.callee, c.args.toList, c.argTypes.toList with
   | .builtin .len, [x], [t] => gOf (look P σ t x) = true /\
     (match unc (look P σ t x) with
     | .one (.d (.str s)) => UQ P t = true /\ v = .one (.d (.int .i64 s.size))
     | .one (.d (.sl _ rows)) => Y2 P t = true /\ v = .one (.d (.int .i64 rows.length))
     | .one (.nil _) => Y2 P t = true /\ v = .one (.d (.int .i64 0))
     | .one (.sref u j _ len) => Y2 P t = true /\ ((∃ q size rows, σ.ob u j = .arr q size rows) \/ ∃ size rows, σ.ob u j = .lit size rows) /\ v = .one (.d (.int .i64 len))
     | .one (.tref u j i c none) => Y2 P t = true /\ ∃ size rows n s, σ.ob u j = .arr true size rows /\ i < rows.length /\ (rows.getD i [])[c]? = some (.sl n s) /\ v = .one (.d (.int .i64 s.length))
     | _ => False)
   | .builtin .max, [x, y], _ => ∃ k m n, kW P σ x k m /\ kW P σ y k n /\ v = .one (.d (.int k (if n > m then n else m)))
   | .builtin .min, [x, y], _ => ∃ k m n, kW P σ x k m /\ kW P σ y k n /\ v = .one (.d (.int k (if n < m then n else m)))
   | _, _, _ => False)
 | _ => False
end Go.Vm
namespace Go.Vm
section
variable {P : Program} {T0 : CS} {B : Nat -> Prop} {σ : St} {a : Act} {w : World} {X : Nat -> Prop} {h : Nat -> Nat -> Hd}
theorem z8 (b off n : Nat) : (⟨b, off, none⟩ : Addr).add n = ⟨b, off + n, none⟩ := by
 unfold Addr.add; split <;> simp_all
theorem qQ {T : TypeId} (ht : yW P T = true) : ∃ d i, P.underlying T = some d /\ P.info? T = some i /\ i.size = P.cellsOf T /\ (VE P T = true \/ P.cellsOf T = 1) := by
 simp only [yW, Bool.and_eq_true, Bool.or_eq_true, beq_iff_eq] at ht
 obtain ⟨⟨h1, h2⟩, h3⟩ := ht
 obtain ⟨d, hd⟩ := Option.isSome_iff_exists.1 h1
 obtain ⟨i, hi⟩ := Option.isSome_iff_exists.1 h2
 exact ⟨d, i, hd, hi, by simp [Program.cellsOf, hi], h3⟩
theorem Tg {T : TypeId} {d : TypeDesc} (hd : P.underlying T = some d) (w : World) : (isAgg T).run P w = .ok (VE P T) w := by
 unfold isAgg VE
 rw [hd]
 simp only [Sem.run_bind, run_underlying hd, Result.andThen_ok]
 cases d <;> simp
theorem JG {T : TypeId} {i : TypeInfo} (hi : P.info? T = some i) (w : World) : (sizeOf T).run P w = .ok (P.cellsOf T) w := by
 simp [sizeOf, typeInfo, hi, Program.cellsOf]
theorem Ct {T : TypeId} (ht : yW P T = true) {b off : Nat} {cs : List Value} (hl : cs.length = P.cellsOf T) (hc : ∀ j v, cs[j]? = some v -> w.cell? ⟨b, off + j, none⟩ = some v) :
  ∃ val, (Instr.loadAt T (.pointer (some ⟨b, off, none⟩))).run P w = .ok val w /\ (VE P T = true -> val = .agg cs.toArray) /\ (VE P T = false -> cs = [val]) := by
 obtain ⟨d, i, hd, hi, tM, tH⟩ := qQ ht
 cases pC : VE P T with
 | true =>
  refine ⟨.agg cs.toArray, ?_, fun _ => rfl, (fun hh => by cases hh)⟩
  have := run_loadCells_list (P := P) w ⟨b, off, none⟩ cs (fun j v hv => by rw [z8]; exact hc j v hv)
  simp only [Instr.loadAt, Instr.sureAddr, loadVar, Sem.run_bind, Sem.run_pure, Result.andThen_ok, Tg hd, pC, if_true, JG hi, <- hl, this]
 | false =>
  rcases tH with tH | tH
  ·rw [pC] at tH; cases tH
  ·rw [tH] at hl
   obtain ⟨val, rfl⟩ := List.length_eq_one_iff.1 hl
   refine ⟨val, ?_, (fun hh => by cases hh), fun _ => rfl⟩
   have lW := hc 0 val (by simp)
   simp only [Nat.add_zero] at lW
   simp [Instr.loadAt, Instr.sureAddr, loadVar, Tg hd, pC, load, Sem.run, lW]
theorem Ex {T : TypeId} (bW : yW P T = true) {T' : CS} {ob : Nat -> Nat -> Ob} {xs : List At} {cs : List Value} {val : Value} (hx : Z5 (YH T' h ob w) xs cs)
  (h1 : VE P T = true -> val = .agg cs.toArray) (h2 : VE P T = false -> cs = [val]) : QK T' h ob w (ldV P T xs) val := by
 unfold ldV
 cases pC : VE P T with
 | true => simp only [if_true]; exact ⟨_, h1 pC, by simpa using hx⟩
 | false =>
  simp only [Bool.false_eq_true, if_false]
  rw [h2 pC] at hx
  cases hx with
  | cons r hx => cases hx; exact r
theorem Z5.cut {α β : Type} {R : α -> β -> Prop} {l : List α} {m : List β} (x : Z5 R l m) (o n : Nat) : Z5 R (Vm.cut l o n) (Vm.cut m o n) := (x.drop o).take n
theorem Yu {α : Type} (l : List α) (o n : Nat) (hl : o + n <= l.length) : (cut l o n).length = n := by simp [cut]; omega
theorem J7 {α : Type} (l : List α) (o n j : Nat) (v : α) (hv : (cut l o n)[j]? = some v) : l[o + j]? = some v := by
 simp only [cut, List.getElem?_take, List.getElem?_drop] at hv
 split at hv
 ·exact hv
 ·cases hv
theorem xQ {α : Type} : ∀ (rows : List (List α)) (size : Nat), (∀ r ∈ rows, r.length = size) -> ∀ (i : Nat) (r : List α), rows[i]? = some r -> ∀ (j : Nat) (d : α), r[j]? = some d -> rows.flatten[i * size + j]? = some d
 | [], _, _, i, r, hr, _, _, _ => by simp at hr
 | r0 :: rows, size, hz, 0, r, hr, j, d, hd => by
  simp at hr; subst hr
  have hj : j < r0.length := (List.getElem?_eq_some_iff.1 hd).1
  simp [List.getElem?_append_left hj, hd]
 | r0 :: rows, size, hz, i + 1, r, hr, j, d, hd => by
  have ih := xQ rows size (fun r hr => hz r (by simp [hr])) i r (by simpa using hr) j d hd
  have h0 : r0.length = size := hz r0 (by simp)
  rw [List.flatten_cons, List.getElem?_append_right (by rw [h0, Nat.add_mul]; omega), h0]
  have : (i + 1) * size + j - size = i * size + j := by rw [Nat.add_mul]; omega
  rw [this]; exact ih
theorem YI {α : Type} (rows : List (List α)) (size : Nat) (hz : ∀ r ∈ rows, r.length = size) : rows.flatten.length = rows.length * size := by
 induction rows with
 | nil => simp
 | cons r rows ih => rw [List.flatten_cons, List.length_append, ih (fun r hr => hz r (by simp [hr])), hz r (by simp), List.length_cons, Nat.add_mul]; omega
theorem Rd.row {T : CS} {v : Value} {size : Nat} {rows : List (List D)} (r : Rd T w v (.sl size rows)) (i : Nat) (hi : i < rows.length) (tM : 0 < size) :
  ∃ a len cap, v = .slice (some a) len cap /\ len = rows.length /\ a.spot = none /\
   ∃ g : Nat -> Value, ∀ k d, (rows.getD i [])[k]? = some d -> w.cell? ⟨a.block, a.off + i * size + k, none⟩ = some (g k) /\ T a.block (a.off + i * size + k) /\ Rd T w (g k) d := by
 cases r with
 | nil => simp at hi
 | sl a len cap size rows g hl hc hm hz hs hg hr =>
  have um : rows[i]? = some (rows.getD i []) := by simp [List.getD_eq_getElem?_getD, List.getElem?_eq_getElem hi]
  have uH : rows.flatten ≠ [] := by
   have hlen := YI rows size hz
   have hp : 0 < rows.length * size := Nat.mul_pos (by omega) tM
   intro he
   have h0 : rows.flatten.length = 0 := by rw [he]; rfl
   omega
  refine ⟨a, len, cap, rfl, hl.symm, hs uH, fun k => g (i * size + k), fun k d hd => ?_⟩
  have hf := xQ rows size hz i _ um k d hd
  have h1 := hg _ _ hf
  rw [Nat.add_assoc]
  exact ⟨h1.1, h1.2, hr _ _ hf⟩
theorem L9 {T : CS} {v : Value} {size : Nat} {rows : List (List D)} (r : Rd T w v (.sl size rows)) : ∀ x ∈ rows, x.length = size := by
 cases r with
 | nil => intro x hx; cases hx
 | sl a len cap size rows g hl hc hm hz hs hg hr => exact hz
theorem Ec {T : CS} {v : Value} {size : Nat} {rows : List (List D)} (r : Rd T w v (.sl size rows)) : ∃ base cap, v = .slice base rows.length cap /\ rows.length <= cap /\ cap <= maxLen := by
 cases r with
 | nil => exact ⟨none, 0, rfl, by simp, by simp [maxLen]⟩
 | sl a len cap size rows g hl hc hm hz hs hg hr => exact ⟨some a, cap, by rw [hl], by omega, hm⟩
theorem XT {t : TypeId} (ht : Y2 P t = true) : ∃ i, P.underlying t = some (.slice (ZR P t)) /\ P.info? (ZR P t) = some i /\ i.size = P.cellsOf (ZR P t) := by
 unfold Y2 at ht
 split at ht
 ·rename_i e he
  obtain ⟨i, hi⟩ := Option.isSome_iff_exists.1 ht
  have : ZR P t = e := by simp [ZR, he]
  rw [this]
  exact ⟨i, he, hi, by simp [Program.cellsOf, hi]⟩
 ·cases ht
theorem MB {t : TypeId} {n : Nat} (ht : MZ P t = some n) : ∃ i, P.underlying t = some (.array n (ZR P t)) /\ P.info? (ZR P t) = some i /\ i.size = P.cellsOf (ZR P t) := by
 unfold MZ at ht
 split at ht
 ·rename_i m e he
  split at ht
  ·rename_i hh
   cases ht
   obtain ⟨i, hi⟩ := Option.isSome_iff_exists.1 hh
   have : ZR P t = e := by simp [ZR, he]
   rw [this]
   exact ⟨i, he, hi, by simp [Program.cellsOf, hi]⟩
  ·cases ht
 ·cases ht
theorem SV {t : TypeId} {f : Nat} (ht : xb P t f = true) : ∃ fs fd i, P.underlying t = some (.struct fs) /\ fs[f]? = some fd /\ fd.offset = X3 P t f /\ fd.type = yS P t f /\ P.info? fd.type = some i /\ i.size ≠ 0 := by
 unfold xb at ht
 split at ht
 ·rename_i fs he
  split at ht
  ·rename_i fd hf
   simp at ht
   obtain ⟨i, hi⟩ := Option.isSome_iff_exists.1 ht.1
   exact ⟨fs, fd, i, he, hf, by simp [X3, he, hf], by simp [yS, he, hf], hi, by simpa [Program.cellsOf, hi] using ht.2⟩
  ·cases ht
 ·cases ht
theorem xG {t : TypeId} (ht : UQ P t = true) : P.underlying t = some .string := by
 unfold UQ at ht; split at ht <;> first | assumption | cases ht
theorem Lb {t : TypeId} {k : IntKind} (ht : EU P t = some k) : P.underlying t = some (.int k) := by
 unfold EU at ht
 split at ht
 ·cases ht; assumption
 ·cases ht
theorem UM {T : CS} {v : Value} {k : IntKind} {n : Int} (r : Rd T w v (.int k n)) : v = .int k n := by cases r; rfl
theorem xu {T : CS} {v : Value} {b : Bool} (r : Rd T w v (.bool b)) : v = .bool b := by cases r; rfl
theorem U1 {T : CS} {v : Value} {s : ByteArray} (r : Rd T w v (.str s)) : v = .string s := by cases r; rfl
theorem z7 (r : Rel T0 B σ a w X h) {x : Operand} {k : IntKind} {n : Int} (hx : kW P σ x k n) : a.eval x = .int k n :=
 UM (r.arg 0 x hx.2 hx.1)
end
end Go.Vm
namespace Go.Vm
section
variable {P : Program} {T0 : CS} {B : Nat -> Prop} {σ : St} {a : Act} {w : World} {X : Nat -> Prop} {h : Nat -> Nat -> Hd}
theorem Own.Xc {v : Value} {d : D} {S : Nat -> Prop} (h : Own w v d S) : v.oneCell' = true := by
 cases h with
 | int => rfl
 | bool => rfl
 | str => rfl
 | unk _ h => exact h
 | sl v size rows S e xs Sk ho hz hb hl hk hs hd => rcases ho.2 with ⟨rfl, _⟩ | ⟨g, cap, cur, rfl, _⟩ <;> rfl
theorem M5 {t j i : Nat} : ∀ {xs : List D} {c k : Nat} {x : At}, (je t j i c xs)[k]? = some x -> ∃ d, xs[k]? = some d /\ x = (match d with | .sl _ _ => .tref t j i (c + k) none | d => .d d)
 | [], c, k, x, hx => by simp [je] at hx
 | d :: xs, c, 0, x, hx => by
  simp only [je, List.getElem?_cons_zero] at hx
  cases hx
  exact ⟨d, by simp, by cases d <;> simp⟩
 | d :: xs, c, k + 1, x, hx => by
  simp only [je, List.getElem?_cons_succ] at hx
  obtain ⟨d', uU, rfl⟩ := M5 hx
  exact ⟨d', by simpa using uU, by cases d' <;> simp; omega⟩
theorem SM {t j i : Nat} : ∀ (c : Nat) (xs : List D), (je t j i c xs).length = xs.length
 | _, [] => rfl
 | c, d :: xs => by simp [je, SM (c + 1) xs]
theorem IM (q : Bool) (t j i c : Nat) (xs : List D) : (Vs q t j i c xs).length = xs.length := by
 cases q <;> simp [Vs, SM]
theorem Rel.box (r : Rel T0 B σ a w X h) {t : Nat} {cells : List At} (ho : σ.ob t 0 = .box cells) {c : Nat} {v : Value} (hv : YH (Tof T0 X) h σ.ob w (.bptr t c) v) :
  ∃ b cs e, (h t 0).v = .pointer (some ⟨b, 0, none⟩) /\ v = .pointer (some ⟨b, c, none⟩) /\ w.heap[b]? = some (.cells cs e (0, 0)) /\ Z5 (YH (Tof T0 X) h σ.ob w) cells cs.toList := by
 obtain ⟨b, hb, rfl⟩ := hv.2 cells ho
 have ua := r.obj t 0
 rw [ho] at ua
 obtain ⟨b', cs, e, uP, hh, uJ⟩ := ua
 rw [hb] at uP
 cases uP
 exact ⟨b, cs, e, hb, rfl, hh, uJ⟩
theorem J0 {b : Nat} {cs : Array Value} {e : TypeId} {f : Nat × Nat} (hh : w.heap[b]? = some (.cells cs e f)) (k : Nat) (v : Value) (hv : cs.toList[k]? = some v) : w.cell? ⟨b, k, none⟩ = some v := by
 simp only [World.cell?, hh]
 simpa using hv
theorem Rel.arr (r : Rel T0 B σ a w X h) {t j : Nat} {q : Bool} {size : Nat} {rows : List (List D)} (ho : σ.ob t j = .arr q size rows) {i c : Nat} {v : Value} (hv : YH (Tof T0 X) h σ.ob w (.ptr t j i c) v) :
  ∃ b cap cur e xs, (h t j).v = .slice (some ⟨b, 0, none⟩) rows.length cap /\ v = .pointer (some ⟨b, i * size + c, none⟩) /\ w.heap[b]? = some (.cells cur e (0, 0)) /\ rows.length <= cap /\ cap <= maxLen /\ cur.size = cap * size /\
   cur.toList.take (rows.length * size) = xs /\ (∀ r ∈ rows, r.length = size) /\ xs.length = rows.flatten.length /\ (q = false -> Z5 (Rd (Tof T0 X) w) xs rows.flatten) /\
   (q = true -> Qt w xs rows.flatten (fun b => (h t j).u b /\ blk (h t j).v ≠ some b) /\ ∀ k x d, xs[k]? = some x -> rows.flatten[k]? = some d -> d.scalar = false -> (h t j).n k = x) := by
 obtain ⟨b, n, cap, hb, rfl⟩ := hv.2 q size rows ho
 have ua := r.obj t j
 rw [ho] at ua
 cases q with
 | false =>
  obtain ⟨e, xs, uK, hz, uJ⟩ := ua
  rcases uK.2 with ⟨h0, _⟩ | ⟨g, oc, cur, hg, _, hh, hle, sV, sU, ss⟩
  ·rw [hb] at h0; cases h0
  ·rw [hb] at hg
   cases hg
   exact ⟨b, cap, cur, e, xs, hb, rfl, hh, hle, sV, sU, ss, hz, uJ.length, fun _ => uJ, fun hh => by cases hh⟩
 | true =>
  obtain ⟨e, xs, uK, hz, uJ, hn⟩ := ua
  rcases uK.2 with ⟨h0, _⟩ | ⟨g, oc, cur, hg, _, hh, hle, sV, sU, ss⟩
  ·rw [hb] at h0; cases h0
  ·rw [hb] at hg
   cases hg
   exact ⟨b, cap, cur, e, xs, hb, rfl, hh, hle, sV, sU, ss, hz, uJ.1, (fun hh => by cases hh), fun _ => ⟨uJ, hn⟩⟩
theorem Own.hdr {v : Value} {n : Nat} {s : List (List D)} {S : Nat -> Prop} (h : Own w v (.sl n s) S) (hp : 0 < s.length) : ∃ b cap, v = .slice (some ⟨b, 0, none⟩) s.length cap := by
 cases h with
 | sl v size rows S e xs Sk ho hz hb hl hk hs hd =>
  obtain ⟨_, ⟨_, h0⟩ | ⟨g, cap, cur, hv, _⟩⟩ := ho
  ·omega
  ·exact ⟨g, cap, hv⟩
theorem Rel.nest (r : Rel T0 B σ a w X h) {t j i c size n : Nat} {rows s : List (List D)} (ho : σ.ob t j = .arr true size rows) (hi : i < rows.length) (uM : (rows.getD i [])[c]? = some (.sl n s)) : ∃ v0 S, (h t j).n (i * size + c) = v0 /\ Own w v0 (.sl n s) S := by
 have h0 := r.obj t j
 rw [ho] at h0
 obtain ⟨e, vs, sX, hz, ⟨hl, Sk, o1, o2, o3⟩, hn⟩ := h0
 have um : rows[i]? = some (rows.getD i []) := by simp [List.getD_eq_getElem?_getD, List.getElem?_eq_getElem hi]
 have ta : rows.flatten[i * size + c]? = some (.sl n s) := xQ rows size hz i _ um c _ uM
 have uQ : i * size + c < vs.length := by rw [hl]; exact (List.getElem?_eq_some_iff.1 ta).1
 have ny : vs[i * size + c]? = some vs[i * size + c] := List.getElem?_eq_getElem uQ
 exact ⟨_, _, hn _ _ _ ny ta rfl, o1 _ _ _ ny ta⟩
theorem EA (r : Rel T0 B σ a w X h) {o : Oper} {T : TypeId} {x : Operand} {v : V} (uE : o.op = .load T x) (hs : YQ P σ o.op o.type v) :
  ∃ val, (execOp a.eval o).run P w = .ok (.value val) w /\ QK (Tof T0 X) h σ.ob w v val := by
 simp only [uE, YQ] at hs
 obtain ⟨hg, sh, hs⟩ := hs
 have hx := r.arg (P := P) 0 x rfl hg
 have key : ∀ (b off : Nat) (xs : List At) (cs : List Value), a.eval x = .pointer (some ⟨b, off, none⟩) -> v = ldV P T xs -> cs.length = P.cellsOf T ->
   (∀ j u, cs[j]? = some u -> w.cell? ⟨b, off + j, none⟩ = some u) -> Z5 (YH (Tof T0 X) h σ.ob w) xs cs -> ∃ val, (execOp a.eval o).run P w = .ok (.value val) w /\ QK (Tof T0 X) h σ.ob w v val := by
  intro b off xs cs he hv hl hc uJ
  obtain ⟨val, hr, h1, h2⟩ := Ct (P := P) sh hl hc
  refine ⟨val, ?_, ?_⟩
  ·simp only [execOp, uE, he, Sem.run_bind, hr, Result.andThen_ok, Sem.run_pure]
  ·rw [hv]; exact Ex sh uJ h1 h2
 split at hs
 ·rename_i t c heq
  rw [heq] at hx
  obtain ⟨cells, ho, hle, hv⟩ := hs
  obtain ⟨b, cs, e, hb, he, hh, uJ⟩ := r.box ho hx
  have hlen := uJ.length
  refine key b c _ (cut cs.toList c (P.cellsOf T)) he hv (Yu _ _ _ (by omega)) (fun j u hu => J0 hh _ _ (J7 _ _ _ _ _ hu)) (uJ.cut _ _)
 ·rename_i t j i c heq
  rw [heq] at hx
  obtain ⟨q, size, rows, ho, hi, hle, hv⟩ := hs
  obtain ⟨b, cap, cur, e, xs, hb, he, hh, tn, sV, sU, ss, hz, oR, uJ, uK⟩ := r.arr ho hx
  have um : rows[i]? = some (rows.getD i []) := by simp [List.getD_eq_getElem?_getD, List.getElem?_eq_getElem hi]
  have pS : (rows.getD i []).length = size := hz _ (List.mem_of_getElem? um)
  have tb := YI rows size hz
  have hmul : i * size + size <= rows.length * size := by rw [<- Nat.succ_mul]; exact Nat.mul_le_mul_right _ hi
  have pz : ∀ k d', (cut (rows.getD i []) c (P.cellsOf T))[k]? = some d' -> rows.flatten[i * size + c + k]? = some d' := by
   intro k d' uU
   have h2 := xQ rows size hz i _ um (c + k) d' (J7 _ _ _ _ _ uU)
   rw [show i * size + c + k = i * size + (c + k) by omega]; exact h2
  refine key b (i * size + c) _ (cut xs (i * size + c) (P.cellsOf T)) he hv (Yu _ _ _ (by omega)) (fun j u hu => ?_) ?_
  ·have h1 := J7 _ _ _ _ _ hu
   refine J0 hh _ _ ?_
   rw [<- ss, List.getElem?_take] at h1
   split at h1
   ·exact h1
   ·cases h1
  ·refine Z5.zq (by rw [Yu _ _ _ (by omega), IM, Yu _ _ _ (by omega)]) (fun k x u hx hu => ?_)
   have h1 := J7 _ _ _ _ _ hu
   cases q with
   | false =>
    obtain ⟨d, hd, hr⟩ := (uJ rfl).get _ _ h1
    simp only [Vs] at hx
    rw [List.getElem?_map] at hx
    cases uU : (cut (rows.getD i []) c (P.cellsOf T))[k]? with
    | none => rw [uU] at hx; cases hx
    | some d' =>
     rw [uU] at hx
     cases hx
     rw [pz k d' uU] at hd
     cases hd
     exact hr
   | true =>
    obtain ⟨⟨_, Sk, uK, _, _⟩, hn⟩ := uK rfl
    simp only [Vs] at hx
    obtain ⟨d', uU, rfl⟩ := M5 hx
    have uc := uK _ _ _ h1 (pz k d' uU)
    cases d' with
    | sl s rs =>
     refine ⟨uc.Xc, fun ug uT sZ => ?_⟩
     rw [ho] at sZ; cases sZ
     show _ = _
     rw [<- hn _ _ _ h1 (pz k _ uU) rfl, Nat.add_assoc]
    | int k n => cases uc; exact .int _ _
    | bool b => cases uc; exact .bool _
    | str s => cases uc; exact .str _
    | unk => exact .unk _ uc.Xc
 ·rename_i rr c heq
  rw [heq] at hx
  obtain ⟨hle, hv⟩ := hs
  obtain ⟨b, off, g, he, hk⟩ := hx
  refine key b (off + c) _ ((List.range (P.cellsOf T)).map fun j => g (c + j)) he hv (by simp) (fun j u hu => ?_) ?_
  ·rw [List.getElem?_map] at hu
   rcases Nat.lt_or_ge j (P.cellsOf T) with hj | hj
   ·rw [List.getElem?_range hj] at hu
    cases hu
    have hd := hk (c + j) (rr[c + j]'(by omega)) (List.getElem?_eq_getElem _)
    rw [Nat.add_assoc]; exact hd.1
   ·rw [List.getElem?_eq_none (by simpa using hj)] at hu; cases hu
  ·refine Z5.zq (by rw [List.length_map, Yu _ _ _ (by omega)]; simp) (fun k x u hx hu => ?_)
   rw [List.getElem?_map] at hx hu
   cases uU : (cut rr c (P.cellsOf T))[k]? with
   | none => rw [uU] at hx; cases hx
   | some d' =>
    rw [uU] at hx
    cases hx
    have cG : k < P.cellsOf T := by have := (List.getElem?_eq_some_iff.1 uU).1; rw [Yu _ _ _ (by omega)] at this; exact this
    rw [List.getElem?_range cG] at hu
    cases hu
    exact (hk (c + k) d' (J7 _ _ _ _ _ uU)).2.2
 ·rename_i t j i c k heq
  rw [heq] at hx
  obtain ⟨size, rows, s, ho, hi, uM, eZ, dz, tL, hv⟩ := hs
  obtain ⟨v0, S, hn, uK⟩ := r.nest ho hi uM
  obtain ⟨b, len, rn, nk, he⟩ := hx.2 _ _ ho
  rw [hn] at nk
  cases uK with
  | sl v ug uT S e xs Sk sZ hz hb hl hk uO hd =>
   rcases sZ.2 with ⟨rfl, h0⟩ | ⟨g, cap, cur, rfl, _, hh, tz, sV, sU, ss⟩
   ·omega
   ·cases nk
    have um : s[k]? = some (s.getD k []) := by simp [List.getD_eq_getElem?_getD, List.getElem?_eq_getElem dz]
    have pS : (s.getD k []).length = 1 := hz _ (List.mem_of_getElem? um)
    have tb := YI s 1 hz
    refine key b k _ (cut xs k (P.cellsOf T)) he hv (Yu _ _ _ (by omega)) (fun j u hu => ?_) ?_
    ·have h1 := J7 _ _ _ _ _ hu
     refine J0 hh _ _ ?_
     rw [<- ss, List.getElem?_take] at h1
     split at h1
     ·exact h1
     ·cases h1
    ·refine Z5.zq (by rw [List.length_map, Yu _ _ _ (by omega)]; omega) (fun q x u hx hu => ?_)
     rw [List.getElem?_map] at hx
     cases uU : (s.getD k [])[q]? with
     | none => rw [uU] at hx; cases hx
     | some d' =>
      rw [uU] at hx
      cases hx
      have hq : q = 0 := by have := (List.getElem?_eq_some_iff.1 uU).1; omega
      subst hq
      have hf := xQ s 1 hz k _ um 0 d' uU
      rw [Nat.mul_one] at hf
      have gP := hk _ _ _ (J7 _ _ _ _ _ hu) hf
      have cH : d'.scalar = true := List.all_eq_true.1 tL d' (List.mem_of_getElem? uU)
      cases d' with
      | sl s' rs => cases cH
      | int k' n' => cases gP; exact .int _ _
      | bool b' => cases gP; exact .bool _
      | str s' => cases gP; exact .str _
      | unk => exact .unk _ gP.Xc
 ·exact hs.elim
theorem Wi {T : TypeId} {f : Nat} (hf : xb P T f = true) (b off : Nat) : (Instr.fieldAt T (.pointer (some ⟨b, off, none⟩)) f).run P w = .ok (.pointer (some ⟨b, off + X3 P T f, none⟩)) w := by
 obtain ⟨fs, fd, i, hu, mN, nI, sh, hi, uH⟩ := SV hf
 have ux : P.cellsOf fd.type ≠ 0 := by simpa [Program.cellsOf, hi] using uH
 simp [Instr.fieldAt, run_underlying hu, mN, Instr.sureAddr, fieldPlace, JG hi, ux, z8, nI]
theorem Oq (r : Rel T0 B σ a w X h) {o : Oper} {T : TypeId} {x : Operand} {f : Nat} {v : V} (uE : o.op = .fieldAddr T x f) (hs : YQ P σ o.op o.type v) :
  ∃ val, (execOp a.eval o).run P w = .ok (.value val) w /\ QK (Tof T0 X) h σ.ob w v val := by
 simp only [uE, YQ] at hs
 obtain ⟨hg, hf, hs⟩ := hs
 have hx := r.arg (P := P) 0 x rfl hg
 split at hs
 ·rename_i t c heq
  rw [heq] at hx
  obtain ⟨⟨cells, ho⟩, rfl⟩ := hs
  obtain ⟨b, hb, he⟩ := hx.2 cells ho
  refine ⟨.pointer (some ⟨b, c + X3 P T f, none⟩), by simp only [execOp, uE, he, Sem.run_bind, Wi hf, Result.andThen_ok, Sem.run_pure], rfl, fun uN _ => ⟨b, hb, rfl⟩⟩
 ·rename_i t j i c heq
  rw [heq] at hx
  obtain ⟨⟨q, size, rows, ho⟩, rfl⟩ := hs
  obtain ⟨b, n, cap, hb, he⟩ := hx.2 q size rows ho
  refine ⟨.pointer (some ⟨b, i * size + c + X3 P T f, none⟩), by simp only [execOp, uE, he, Sem.run_bind, Wi hf, Result.andThen_ok, Sem.run_pure], rfl, fun q' ug uT uc => ?_⟩
  rw [ho] at uc
  cases uc
  exact ⟨b, n, cap, hb, by rw [Nat.add_assoc]⟩
 ·rename_i rr c heq
  rw [heq] at hx
  subst hs
  obtain ⟨b, off, g, he, hk⟩ := hx
  exact ⟨.pointer (some ⟨b, off + c + X3 P T f, none⟩), by simp only [execOp, uE, he, Sem.run_bind, Wi hf, Result.andThen_ok, Sem.run_pure], b, off, g, by rw [Nat.add_assoc], hk⟩
 ·rename_i t j i c k heq
  rw [heq] at hx
  obtain ⟨⟨size, rows, ho⟩, rfl⟩ := hs
  obtain ⟨b, n, cap, hb, he⟩ := hx.2 size rows ho
  refine ⟨.pointer (some ⟨b, k + X3 P T f, none⟩), by simp only [execOp, uE, he, Sem.run_bind, Wi hf, Result.andThen_ok, Sem.run_pure], rfl, fun ug uT uc => ?_⟩
  rw [ho] at uc
  cases uc
  exact ⟨b, n, cap, hb, rfl⟩
 ·exact hs.elim
theorem LH (r : Rel T0 B σ a w X h) {o : Oper} {x : Operand} {v : V} (uE : o.op = .nilCheck x) (hs : YQ P σ o.op o.type v) :
  ∃ val, (execOp a.eval o).run P w = .ok (.value val) w /\ QK (Tof T0 X) h σ.ob w v val := by
 simp only [uE, YQ] at hs
 obtain ⟨hg, hs⟩ := hs
 have hx := r.arg (P := P) 0 x rfl hg
 split at hs
 ·rename_i t c heq
  rw [heq] at hx
  obtain ⟨⟨cells, ho⟩, rfl⟩ := hs
  obtain ⟨b, hb, he⟩ := hx.2 cells ho
  exact ⟨.pointer (some ⟨b, c, none⟩), by simp only [execOp, uE, he, Sem.run_pure], rfl, fun uN _ => ⟨b, hb, rfl⟩⟩
 ·exact hs.elim
theorem TK {T : TypeId} (ht : Y2 P T = true) (ad : Addr) (oN : ad.spot = none) (len cap : Nat) (k : IntKind) (i : Int) (h0 : 0 <= i) (hl : i < (len : Int)) :
  (Instr.indexAt T (.slice (some ad) len cap) (.int k i)).run P w = .ok (.pointer (some ⟨ad.block, ad.off + i.toNat * P.cellsOf (ZR P T), none⟩)) w := by
 obtain ⟨ti, hu, hi, tM⟩ := XT ht
 obtain ⟨b, off, sp⟩ := ad
 simp at oN; subst oN
 simp [Instr.indexAt, asIntOf, run_underlying hu, h0, hl, JG hi, z8]
theorem Hc {T : TypeId} {n : Nat} (ht : MZ P T = some n) (bX : 1 < n) (b off : Nat) (k : IntKind) (i : Int) (h0 : 0 <= i) (hl : i < (n : Int)) :
  (Instr.indexAt T (.pointer (some ⟨b, off, none⟩)) (.int k i)).run P w = .ok (.pointer (some ⟨b, off + i.toNat * P.cellsOf (ZR P T), none⟩)) w := by
 obtain ⟨ti, hu, hi, tM⟩ := MB ht
 simp [Instr.indexAt, Instr.sureAddr, asIntOf, run_underlying hu, h0, hl, JG hi, z8]
theorem Oz (r : Rel T0 B σ a w X h) {o : Oper} {T : TypeId} {x ix : Operand} {v : V} (uE : o.op = .indexAddr T x ix) (hs : YQ P σ o.op o.type v) :
  ∃ val, (execOp a.eval o).run P w = .ok (.value val) w /\ QK (Tof T0 X) h σ.ob w v val := by
 simp only [uE, YQ] at hs
 obtain ⟨k, i, fK, h0, hg, hs⟩ := hs
 have hx := r.arg (P := P) 0 x rfl hg
 have ni := z7 r fK
 split at hs
 ·rename_i size rows heq
  rw [heq] at hx
  obtain ⟨ht, rfl, tO, uQ, rfl⟩ := hs
  have ic : i.toNat < rows.length := by omega
  obtain ⟨ad, len, cap, he, hlen, oN, g, hk⟩ := Rd.row (show Rd _ _ _ _ from hx) i.toNat ic tO
  refine ⟨.pointer (some ⟨ad.block, ad.off + i.toNat * P.cellsOf (ZR P T), none⟩), by simp only [execOp, uE, he, ni, Sem.run_bind, TK ht ad oN len cap k i h0 (by omega), Result.andThen_ok, Sem.run_pure], ad.block, ad.off + i.toNat * P.cellsOf (ZR P T), g, by simp, hk⟩
 ·rename_i t j lo len heq
  rw [heq] at hx
  obtain ⟨ht, tO, ⟨q, rows, ho⟩, uQ, rfl⟩ := hs
  obtain ⟨hle, _, _, base, cap, he, tn, _, _, hb⟩ := hx.2.1 _ _ rows ho
  obtain ⟨b, rn, hh, rN⟩ := hb (by omega)
  rw [rN] at he
  refine ⟨.pointer (some ⟨b, lo * P.cellsOf (ZR P T) + i.toNat * P.cellsOf (ZR P T), none⟩), by simp only [execOp, uE, he, ni, Sem.run_bind, TK ht ⟨b, lo * P.cellsOf (ZR P T), none⟩ rfl len cap k i h0 uQ, Result.andThen_ok, Sem.run_pure], rfl, fun q' ug uT uc => ?_⟩
  rw [ho] at uc
  cases uc
  exact ⟨b, rows.length, rn, hh, by simp [Nat.add_mul]⟩
 ·rename_i t c heq
  rw [heq] at hx
  obtain ⟨⟨cells, ho⟩, ⟨n, hn, h1, uQ⟩, rfl⟩ := hs
  obtain ⟨b, hb, he⟩ := hx.2 cells ho
  exact ⟨.pointer (some ⟨b, c + i.toNat * P.cellsOf (ZR P T), none⟩), by simp only [execOp, uE, he, ni, Sem.run_bind, Hc hn h1 b c k i h0 uQ, Result.andThen_ok, Sem.run_pure], rfl, fun uN _ => ⟨b, hb, rfl⟩⟩
 ·rename_i t j m c heq
  rw [heq] at hx
  obtain ⟨ht, tO, ⟨size, rows, s, ho, hm, uM, uQ⟩, rfl⟩ := hs
  obtain ⟨v0, S, hn, uK⟩ := r.nest ho hm uM
  have he : a.eval x = v0 := by rw [<- hn]; exact hx.2 size rows ho
  obtain ⟨b, cap, nk⟩ := uK.hdr (by omega)
  rw [nk] at he hn
  refine ⟨.pointer (some ⟨b, 0 + i.toNat * P.cellsOf (ZR P T), none⟩), by simp only [execOp, uE, he, ni, Sem.run_bind, TK ht ⟨b, 0, none⟩ rfl s.length cap k i h0 uQ, Result.andThen_ok, Sem.run_pure], rfl, fun ug uT uc => ?_⟩
  rw [ho] at uc
  cases uc
  exact ⟨b, s.length, cap, hn, by simp⟩
 ·exact hs.elim
end
end Go.Vm
namespace Go.Vm
section
variable {P : Program} {T0 : CS} {B : Nat -> Prop} {σ : St} {a : Act} {w : World} {X : Nat -> Prop} {h : Nat -> Nat -> Hd}
theorem MU {T : TypeId} (ht : yW P T = true) {cs : Array Value} {off : Nat} (hl : off + P.cellsOf T <= cs.size) :
  ∃ val, (part T cs off).run P w = .ok val w /\ (VE P T = true -> val = .agg (cut cs.toList off (P.cellsOf T)).toArray) /\ (VE P T = false -> cut cs.toList off (P.cellsOf T) = [val]) := by
 obtain ⟨d, i, hd, hi, tM, tH⟩ := qQ ht
 cases pC : VE P T with
 | true =>
  refine ⟨.agg (cs.extract off (off + P.cellsOf T)), ?_, fun _ => ?_, (fun hh => by cases hh)⟩
  ·simp only [part, Sem.run_bind, Tg hd, pC, Result.andThen_ok, if_true, JG hi, Sem.run_pure]
  ·congr 1
   apply Array.toList_inj.1
   simp [cut, Array.toList_extract, List.extract_eq_take_drop]
 | false =>
  rcases tH with tH | tH
  ·rw [pC] at tH; cases tH
  ·rw [tH] at hl ⊢
   have uQ : off < cs.size := by omega
   refine ⟨cs[off], ?_, (fun hh => by cases hh), fun _ => ?_⟩
   ·simp [part, Tg hd, pC, Array.getElem?_eq_getElem uQ]
   ·have : cut cs.toList off 1 = [cs.toList[off]'(by simpa using uQ)] := by
     simp only [cut]
     rw [List.drop_eq_getElem_cons (by simpa using uQ)]
     simp
    rw [this]
    simp
theorem GQ {T : TypeId} (ht : yW P T = true) {xs : List At} {x : Value} {off : Nat} (hx : QK (Tof T0 X) h σ.ob w (.agg xs) x) (hl : off + P.cellsOf T <= xs.length) :
  ∃ cs : Array Value, x = .agg cs /\ ∃ val, (part T cs off).run P w = .ok val w /\ QK (Tof T0 X) h σ.ob w (ldV P T (cut xs off (P.cellsOf T))) val := by
 obtain ⟨cs, rfl, uJ⟩ := hx
 obtain ⟨val, hr, h1, h2⟩ := MU (P := P) (w := w) ht (cs := cs) (off := off) (by have := uJ.length; simp at this; omega)
 exact ⟨cs, rfl, val, hr, Ex ht (uJ.cut _ _) h1 h2⟩
theorem Gq (r : Rel T0 B σ a w X h) {o : Oper} {T : TypeId} {x ix : Operand} {v : V} (uE : o.op = .index T x ix) (hs : YQ P σ o.op o.type v) :
  ∃ val, (execOp a.eval o).run P w = .ok (.value val) w /\ QK (Tof T0 X) h σ.ob w v val := by
 simp only [uE, YQ] at hs
 obtain ⟨k, i, fK, h0, hg, hs⟩ := hs
 have hx := r.arg (P := P) 0 x rfl hg
 have ni := z7 r fK
 split at hs
 ·rename_i s heq
  rw [heq] at hx
  obtain ⟨ht, uQ, rfl⟩ := hs
  have he := U1 hx
  have ic : i.toNat < s.size := by omega
  refine ⟨.int .u8 (s.data.toList.getD i.toNat 0).toNat, ?_, .int _ _⟩
  have tT : s[i.toNat]? = some (s.data.toList.getD i.toNat 0) := by
   rw [List.getD_eq_getElem?_getD]
   have h1 : s.data.toList[i.toNat]? = some (s.data[i.toNat]'ic) := by
    rw [List.getElem?_eq_getElem (by simpa using ic)]; simp
   rw [h1, getElem?_pos s i.toNat ic]
   rfl
  simp [execOp, uE, he, ni, Instr.index, asIntOf, run_underlying (xG ht), h0, tT]
 ·rename_i xs heq
  rw [heq] at hx
  obtain ⟨⟨n, hn, uQ⟩, ht, hl, rfl⟩ := hs
  obtain ⟨ti, hu, hi, tM⟩ := MB hn
  obtain ⟨cs, he, val, hr, hv⟩ := GQ ht hx hl
  refine ⟨val, ?_, hv⟩
  simp [execOp, uE, he, ni, Instr.index, asIntOf, run_underlying hu, h0, uQ, JG hi, hr]
 ·exact hs.elim
theorem Gw (r : Rel T0 B σ a w X h) {o : Oper} {T : TypeId} {x : Operand} {f : Nat} {v : V} (uE : o.op = .field T x f) (hs : YQ P σ o.op o.type v) :
  ∃ val, (execOp a.eval o).run P w = .ok (.value val) w /\ QK (Tof T0 X) h σ.ob w v val := by
 simp only [uE, YQ] at hs
 obtain ⟨hg, hf, ht, hs⟩ := hs
 have hx := r.arg (P := P) 0 x rfl hg
 split at hs
 ·rename_i xs heq
  rw [heq] at hx
  obtain ⟨hl, rfl⟩ := hs
  obtain ⟨fs, fd, i, hu, mN, nI, sh, hi, uH⟩ := SV hf
  obtain ⟨cs, he, val, hr, hv⟩ := GQ ht hx hl
  refine ⟨val, ?_, hv⟩
  rw [<- nI, <- sh] at hr
  simp [execOp, uE, he, Instr.field, run_underlying hu, mN, asAgg, hr]
 ·exact hs.elim
theorem HW (r : Rel T0 B σ a w X h) {tq n y : Nat} {x : Option Operand} {code : BoundsCode} (hb : bnd P σ tq x n) (hy : n <= y) (uH : x ≠ none) :
  (Instr.sliceBound ((x.map a.eval).getD undef) y code).run P w = .ok n w := by
 cases x with
 | none => exact absurd rfl uH
 | some x =>
  obtain ⟨k, i, hg, hx, h0, rfl⟩ := hb
  have he := UM (r.arg (P := P) 0 x hx hg)
  have : i <= (y : Int) := by omega
  simp [he, Instr.sliceBound, asIntOf, h0, this]
theorem RA (r : Rel T0 B σ a w X h) {sl : Bool} {len cap l hh : Nat} {lo hi : Option Operand} (rW : bnd P σ 0 lo l) (pw : bnd P σ len hi hh) (h1 : l <= hh) (h2 : hh <= cap) :
  (Instr.sliceBounds sl len cap (lo.map a.eval) (hi.map a.eval) none).run P w = .ok (l, hh, cap) w := by
 unfold Instr.sliceBounds
 cases hi with
 | none =>
  cases pw
  cases lo with
  | none => cases rW; simp
  | some x =>
   have := HW (w := w) r (code := .sliceB) rW h1 (by simp)
   simp at this
   simp [this]
 | some y =>
  have hb := HW (w := w) r (code := if sl then .sliceAcap else .sliceAlen) pw h2 (by simp)
  simp at hb
  cases lo with
  | none => cases rW; simp [hb]
  | some x =>
   have := HW (w := w) r (code := .sliceB) rW h1 (by simp)
   simp at this
   simp [this, hb]
theorem xR {α : Type} (rows : List (List α)) (size l n : Nat) (hz : ∀ r ∈ rows, r.length = size) (k : Nat) (d : α) (hd : (cut rows l n).flatten[k]? = some d) : rows.flatten[l * size + k]? = some d := by
 induction rows generalizing l with
 | nil => simp [cut] at hd
 | cons r rows ih =>
  have hr : r.length = size := hz r (by simp)
  cases l with
  | zero =>
   simp only [cut, List.drop_zero, Nat.zero_mul, Nat.zero_add] at hd ⊢
   have m5 : (r :: rows).flatten = ((r :: rows).take n).flatten ++ ((r :: rows).drop n).flatten := by rw [<- List.flatten_append, List.take_append_drop]
   rw [m5, List.getElem?_append_left (List.getElem?_eq_some_iff.1 hd).1]; exact hd
  | succ l =>
   have := ih l (fun r hr => hz r (by simp [hr])) (by simpa [cut] using hd)
   rw [List.flatten_cons, List.getElem?_append_right (by rw [hr, Nat.add_mul]; omega), hr]
   rw [show (l + 1) * size + k - size = l * size + k by rw [Nat.add_mul]; omega]; exact this
theorem Rd.cut {T : CS} {v : Value} {size : Nat} {rows : List (List D)} {base : Option Addr} {len cap : Nat} (hv : v = .slice base len cap) (r : Rd T w v (.sl size rows)) (l hh : Nat) (h1 : l <= hh) (h2 : hh <= rows.length) (du : 0 < size \/ True) :
  Rd T w (.slice (if cap = l then base else base.map (·.add (l * size))) (hh - l) (cap - l)) (.sl size (Vm.cut rows l (hh - l))) := by
 subst hv
 cases r with
 | nil =>
  simp at h2; subst h2
  have : l = 0 := by omega
  subst this
  simp [Vm.cut]; exact .nil _
 | sl a len cap size rows g hl hc hm hz hs hg hr =>
  have hlen : (Vm.cut rows l (hh - l)).length = hh - l := Yu _ _ _ (by omega)
  have sv : ∀ r ∈ Vm.cut rows l (hh - l), r.length = size := fun r hr => hz r (List.mem_of_mem_drop (List.mem_of_mem_take hr))
  by_cases uu : cap = l
  ·have h0 : hh - l = 0 := by omega
   have rf : Vm.cut rows l (hh - l) = [] := List.eq_nil_of_length_eq_zero (by omega)
   rw [if_pos uu, rf, h0]
   exact .sl a 0 (cap - l) size [] g rfl (Nat.zero_le _) (by omega) (by intro r hr; cases hr) (by simp) (by simp) (by simp)
  ·rw [if_neg uu]
   refine .sl (a.add (l * size)) (hh - l) (cap - l) size _ (fun k => g (l * size + k)) hlen (by omega) (by omega) sv (fun uH => ?_) (fun k d hd => ?_) (fun k d hd => hr _ _ (xR rows size l _ hz k d hd))
   ·have : rows.flatten ≠ [] := by
     intro he
     apply uH
     cases tB : (Vm.cut rows l (hh - l)).flatten with
     | nil => rfl
     | cons d ds =>
      have := xR rows size l (hh - l) hz 0 d (by rw [tB]; rfl)
      rw [he] at this; simp at this
    have oN := hs this
    unfold Addr.add; split <;> simp [oN]
   ·have oN : a.spot = none := hs (by
     intro he
     have := xR rows size l (hh - l) hz k d hd
     rw [he] at this; simp at this)
    have := hg _ _ (xR rows size l (hh - l) hz k d hd)
    obtain ⟨b, off, sp⟩ := a
    simp at oN; subst oN
    rw [z8]
    simp only [Nat.add_assoc] at this ⊢
    exact this
theorem FZ (r : Rel T0 B σ a w X h) {o : Oper} {T : TypeId} {x : Operand} {lo hi : Option Operand} {v : V} (uE : o.op = .slice T x lo hi none) (hs : YQ P σ o.op o.type v) :
  ∃ val, (execOp a.eval o).run P w = .ok (.value val) w /\ QK (Tof T0 X) h σ.ob w v val := by
 simp only [uE, YQ] at hs
 obtain ⟨hg, hs⟩ := hs
 have hx := r.arg (P := P) 0 x rfl hg
 split at hs
 ·rename_i s heq
  rw [heq] at hx
  obtain ⟨ht, l, hh, rW, pw, h1, h2, rfl⟩ := hs
  have he := U1 hx
  have hb := RA (w := w) r (sl := false) rW pw h1 h2
  refine ⟨.string (s.extract l hh), ?_, .str _⟩
  simp [execOp, uE, he, Instr.sliceAt, Instr.slice, run_underlying (xG ht), hb]
 ·rename_i size rows heq
  rw [heq] at hx
  obtain ⟨ht, rfl, l, hh, rW, pw, h1, h2, rfl⟩ := hs
  obtain ⟨ti, hu, tk, tM⟩ := XT ht
  obtain ⟨base, cap, he, tn, sV⟩ := Ec (show Rd _ _ _ _ from hx)
  have hb := RA (w := w) r (sl := true) (cap := cap) rW pw h1 (by omega)
  refine ⟨_, ?_, Rd.cut he hx l hh h1 h2 (.inr trivial)⟩
  simp [execOp, uE, he, Instr.sliceAt, Instr.slice, run_underlying hu, hb, JG tk]
 ·rename_i t j bY len heq
  rw [heq] at hx
  obtain ⟨ht, ⟨q, rows, ho⟩, l, hh, rW, pw, h1, h2, rfl⟩ := hs
  obtain ⟨ti, hu, tk, tM⟩ := XT ht
  obtain ⟨hle, tr, sF, base, cap, he, tn, sV, oD, fG⟩ := hx.2.1 _ _ rows ho
  have hb := RA (w := w) r (sl := true) (cap := cap) rW pw h1 (by omega)
  refine ⟨.slice (if cap = l then base else base.map (·.add (l * P.cellsOf (ZR P T)))) (hh - l) (cap - l), ?_, rfl, fun q' ug uT uc => ?_, fun ug uT uc => by rw [ho] at uc; cases uc⟩
  ·simp [execOp, uE, he, Instr.sliceAt, Instr.slice, run_underlying hu, hb, JG tk]
  ·rw [ho] at uc
   cases uc
   refine ⟨by omega, fun mM ia => ?_, fun ia => ?_, _, cap - l, rfl, by omega, by omega, fun hn => ?_, fun tO => ?_⟩
   ·have hl : l = 0 := by omega
    subst hl
    have : len = rows.length := by omega
    have hv := tr this (by omega)
    rw [<- hv, he]
    simp only [Nat.sub_zero, Nat.zero_mul]
    have h3 : hh = len := by omega
    rw [h3]
    congr 1
    split
    ·rfl
    ·cases base <;> simp [Addr.add]
   ·have hl : l = 0 := by omega
    subst hl
    have hv := sF (by omega)
    rw [he] at hv
    have fO : (if cap = 0 then base else base.map (·.add (0 * P.cellsOf (ZR P T)))) = base := by
     split
     ·rfl
     ·cases base <;> simp [Addr.add]
    rw [fO]
    unfold Rf at hv ⊢
    revert hv
    cases (h t j).v with
    | slice b n c => intro hv; cases hv; simp
    | _ => intro hv; cases hv
   ·have nz : base = none := by
     by_cases uu : cap = l
     ·rw [if_pos uu] at hn; exact hn
     ·rw [if_neg uu] at hn; simpa using hn
    have := oD nz; omega
   ·obtain ⟨b, rn, nM, rN⟩ := fG (by omega)
    refine ⟨b, rn, nM, ?_⟩
    rw [if_neg (by omega), rN]
    simp [z8, Nat.add_mul]
 ·exact hs.elim
end
end Go.Vm
namespace Go.Vm
section
variable {P : Program} {T0 : CS} {B : Nat -> Prop} {σ : St} {a : Act} {w : World} {X : Nat -> Prop} {h : Nat -> Nat -> Hd}
theorem EH {α : Type} (l : List α) (k : Nat) (v : α) (vs : List α) (hk : k + (vs.length + 1) <= l.length) : place (l.set k v) (k + 1) vs = place l k (v :: vs) := by
 unfold place
 have h1 : (l.set k v).take (k + 1) = l.take k ++ [v] := by
  rw [List.take_set, List.take_succ_eq_append_getElem (by omega)]
  rw [List.set_append_right _ _ (by simp; omega)]
  simp [Nat.min_eq_left (show k <= l.length by omega)]
 have h2 : (l.set k v).drop (k + 1 + vs.length) = l.drop (k + (vs.length + 1)) := by
  rw [List.drop_set_of_lt (by omega)]; congr 1; omega
 rw [h1, h2]; simp
theorem Oe (off : Nat) : ∀ (vs : List Value) (j : Nat) (cs : Array Value), off + j + vs.length <= cs.size ->
  ((vs.zipIdx j).foldl (fun cs x => cs.setIfInBounds (off + x.2) x.1) cs).toList = place cs.toList (off + j) vs
 | [], j, cs, _ => by simp [place]
 | v :: vs, j, cs, hl => by
  rw [List.zipIdx_cons, List.foldl_cons, Oe off vs (j + 1) _ (by simp at hl ⊢; omega)]
  rw [Array.toList_setIfInBounds, show off + (j + 1) = off + j + 1 by omega, EH _ _ _ _ (by simp at hl ⊢; omega)]
theorem Vp (off : Nat) (vs cs : Array Value) (hl : off + vs.size <= cs.size) :
  (vs.zipIdx.foldl (fun cs x => cs.setIfInBounds (off + x.2) x.1) cs).toList = place cs.toList off vs.toList := by
 rw [<- Array.foldl_toList, Array.toList_zipIdx, Oe off vs.toList 0 cs (by simpa using hl)]
 rfl
theorem XU {α : Type} (r : List α) (off : Nat) (xs : List α) (hl : off + xs.length <= r.length) : (place r off xs).length = r.length := by
 simp [place]; omega
theorem Z5.place {α β : Type} {R : α -> β -> Prop} {l : List α} {m : List β} (x : Z5 R l m) (off : Nat) {l' : List α} {m' : List β} (y : Z5 R l' m') : Z5 R (Vm.place l off l') (Vm.place m off m') := by
 unfold Vm.place
 rw [y.length]
 exact ((x.take _).append y).append (x.drop _)
theorem jV {T' : CS} {ob : Nat -> Nat -> Ob} {x : V} {v : Value} (hf : x.flat = true) (hv : QK T' h ob w x v) : Z5 (YH T' h ob w) x.cells v.cells.toList := by
 cases x with
 | one c =>
  have h1 := YH.Xc (show YH _ _ _ _ _ _ from hv)
  have : v.cells = #[v] := by cases v <;> first | rfl | (simp [Value.oneCell'] at h1)
  rw [this]
  exact .cons hv .nil
 | agg xs => obtain ⟨cs, rfl, uJ⟩ := hv; exact uJ
 | any => cases hf
 | tup xs => cases hf
 | cnd g x => cases hf
 | fix u x => cases hf
theorem N0 (r : Rel T0 B σ a w X h) (T : TypeId) (pl : Nat -> Option (Nat × Nat)) (pv : ∀ i, bOk P T i = true -> pl i = some (xp P T i, P.cellsOf (bTy P T i))) :
  ∀ (ps : List (Nat × Operand)) (row out : List At) (cells : Array Value), Z5 (YH (Tof T0 X) h σ.ob w) row cells.toList -> VN P σ T ps row out ->
   ∃ uN, Instr.fill pl cells (ps.map fun x => (x.1, a.eval x.2)) = some uN /\ Z5 (YH (Tof T0 X) h σ.ob w) out uN.toList
 | [], row, out, cells, uJ, hb => by cases hb; exact ⟨cells, rfl, uJ⟩
 | (i, x) :: ps, row, out, cells, uJ, hb => by
  obtain ⟨uj, hg, hf, hlen, hle, hb⟩ := hb
  have hx := jV hf (r.arg (P := P) (bTy P T i) x rfl hg)
  have n7 := hx.length
  have ia := uJ.length
  have e1 : cells.toList.length = cells.size := Array.length_toList
  have e2 : (a.eval x).cells.toList.length = (a.eval x).cells.size := Array.length_toList
  have pP := uJ.place (xp P T i) hx
  have heq := Vp (xp P T i) (a.eval x).cells cells (by omega)
  rw [<- heq] at pP
  obtain ⟨uN, h1, h2⟩ := N0 r T pl pv ps _ out _ pP hb
  refine ⟨uN, ?_, h2⟩
  have tM : (a.eval x).cells.size = P.cellsOf (bTy P T i) := by omega
  simp only [List.map_cons, Instr.fill, pv i uj]
  rw [if_neg (by simp [tM]; omega)]
  exact h1
theorem run_places (fs : List Field) (oh : ∀ f ∈ fs, (P.info? f.type).isSome = true) (w : World) :
  (fs.mapM (m := Sem) fun f => do pure (f.offset, <- sizeOf f.type)).run P w = .ok (fs.map fun f => (f.offset, P.cellsOf f.type)) w := by
 induction fs with
 | nil => simp
 | cons f fs ih =>
  obtain ⟨i, hi⟩ := Option.isSome_iff_exists.1 (oh f (by simp))
  simp only [List.mapM_cons, Sem.run_bind, JG hi, Result.andThen_ok, Sem.run_pure, ih (fun f hf => oh f (by simp [hf])), List.map_cons]
theorem FV (r : Rel T0 B σ a w X h) {o : Oper} {T : TypeId} {parts : Array (Nat × Operand)} {v : V} (uE : o.op = .build T parts) (hs : YQ P σ o.op o.type v) :
  ∃ val, (execOp a.eval o).run P w = .ok (.value val) w /\ QK (Tof T0 X) h σ.ob w v val := by
 simp only [uE, YQ] at hs
 obtain ⟨hz, pC, z, out, sn, hb, rfl⟩ := hs
 obtain ⟨i, zv, hi, fL, tM, sc⟩ := M1 hz sn
 have sw : (zeroValue T).run P w = .ok zv w := by simp [zeroValue, typeInfo, hi, fL]
 have rO : (parts.map fun (x : Nat × Operand) => (x.1, a.eval x.2)).toList = parts.toList.map fun x => (x.1, a.eval x.2) := by simp
 unfold VE at pC
 split at pC
 ·rename_i fs hu
  by_cases tI : ∀ f ∈ fs.toList, (P.info? f.type).isSome = true
  ·have pv : ∀ i, bOk P T i = true -> (fs.toList.map fun f => (f.offset, P.cellsOf f.type)).toArray[i]? = some (xp P T i, P.cellsOf (bTy P T i)) := by
    intro i uj
    simp only [bOk, hu, Bool.and_eq_true, decide_eq_true_eq] at uj
    have uQ := uj.2
    simp [xp, bTy, hu, X3, yS, uQ]
   obtain ⟨uN, h1, h2⟩ := N0 r T _ pv parts.toList z out zv.cells (sc _ _ _ _) hb
   refine ⟨.agg uN, ?_, uN, rfl, h2⟩
   have hm := run_places (P := P) fs.toList tI w
   have : (fs.mapM (m := Sem) fun f => do pure (f.offset, <- sizeOf f.type)).run P w = .ok (fs.toList.map fun f => (f.offset, P.cellsOf f.type)).toArray w := by
    rw [Array.mapM_eq_mapM_toList]
    change ((fs.toList.mapM (m := Sem) fun f => do pure (f.offset, <- sizeOf f.type)) >>= fun l => pure l.toArray).run P w = _
    simp only [Sem.run_bind, hm, Result.andThen_ok, Sem.run_pure]
   simp only [execOp, uE, Instr.build, Sem.run_bind, sw, Result.andThen_ok, run_underlying hu, this, rO, h1, Sem.run_pure]
  · -- no part can be placed: then there are none
   have rf : parts.toList = [] := by
    cases hp : parts.toList with
    | nil => rfl
    | cons p ps =>
     obtain ⟨i, x⟩ := p
     rw [hp] at hb
     have uj := hb.1
     simp only [bOk, hu, Bool.and_eq_true] at uj
     exact absurd (by intro f hf; exact Array.all_eq_true'.1 uj.1 f (by simpa using hf)) tI
   exfalso
   rw [show (12 : Nat) = 11 + 1 from rfl, jO, hu] at sn
   simp only [Option.map_eq_some_iff] at sn
   obtain ⟨rs, s5, _⟩ := sn
   apply tI
   intro f hf
   have : ∀ (l : List Field) (rs : List (List At)), l.mapM (fun f => jO P 11 f.type) = some rs -> ∀ f ∈ l, (P.info? f.type).isSome = true := by
    intro l
    induction l with
    | nil => intro rs _ f hf; cases hf
    | cons g l ih =>
     intro rs s5 f hf
     simp only [List.mapM_cons, Option.bind_eq_bind, Option.bind_eq_some_iff] at s5
     obtain ⟨r0, rY, lN, mZ, _⟩ := s5
     rcases List.mem_cons.1 hf with rfl | hf
     ·rw [show (11 : Nat) = 10 + 1 from rfl, jO] at rY
      cases hi0 : P.info? f.type with
      | some i => rfl
      | none => simp [Program.underlying, hi0] at rY
     ·exact ih lN mZ f hf
   exact this fs.toList rs s5 f hf
 ·rename_i n e hu
  cases ni : P.info? e with
  | none =>
   exfalso
   rw [show (12 : Nat) = 11 + 1 from rfl, jO, hu] at sn
   simp only [Option.map_eq_some_iff] at sn
   obtain ⟨r0, rY, _⟩ := sn
   rw [show (11 : Nat) = 10 + 1 from rfl, jO] at rY
   simp [Program.underlying, ni] at rY
  | some ie =>
   have pv : ∀ i, bOk P T i = true -> (fun i => some (i * P.cellsOf e, P.cellsOf e)) i = some (xp P T i, P.cellsOf (bTy P T i)) := by
    intro i _
    simp [xp, bTy, hu]
   obtain ⟨uN, h1, h2⟩ := N0 r T _ pv parts.toList z out zv.cells (sc _ _ _ _) hb
   refine ⟨.agg uN, ?_, uN, rfl, h2⟩
   simp only [execOp, uE, Instr.build, Sem.run_bind, sw, Result.andThen_ok, run_underlying hu, JG ni, rO, h1, Sem.run_pure]
 ·cases pC
theorem jz {t : TypeId} (ht : Tm P t = true) {cs : Array Value} {i : Nat} {v : Value} (hv : cs[i]? = some v) : (part t cs i).run P w = .ok v w := by
 unfold Tm at ht
 split at ht <;> first | (rename_i hu; simp [part, isAgg, run_underlying hu, hv]) | cases ht
theorem FN {t : TypeId} {T' : CS} {ob : Nat -> Nat -> Ob} {x y : At} {u v : Value} {p : Bool} (hp : BY P t x y = some p) (hx : YH T' h ob w x u) (hy : YH T' h ob w y v) (d : Nat) (w' : World) :
  (Op.equalIn (d + 1) t u v).run P w' = .ok p w' := by
 unfold BY at hp
 split at hp
 ·rename_i k a' k' b'
  split at hp
  ·rename_i hc
   obtain ⟨rfl, hi⟩ := hc
   obtain ⟨k2, ou⟩ := Option.isSome_iff_exists.1 hi
   cases hp
   rw [UM hx, UM hy]
   exact Go.run_equalIn_int w' d t _ _ _ _ (Lb ou)
  ·cases hp
 ·split at hp
  ·rename_i hc
   cases hp
   rw [xu hx, xu hy]
   have hu : P.underlying t = some .bool := by
    unfold OL at hc; split at hc <;> first | assumption | cases hc
   exact Go.run_equalIn_bool' w' d t _ _ hu
  ·cases hp
 ·split at hp
  ·rename_i hc
   cases hp
   rw [U1 hx, U1 hy]
   rw [Go.run_equalIn_string w' d t _ _ (xG hc), Eb]
  ·cases hp
 ·cases hp
theorem P7 {T' : CS} {ob : Nat -> Nat -> Ob} (d : Nat) (cs ds : Array Value) (w' : World) : ∀ (fs : List Field) (i : Nat) (xs ys : List At) (q : Bool), ki P fs i = true -> X2 P (fs.map (·.type)) xs ys = some q ->
  Z5 (YH T' h ob w) xs (cs.toList.drop i) -> Z5 (YH T' h ob w) ys (ds.toList.drop i) -> (Op.eqFields (d + 1) cs ds fs).run P w' = .ok q w'
 | [], i, xs, ys, q, _, hq, _, _ => by simp [X2] at hq; subst hq; simp [Op.eqFields]
 | f :: fs, i, [], ys, q, _, hq, _, _ => by simp [X2] at hq
 | f :: fs, i, x :: xs, [], q, _, hq, _, _ => by simp [X2] at hq
 | f :: fs, i, x :: xs, y :: ys, q, uj, hq, hx, hy => by
  simp only [ki, Bool.and_eq_true, decide_eq_true_eq, beq_iff_eq] at uj
  obtain ⟨⟨⟨hn, ho⟩, tL⟩, uj⟩ := uj
  simp only [List.map_cons, X2] at hq
  split at hq
  ·rename_i p q' hp rE
   cases hq
   cases hcd : cs.toList.drop i with
   | nil => rw [hcd] at hx; cases hx
   | cons u us =>
    cases sP : ds.toList.drop i with
    | nil => rw [sP] at hy; cases hy
    | cons v vs =>
     rw [hcd] at hx; rw [sP] at hy
     cases hx with
     | cons fM hx =>
      cases hy with
      | cons fN hy =>
       have hu : cs[i]? = some u := by
        have : (cs.toList.drop i)[0]? = some u := by rw [hcd]; rfl
        simpa using this
       have hv : ds[i]? = some v := by
        have : (ds.toList.drop i)[0]? = some v := by rw [sP]; rfl
        simpa using this
       have cI : cs.toList.drop (i + 1) = us := by rw [<- List.drop_drop, hcd]; rfl
       have ny : ds.toList.drop (i + 1) = vs := by rw [<- List.drop_drop, sP]; rfl
       have ih := P7 d cs ds w' fs (i + 1) xs ys q' uj rE (by rw [cI]; exact hx) (by rw [ny]; exact hy)
       subst ho
       simp only [Op.eqFields, if_pos hn, Sem.run_bind, jz tL hu, jz tL hv, Result.andThen_ok, FN hp fM fN d w']
       cases p
       ·simp
       ·simpa using ih
  ·cases hq
theorem S6 (P : Program) : ∀ (ts : List TypeId) (xs ys : List At) (q : Bool), X2 P ts xs ys = some q -> ts.length <= xs.length /\ ts.length <= ys.length
 | [], _, _, _, _ => ⟨Nat.zero_le _, Nat.zero_le _⟩
 | t :: ts, [], _, _, h => by simp [X2] at h
 | t :: ts, x :: xs, [], _, h => by simp [X2] at h
 | t :: ts, x :: xs, y :: ys, q, h => by
  simp only [X2] at h
  split at h
  ·rename_i p q' hp rE
   have := S6 P ts xs ys q' rE
   simp only [List.length_cons]; omega
  ·cases h
theorem Oh (P : Program) : ∀ (ts : List TypeId) (xs ys : List At) (m : Nat), ts.length <= m -> X2 P ts (xs.take m) (ys.take m) = X2 P ts xs ys
 | [], _, _, _, _ => by simp [X2]
 | t :: ts, _, _, 0, h => by simp at h
 | t :: ts, [], _, m + 1, _ => by simp [X2]
 | t :: ts, x :: xs, [], m + 1, _ => by simp [X2]
 | t :: ts, x :: xs, y :: ys, m + 1, h => by
  simp only [List.take_succ_cons, X2]
  rw [Oh P ts xs ys m (by simpa using h)]
theorem Mw (P : Program) : ∀ (ts us : List TypeId) (xs ys : List At) (q : Bool), X2 P (ts ++ us) xs ys = some q -> ∃ p q', X2 P ts xs ys = some p /\ X2 P us (xs.drop ts.length) (ys.drop ts.length) = some q' /\ q = (p && q')
 | [], us, xs, ys, q, h => ⟨true, q, by simp [X2], by simpa using h, by simp⟩
 | t :: ts, us, [], _, _, h => by simp [X2] at h
 | t :: ts, us, x :: xs, [], _, h => by simp [X2] at h
 | t :: ts, us, x :: xs, y :: ys, q, h => by
  simp only [List.cons_append, X2] at h
  split at h
  ·rename_i p q0 hp fJ
   obtain ⟨p2, q2, h1, h2, h3⟩ := Mw P ts us xs ys q0 fJ
   cases h
   exact ⟨p && p2, q2, by simp only [X2, hp, h1], by simpa using h2, by rw [h3, Bool.and_assoc]⟩
  ·cases h
theorem Sr {T' : CS} {ob : Nat -> Nat -> Ob} (d : Nat) (cs ds : Array Value) (w' : World) : ∀ (fs : List Field) (i : Nat) (xs ys : List At) (q : Bool), VT P fs i = true -> X2 P (fs.flatMap (It P)) xs ys = some q ->
  Z5 (YH T' h ob w) xs (cs.toList.drop i) -> Z5 (YH T' h ob w) ys (ds.toList.drop i) -> (Op.eqFields (d + 2) cs ds fs).run P w' = .ok q w'
 | [], i, xs, ys, q, _, hq, _, _ => by simp [X2] at hq; subst hq; simp [Op.eqFields]
 | f :: fs, i, xs, ys, q, uj, hq, hx, hy => by
  simp only [VT, Bool.and_eq_true, decide_eq_true_eq, beq_iff_eq] at uj
  obtain ⟨⟨hn, ho⟩, uj⟩ := uj
  subst ho
  rw [List.flatMap_cons] at hq
  obtain ⟨p, q', hp, rE, rfl⟩ := Mw P _ _ _ _ _ hq
  cases tL : Tm P f.type with
  | true =>
   rw [tL, if_pos rfl] at uj
   have hl : It P f = [f.type] := by unfold It; rw [tL, if_pos rfl]
   rw [hl] at hp rE
   have ta := P7 (P := P) (d + 1) cs ds w' [f] f.offset xs ys p (by simp only [ki, Bool.and_eq_true, decide_eq_true_eq, beq_iff_eq]; exact ⟨⟨⟨hn, trivial⟩, tL⟩, trivial⟩) hp hx hy
   have ih := Sr d cs ds w' fs (f.offset + 1) (xs.drop 1) (ys.drop 1) q' uj rE (by rw [<- List.drop_drop]; exact hx.drop 1) (by rw [<- List.drop_drop]; exact hy.drop 1)
   simp only [Op.eqFields, if_pos hn] at ta ⊢
   have hlen := S6 P _ _ _ _ hp
   have oR := hx.length
   have sE := hy.length
   simp only [List.length_cons, List.length_nil, List.length_drop, Array.length_toList] at hlen oR sE
   have hu : cs[f.offset]? = some (cs[f.offset]'(by omega)) := Array.getElem?_eq_getElem _
   have hv : ds[f.offset]? = some (ds[f.offset]'(by omega)) := Array.getElem?_eq_getElem _
   simp only [Sem.run_bind, jz tL hu, jz tL hv, Result.andThen_ok] at ta ⊢
   cases xs with
   | nil => simp at hlen
   | cons x xs =>
    cases ys with
    | nil => simp at hlen
    | cons y ys =>
     obtain ⟨u, cA, fM⟩ := hx.get 0 x rfl
     obtain ⟨v, tU, fN⟩ := hy.get 0 y rfl
     simp only [X2] at hp
     split at hp
     ·rename_i p0 q0 dv fJ
      cases fJ
      cases hp
      have e1 : cs[f.offset]'(by omega) = u := by
       have : cs[f.offset]? = some u := by simpa using cA
       rw [hu] at this; exact Option.some.inj this
      have e2 : ds[f.offset]'(by omega) = v := by
       have : ds[f.offset]? = some v := by simpa using tU
       rw [hv] at this; exact Option.some.inj this
      rw [e1, e2, FN dv fM fN (d + 1) w', Result.andThen_ok]
      cases p0
      ·simp
      ·simpa using ih
     ·cases hp
  | false =>
   rw [tL, if_neg (by simp)] at uj
   cases hu : P.underlying f.type with
   | none => rw [hu] at uj; cases uj
   | some de =>
    rw [hu] at uj
    cases de with
    | struct gs =>
     simp only [Bool.and_eq_true, beq_iff_eq, Bool.not_eq_true', decide_eq_true_eq] at uj
     obtain ⟨⟨⟨⟨⟨⟨sh, pC⟩, uu⟩, gC⟩, uk⟩, cB⟩, uj⟩ := uj
     have hl : It P f = gs.toList.map (·.type) := by unfold It; rw [tL, if_neg (by simp), hu]
     rw [hl] at hp rE
     rw [List.length_map, Array.length_toList] at rE
     have hf : P.fieldsOf f.type = gs := by simp [Program.fieldsOf, hu]
     have hlen := S6 P _ _ _ _ hp
     have oR := hx.length
     have sE := hy.length
     simp only [List.length_map, Array.length_toList, List.length_drop] at hlen oR sE
     have ih := Sr d cs ds w' fs (f.offset + gs.size) (xs.drop gs.size) (ys.drop gs.size) q' uj rE (by rw [<- List.drop_drop]; exact hx.drop gs.size) (by rw [<- List.drop_drop]; exact hy.drop gs.size)
     obtain ⟨va, cC, ib, _⟩ := MU (P := P) (w := w') sh (cs := cs) (off := f.offset) (by rw [uu]; omega)
     obtain ⟨vb, gk, tf, _⟩ := MU (P := P) (w := w') sh (cs := ds) (off := f.offset) (by rw [uu]; omega)
     rw [uu] at ib tf
     have na : (Op.equalIn (d + 2) f.type va vb).run P w' = .ok p w' := by
      rw [ib pC, tf pC, show d + 2 = (d + 1) + 1 from rfl, Go.run_equalIn_struct w' (d + 1) f.type _ _ (by rw [hf]; exact hu) uk, hf]
      refine P7 (P := P) (h := h) (w := w) (T' := T') (ob := ob) d _ _ w' gs.toList 0 (xs.take gs.size) (ys.take gs.size) p cB ?_ ?_ ?_
      ·rw [Oh P _ _ _ _ (by simp)]; exact hp
      ·simpa [cut] using hx.take gs.size
      ·simpa [cut] using hy.take gs.size
     simp only [Op.eqFields, if_pos hn, Sem.run_bind, cC, gk, Result.andThen_ok, na]
     cases p
     ·simp
     ·simpa using ih
    | _ => cases uj
theorem Dm {T : TypeId} {T' : CS} {ob : Nat -> Nat -> Ob} {xs ys : List At} {u v : Value} {q : Bool} (uj : Tw P T = true) (hq : X2 P (KD P T) xs ys = some q)
  (hx : QK T' h ob w (.agg xs) u) (hy : QK T' h ob w (.agg ys) v) (op : BinOp) (x y : Operand) (w' : World) :
  (eqGuard op T x y u v).run P w' = .ok () w' /\ (binOp .eql T u v).run P w' = .ok (.bool q) w' /\ (binOp .neq T u v).run P w' = .ok (.bool (!q)) w' := by
 obtain ⟨cs, rfl, sU⟩ := hx
 obtain ⟨ds, rfl, oC⟩ := hy
 unfold Tw at uj
 split at uj
 ·rename_i fs hu
  simp only [Bool.and_eq_true, Bool.not_eq_true'] at uj
  have hf : P.fieldsOf T = fs := by simp [Program.fieldsOf, hu]
  have sJ : P.underlying T = some (.struct (P.fieldsOf T)) := by rw [hf]; exact hu
  have uY : (Op.equalIn 10000 T (.agg cs) (.agg ds)).run P w' = .ok q w' := by
   rw [show (10000 : Nat) = 9999 + 1 from rfl, Go.run_equalIn_struct w' 9999 T cs ds sJ uj.1.1, show (9999 : Nat) = 9997 + 2 from rfl]
   exact Sr 9997 cs ds w' _ 0 xs ys q (by rw [hf]; exact uj.2) hq (by simpa using sU) (by simpa using oC)
  refine ⟨Go.run_eqGuard_agg w' op T x y cs ds uj.1.2, ?_, ?_⟩
  ·rw [Go.run_eql_struct, uY]; rfl
  ·rw [Go.run_neq_struct, uY]; rfl
 ·cases uj
end
end Go.Vm
namespace Go.Vm
section
variable {P : Program} {T0 : CS} {B : Nat -> Prop} {σ : St} {a : Act} {w : World} {X : Nat -> Prop} {h : Nat -> Nat -> Hd}
theorem LZ (r : Rel T0 B σ a w X h) {o : Oper} {x : Operand} {v : V} (uE : o.op = .move x \/ o.op = .assign x) (hs : YQ P σ o.op o.type v) :
  ∃ val, (execOp a.eval o).run P w = .ok (.value val) w /\ QK (Tof T0 X) h σ.ob w v val := by
 rcases uE with uE | uE <;>
 ·simp only [uE, YQ] at hs
  subst hs
  exact ⟨a.eval x, by simp [execOp, uE], r.look _ x⟩
theorem Ea (r : Rel T0 B σ a w X h) {o : Oper} {c x y : Operand} {v : V} (uE : o.op = .pick c x y) (hs : YQ P σ o.op o.type v) :
  ∃ val, (execOp a.eval o).run P w = .ok (.value val) w /\ QK (Tof T0 X) h σ.ob w v val := by
 simp only [uE, YQ] at hs
 obtain ⟨bc, p, q, hg, hc, hp, hq, gC, cE, rfl⟩ := hs
 have he := xu (r.arg (P := P) o.type c hc hg)
 cases bc with
 | true =>
  have hx := xu (r.arg (P := P) o.type x (hp rfl) (gC rfl))
  exact ⟨.bool p, by simp [execOp, uE, he, asBool, hx], .bool _⟩
 | false =>
  have hy := xu (r.arg (P := P) o.type y (hq rfl) (cE rfl))
  exact ⟨.bool q, by simp [execOp, uE, he, asBool, hy], .bool _⟩
theorem qF (op : BinOp) (T : TypeId) (x y : Operand) {v u : Value} (hv : ∀ cs, v ≠ .agg cs) (hn : v ≠ .nilIface) : (eqGuard op T x y v u).run P w = .ok () w := by
 unfold eqGuard
 cases op <;> simp <;> (split <;> first | exact absurd rfl hn | exact absurd rfl (hv _) | simp)
theorem Dt (r : Rel T0 B σ a w X h) {o : Oper} {op : BinOp} {T T' : TypeId} {x y : Operand} {v : V} (uE : o.op = .binOp op T x y T') (hs : YQ P σ o.op o.type v) :
  ∃ val, (execOp a.eval o).run P w = .ok (.value val) w /\ QK (Tof T0 X) h σ.ob w v val := by
 simp only [uE, YQ] at hs
 obtain ⟨ry, rz, hs⟩ := hs
 have hx := r.arg (P := P) T x rfl ry
 have hy := r.arg (P := P) T y rfl rz
 unfold FU at hs
 split at hs
 ·rename_i k m k' n heq rb
  rw [heq] at hx; rw [rb] at hy
  have ex := UM hx
  have ey := UM hy
  obtain ⟨d, rfl, val, hr, hd⟩ := Ef (P := P) (t := T) hs.1 hs.2 w
  refine ⟨val, ?_, hd _ _⟩
  simp only [execOp, uE, ex, ey, Sem.run_bind, qF op T x y (v := .int k m) (u := .int k' n) (by simp) (by simp), Result.andThen_ok, hr, Sem.run_pure]
 ·rename_i m n heq rb
  rw [heq] at hx; rw [rb] at hy
  have ex := U1 hx
  have ey := U1 hy
  obtain ⟨d, rfl, val, hr, hd⟩ := Ei (P := P) (t := T) hs w
  refine ⟨val, ?_, hd _ _⟩
  simp only [execOp, uE, ex, ey, Sem.run_bind, qF op T x y (v := .string m) (u := .string n) (by simp) (by simp), Result.andThen_ok, hr, Sem.run_pure]
 ·rename_i m n heq rb
  rw [heq] at hx; rw [rb] at hy
  have ex := xu hx
  have ey := xu hy
  obtain ⟨d, rfl, val, hr, hd⟩ := Fk (P := P) (t := T) hs.1 hs.2 w
  refine ⟨val, ?_, hd _ _⟩
  simp only [execOp, uE, ex, ey, Sem.run_bind, qF op T x y (v := .bool m) (u := .bool n) (by simp) (by simp), Result.andThen_ok, hr, Sem.run_pure]
 ·rename_i xs ys heq rb
  rw [heq] at hx; rw [rb] at hy
  obtain ⟨uj, q, hq, hs⟩ := hs
  obtain ⟨h1, h2, h3⟩ := Dm (P := P) uj hq hx hy op x y w
  rcases hs with ⟨rfl, rfl⟩ | ⟨rfl, rfl⟩
  ·exact ⟨.bool q, by simp only [execOp, uE, Sem.run_bind, h1, Result.andThen_ok, h2, Sem.run_pure], .bool _⟩
  ·exact ⟨.bool (!q), by simp only [execOp, uE, Sem.run_bind, h1, Result.andThen_ok, h3, Sem.run_pure], .bool _⟩
 ·exact hs.elim
theorem D3 (r : Rel T0 B σ a w X h) {o : Oper} {op : UnOp} {T : TypeId} {x : Operand} {v : V} (uE : o.op = .unOp op T x) (hs : YQ P σ o.op o.type v) :
  ∃ val, (execOp a.eval o).run P w = .ok (.value val) w /\ QK (Tof T0 X) h σ.ob w v val := by
 simp only [uE, YQ] at hs
 obtain ⟨hg, hs⟩ := hs
 have hx := r.arg (P := P) 0 x rfl hg
 split at hs
 ·rename_i b heq
  rw [heq] at hx
  subst hs
  have he := xu hx
  exact ⟨.bool (!b), by simp [execOp, uE, he, Op.unary], .bool _⟩
 ·rename_i k n heq
  rw [heq] at hx
  subst hs
  have he := UM hx
  exact ⟨.int k (k.wrap (-n)), by simp [execOp, uE, he, Op.unary, Op.intArith], .int _ _⟩
 ·exact hs.elim
theorem Ig (r : Rel T0 B σ a w X h) {o : Oper} {S T : TypeId} {x : Operand} {v : V} (uE : o.op = .convert S T x) (hS : (P.underlying S).isSome = true) (hs : YQ P σ o.op o.type v) :
  ∃ val, (execOp a.eval o).run P w = .ok (.value val) w /\ QK (Tof T0 X) h σ.ob w v val := by
 simp only [uE, YQ] at hs
 obtain ⟨hg, _, hs⟩ := hs
 have hx := r.arg (P := P) 0 x rfl hg
 split at hs
 ·rename_i k' n heq
  rw [heq] at hx
  obtain ⟨k, hk, rfl⟩ := hs
  have he := UM hx
  obtain ⟨d, hd⟩ := Option.isSome_iff_exists.1 hS
  exact ⟨.int k (k.wrap n), by simp [execOp, uE, he, convert, run_underlying hd, run_underlying (Lb hk), Conv.intToInt], .int _ _⟩
 ·exact hs.elim
theorem Ia (r : Rel T0 B σ a w X h) {o : Oper} {x : Operand} {i : Nat} {v : V} (uE : o.op = .extract x i) (hs : YQ P σ o.op o.type v) :
  ∃ val, (execOp a.eval o).run P w = .ok (.value val) w /\ QK (Tof T0 X) h σ.ob w v val := by
 simp only [uE, YQ] at hs
 obtain ⟨hg, hs⟩ := hs
 have hx := r.arg (P := P) 0 x rfl hg
 split at hs
 ·rename_i xs heq
  rw [heq] at hx
  obtain ⟨vs, he, uJ⟩ := hx
  obtain ⟨val, rH, hr⟩ := uJ.get i v hs.1
  have : vs[i]? = some val := by simpa using rH
  exact ⟨val, by simp [execOp, uE, he, Instr.extract, this], hr.up⟩
 ·exact hs.elim
theorem Fi (r : Rel T0 B σ a w X h) {o : Oper} {c : Call} {v : V} (uE : o.op = .call c) (hs : YQ P σ o.op o.type v) :
  ∃ val, (execOp a.eval o).run P w = .ok (.value val) w /\ QK (Tof T0 X) h σ.ob w v val := by
 simp only [uE, YQ] at hs
 obtain ⟨callee, args, argTypes⟩ := c
 simp only at hs
 split at hs
 ·rename_i x t ha ht
  obtain rfl : args = #[x] := by apply Array.toList_inj.1; simpa using ha
  obtain rfl : argTypes = #[t] := by apply Array.toList_inj.1; simpa using ht
  obtain ⟨hg, hs⟩ := hs
  have hx := r.arg (P := P) t x rfl hg
  split at hs
  ·rename_i s heq
   rw [heq] at hx
   obtain ⟨uk, rfl⟩ := hs
   have he := U1 hx
   exact ⟨.int .i64 s.size, by simp [execOp, uE, resolve, invoke, builtin, he, Builtin.len_, run_underlying (xG uk), goInt], .int _ _⟩
  ·rename_i size rows heq
   rw [heq] at hx
   obtain ⟨uk, rfl⟩ := hs
   obtain ⟨ti, hu, _, _⟩ := XT uk
   obtain ⟨base, cap, he, _, _⟩ := Ec (show Rd _ _ _ _ from hx)
   exact ⟨.int .i64 rows.length, by simp [execOp, uE, resolve, invoke, builtin, he, Builtin.len_, run_underlying hu, goInt], .int _ _⟩
  ·rename_i size heq
   rw [heq] at hx
   obtain ⟨uk, rfl⟩ := hs
   obtain ⟨ti, hu, _, _⟩ := XT uk
   have he : a.eval x = .slice none 0 0 := hx
   exact ⟨.int .i64 0, by simp [execOp, uE, resolve, invoke, builtin, he, Builtin.len_, run_underlying hu, goInt], .int _ _⟩
  ·rename_i u j lo len heq
   rw [heq] at hx
   obtain ⟨uk, ho, rfl⟩ := hs
   obtain ⟨ti, hu, _, _⟩ := XT uk
   have nM : ∃ base cap, a.eval x = .slice base len cap := by
    rcases ho with ⟨q, size, rows, ho⟩ | ⟨size, rows, ho⟩
    ·obtain ⟨_, _, _, base, cap, he, _, _, _, _⟩ := hx.2.1 _ _ _ ho
     exact ⟨base, cap, he⟩
    ·obtain ⟨_, _, _, base, cap, he, _, _, _, _⟩ := hx.2.2 _ _ ho
     exact ⟨base, cap, he⟩
   obtain ⟨base, cap, he⟩ := nM
   exact ⟨.int .i64 len, by simp [execOp, uE, resolve, invoke, builtin, he, Builtin.len_, run_underlying hu, goInt], .int _ _⟩
  ·rename_i u j i c heq
   rw [heq] at hx
   obtain ⟨uk, size, rows, n, s, ho, hi, uM, rfl⟩ := hs
   obtain ⟨ti, hu, _, _⟩ := XT uk
   obtain ⟨v0, S, hn, uK⟩ := r.nest ho hi uM
   have mG : a.eval x = _ := hx.2 _ _ ho
   rw [hn] at mG
   have he : ∃ base cap, a.eval x = .slice base s.length cap := by
    rw [mG]
    cases uK with
    | sl v size rows S e xs Sk sZ hz hb hl hk hs hd =>
     rcases sZ.2 with ⟨rfl, h0⟩ | ⟨g, cap, cur, rfl, _⟩
     ·exact ⟨none, 0, by rw [h0]⟩
     ·exact ⟨_, cap, rfl⟩
   obtain ⟨base, cap, he⟩ := he
   exact ⟨.int .i64 s.length, by simp [execOp, uE, resolve, invoke, builtin, he, Builtin.len_, run_underlying hu, goInt], .int _ _⟩
  ·exact hs.elim
 ·rename_i x y ha
  obtain rfl : args = #[x, y] := by apply Array.toList_inj.1; simpa using ha
  obtain ⟨k, m, n, hx, hy, rfl⟩ := hs
  have ex := z7 r hx
  have ey := z7 r hy
  exact ⟨.int k (if n > m then n else m), by simp [execOp, uE, resolve, invoke, builtin, ex, ey, Builtin.max_, Builtin.max2], .int _ _⟩
 ·rename_i x y ha
  obtain rfl : args = #[x, y] := by apply Array.toList_inj.1; simpa using ha
  obtain ⟨k, m, n, hx, hy, rfl⟩ := hs
  have ex := z7 r hx
  have ey := z7 r hy
  exact ⟨.int k (if n < m then n else m), by simp [execOp, uE, resolve, invoke, builtin, ex, ey, Builtin.min_, Builtin.min2], .int _ _⟩
 ·exact hs.elim
theorem jQ (r : Rel T0 B σ a w X h) {o : Oper} {v : V} (hs : YQ P σ o.op o.type v) :
  ∃ val, (execOp a.eval o).run P w = .ok (.value val) w /\ QK (Tof T0 X) h σ.ob w v val := by
 cases uE : o.op with
 | move x => exact LZ r (.inl uE) hs
 | assign x => exact LZ r (.inr uE) hs
 | pick c x y => exact Ea r uE hs
 | load T x => exact EA r uE hs
 | fieldAddr T x f => exact Oq r uE hs
 | nilCheck x => exact LH r uE hs
 | indexAddr T x i => exact Oz r uE hs
 | index T x i => exact Gq r uE hs
 | field T x f => exact Gw r uE hs
 | slice T x lo hi m =>
  cases m with
  | none => exact FZ r uE hs
  | some m => rw [uE] at hs; exact hs.elim
 | binOp op T x y T' => exact Dt r uE hs
 | unOp op T x => exact D3 r uE hs
 | convert S T x => rw [uE] at hs; exact Ig r uE hs.2.1 (by rw [uE]; exact hs)
 | extract x i => exact Ia r uE hs
 | call c => exact Fi r uE hs
 | build T ps => exact FV r uE hs
 | _ => rw [uE] at hs; exact hs.elim
end
end Go.Vm
namespace Go.Vm
def At.ref (d : Nat) : At -> Bool
 | .sref t _ _ _ => t == d
 | .ptr t _ _ _ => t == d
 | .bptr t _ => t == d
 | .fn _ t => t == d
 | .tref t _ _ _ _ => t == d
 | _ => false
def YN (d : Nat) : List At -> Bool
 | [] => false
 | x :: xs => x.ref d || YN d xs
def V.Rc (d : Nat) : V -> Bool
 | .one x => x.ref d
 | .agg xs => YN d xs
 | _ => false
def VQ (d : Nat) : List V -> Bool
 | [] => false
 | x :: xs => x.Rc d || VQ d xs
def V.ref (d : Nat) : V -> Bool
 | .tup xs => VQ d xs
 | .cnd _ x => x.Rc d || (match x with | .tup xs => VQ d xs | _ => false)
 | .one x => x.ref d
 | .agg xs => YN d xs
 | .fix _ x => x.Rc d || (match x with | .tup xs => VQ d xs | _ => false)
 | .any => false
def Yl (d : Nat) : List Ob -> Bool
 | [] => false
 | .box cells :: os => YN d cells || Yl d os
 | .lit _ rows :: os => YN d rows.flatten || Yl d os
 | _ :: os => Yl d os
def Ko (d : Nat) : Nat -> St -> Bool
 | _, [] => true
 | k, e :: σ => (k == d || (!e.1.ref d && !Yl d e.2)) && Ko d (k + 1) σ
def St.fresh (σ : St) (d : Nat) : Bool := decide (d < σ.length) && Ko d 0 σ
theorem zU {d : Nat} : ∀ {σ : St} {k : Nat}, Ko d k σ = true -> ∀ t e, σ[t]? = some e -> k + t ≠ d -> e.1.ref d = false /\ Yl d e.2 = false
 | [], _, _, t, e, he, _ => by simp at he
 | e0 :: σ, k, hf, t, e, he, uH => by
  simp only [Ko, Bool.and_eq_true, Bool.or_eq_true, beq_iff_eq, Bool.not_eq_true'] at hf
  cases t with
  | zero =>
   simp at he; subst he
   rcases hf.1 with h | h
   ·omega
   ·exact h
  | succ t => exact zU hf.2 t e (by simpa using he) (by omega)
theorem St.Dw {σ : St} {d : Nat} (hf : σ.fresh d = true) (t : Nat) (uH : t ≠ d) : (σ.get t).ref d = false := by
 simp only [St.fresh, Bool.and_eq_true] at hf
 unfold St.get
 cases he : σ[t]? with
 | none => rfl
 | some e => exact (zU hf.2 t e he (by omega)).1
theorem HK {d : Nat} : ∀ {os : List Ob}, Yl d os = false -> ∀ j cells, YU os j = .box cells -> YN d cells = false
 | [], _, j, cells, h => by simp [YU] at h
 | o :: os, hr, j, cells, h => by
  cases j with
  | zero =>
   simp [YU] at h; subst h
   simp [Yl] at hr; exact hr.1
  | succ j =>
   have : YU os j = .box cells := by simpa [YU] using h
   refine HK (os := os) ?_ j cells this
   cases o <;> simp_all [Yl]
theorem MI {d : Nat} : ∀ {os : List Ob}, Yl d os = false -> ∀ j size rows, YU os j = .lit size rows -> YN d rows.flatten = false
 | [], _, j, _, _, h => by simp [YU] at h
 | o :: os, hr, j, size, rows, h => by
  cases j with
  | zero =>
   simp [YU] at h; subst h
   simp [Yl] at hr; exact hr.1
  | succ j =>
   have : YU os j = .lit size rows := by simpa [YU] using h
   refine MI (os := os) ?_ j size rows this
   cases o <;> simp_all [Yl]
theorem St.DZ {σ : St} {d : Nat} (hf : σ.fresh d = true) (t j : Nat) (uH : t ≠ d) (size : Nat) (rows : List (List At)) (ho : σ.ob t j = .lit size rows) : YN d rows.flatten = false := by
 simp only [St.fresh, Bool.and_eq_true] at hf
 unfold St.ob at ho
 cases he : σ[t]? with
 | none => rw [he] at ho; cases ho
 | some e => rw [he] at ho; exact MI (zU hf.2 t e he (by omega)).2 j size rows ho
theorem St.CL {σ : St} {d : Nat} (hf : σ.fresh d = true) (t j : Nat) (uH : t ≠ d) (cells : List At) (ho : σ.ob t j = .box cells) : YN d cells = false := by
 simp only [St.fresh, Bool.and_eq_true] at hf
 unfold St.ob at ho
 cases he : σ[t]? with
 | none => rw [he] at ho; cases ho
 | some e => rw [he] at ho; exact HK (zU hf.2 t e he (by omega)).2 j cells ho
theorem St.JH {σ : St} {d : Nat} (hf : σ.fresh d = true) : d < σ.length := by
 simp only [St.fresh, Bool.and_eq_true, decide_eq_true_eq] at hf; exact hf.1
def Cpt (h h' : Nat -> Nat -> Hd) (ob sI : Nat -> Nat -> Ob) (t j : Nat) : Prop :=
 (∀ q size rows, sI t j = .arr q size rows -> h' t j = h t j /\ ∃ uX, ob t j = .arr q size uX /\ uX.length = rows.length) /\
 (∀ size rows, sI t j = .lit size rows -> h' t j = h t j /\ ∃ uX, ob t j = .lit size uX /\ uX.length = rows.length) /\
 (∀ cells, sI t j = .box cells -> h' t j = h t j /\ ∃ tc, ob t j = .box tc)
theorem Cpt.same {h h' : Nat -> Nat -> Hd} {ob sI : Nat -> Nat -> Ob} {t j : Nat} (hh : h' t j = h t j) (ho : sI t j = ob t j) : Cpt h h' ob sI t j :=
 ⟨fun q size rows e => ⟨hh, rows, by rw [<- ho]; exact e, rfl⟩, fun size rows e => ⟨hh, rows, by rw [<- ho]; exact e, rfl⟩, fun cells e => ⟨hh, cells, by rw [<- ho]; exact e⟩⟩
section
variable {T T' : CS} {h h' : Nat -> Nat -> Hd} {ob sI : Nat -> Nat -> Ob} {w w' : World} {d : Nat}
theorem YH.carry (hT : ∀ b k v, T b k -> w.cell? ⟨b, k, none⟩ = some v -> w'.cell? ⟨b, k, none⟩ = some v /\ T' b k) (hc : ∀ t j, t ≠ d -> Cpt h h' ob sI t j)
  {x : At} {v : Value} (hx : x.ref d = false) (r : YH T h ob w x v) : YH T' h' sI w' x v := by
 cases x with
 | any => exact r
 | d x => exact Rd.mono hT r
 | nil s => exact r
 | sref t j lo len =>
  have ht : t ≠ d := by simpa [At.ref] using hx
  refine ⟨r.1, fun q size rows ho => ?_, fun size rows ho => ?_⟩
  ·obtain ⟨hh, uX, tQ, hl⟩ := (hc t j ht).1 q size rows ho
   rw [hh, <- hl]; exact r.2.1 q size uX tQ
  ·obtain ⟨hh, uX, tQ, hl⟩ := (hc t j ht).2.1 size rows ho
   rw [hh, <- hl]; exact r.2.2 size uX tQ
 | ptr t j i c =>
  have ht : t ≠ d := by simpa [At.ref] using hx
  refine ⟨r.1, fun q size rows ho => ?_⟩
  obtain ⟨hh, uX, tQ, hl⟩ := (hc t j ht).1 q size rows ho
  rw [hh]; exact r.2 q size uX tQ
 | bptr t c =>
  have ht : t ≠ d := by simpa [At.ref] using hx
  refine ⟨r.1, fun cells ho => ?_⟩
  obtain ⟨hh, tc, tQ⟩ := (hc t 0 ht).2.2 cells ho
  rw [hh]; exact r.2 tc tQ
 | fn f t =>
  have ht : t ≠ d := by simpa [At.ref] using hx
  refine ⟨r.1, fun cells ho => ?_⟩
  obtain ⟨hh, tc, tQ⟩ := (hc t 0 ht).2.2 cells ho
  rw [hh]; exact r.2 tc tQ
 | tref t j i c o =>
  have ht : t ≠ d := by simpa [At.ref] using hx
  refine ⟨r.1, fun size rows ho => ?_⟩
  obtain ⟨hh, uX, tQ, hl⟩ := (hc t j ht).1 true size rows ho
  rw [hh]; exact r.2 size uX tQ
 | rptr rr c =>
  obtain ⟨b, off, g, e, hk⟩ := r
  exact ⟨b, off, g, e, fun k d hd => ⟨(hT _ _ _ (hk k d hd).2.1 (hk k d hd).1).1, (hT _ _ _ (hk k d hd).2.1 (hk k d hd).1).2, Rd.mono hT (hk k d hd).2.2⟩⟩
theorem kC (hT : ∀ b k v, T b k -> w.cell? ⟨b, k, none⟩ = some v -> w'.cell? ⟨b, k, none⟩ = some v /\ T' b k) (hc : ∀ t j, t ≠ d -> Cpt h h' ob sI t j)
  {xs : List At} {vs : List Value} (hx : YN d xs = false) (r : Z5 (YH T h ob w) xs vs) : Z5 (YH T' h' sI w') xs vs := by
 induction r with
 | nil => exact .nil
 | cons r _ ih =>
  simp only [YN, Bool.or_eq_false_iff] at hx
  exact .cons (YH.carry hT hc hx.1 r) (ih hx.2)
theorem Jn.carry (hT : ∀ b k v, T b k -> w.cell? ⟨b, k, none⟩ = some v -> w'.cell? ⟨b, k, none⟩ = some v /\ T' b k) (hc : ∀ t j, t ≠ d -> Cpt h h' ob sI t j)
  {x : V} {v : Value} (hx : x.Rc d = false) (r : Jn T h ob w x v) : Jn T' h' sI w' x v := by
 cases x with
 | any => exact r
 | one x => exact YH.carry hT hc hx r
 | agg xs => obtain ⟨cs, e, r⟩ := r; exact ⟨cs, e, kC hT hc hx r⟩
 | tup xs => exact r.elim
 | cnd g x => exact r.elim
 | fix u x => exact r.elim
theorem QK.carry (hT : ∀ b k v, T b k -> w.cell? ⟨b, k, none⟩ = some v -> w'.cell? ⟨b, k, none⟩ = some v /\ T' b k) (hc : ∀ t j, t ≠ d -> Cpt h h' ob sI t j)
  {x : V} {v : Value} (hx : x.ref d = false) (r : QK T h ob w x v) : QK T' h' sI w' x v := by
 cases x with
 | any => exact r
 | one x => exact YH.carry hT hc hx r
 | agg xs => obtain ⟨cs, e, r⟩ := r; exact ⟨cs, e, kC hT hc hx r⟩
 | tup xs =>
  obtain ⟨vs, e, r⟩ := r
  refine ⟨vs, e, ?_⟩
  clear e
  generalize vs.toList = vl at r
  simp only [V.ref] at hx
  induction r with
  | nil => exact .nil
  | cons r _ ih =>
   simp only [VQ, Bool.or_eq_false_iff] at hx
   exact .cons (Jn.carry hT hc hx.1 r) (ih hx.2)
 | cnd g x =>
  simp only [V.ref, Bool.or_eq_false_iff] at hx
  exact ⟨fun hg => Jn.carry hT hc hx.1 (r.1 hg), r.2⟩
 | fix u x =>
  simp only [V.ref, Bool.or_eq_false_iff] at hx
  exact ⟨r.1, Jn.carry hT hc hx.1 r.2⟩
end
section
variable {P : Program} {T0 : CS} {B : Nat -> Prop} {σ : St} {a : Act} {w w' : World} {X X' : Nat -> Prop} {h : Nat -> Nat -> Hd}
theorem Rel.Tlt (r : Rel T0 B σ a w X h) {b k : Nat} (hb : Tof T0 X b k) : b < w.heap.size := by
 rcases hb with hb | hb
 ·exact r.hB b (r.hT b k hb)
 ·exact (r.hX b hb).2
theorem yd {e : TypeId} {size n : Nat} {v : Value} {xs : List Value} (hb : ∀ b, blk v = some b -> w'.heap[b]? = w.heap[b]?) (ho : w.ownsRow 0 e size v n xs) : w'.ownsRow 0 e size v n xs := by
 refine ⟨ho.1, ?_⟩
 rcases ho.2 with hn | ⟨g, cap, cur, rfl, h0, hg, rest⟩
 ·exact .inl hn
 ·exact .inr ⟨g, cap, cur, rfl, h0, by rw [hb g rfl]; exact hg, rest⟩
theorem Own.V2 {v : Value} {d : D} {S : Nat -> Prop} (hb : ∀ b, S b -> w'.heap[b]? = w.heap[b]?) (ho : Own w v d S) : Own w' v d S := by
 induction ho with
 | int k n S => exact .int k n S
 | bool b S => exact .bool b S
 | str s S => exact .str s S
 | unk v h S => exact .unk v h S
 | sl v size rows S e xs Sk ho hz uP hl hk hs hd ih =>
  exact .sl v size rows S e xs Sk (yd (fun b h => hb b (uP b h)) ho) hz uP hl (fun k x d hx uU => ih k x d hx uU (fun b h => hb b (hs k b h).1)) hs hd
theorem Own.mono {v : Value} {d : D} {S S' : Nat -> Prop} (hS : ∀ b, S b -> S' b) (ho : Own w v d S) : Own w v d S' := by
 cases ho with
 | int k n S => exact .int k n S'
 | bool b S => exact .bool b S'
 | str s S => exact .str s S'
 | unk v h S => exact .unk v h S'
 | sl v size rows S e xs Sk ho hz uP hl hk hs hd => exact .sl v size rows S' e xs Sk ho hz (fun b h => hS b (uP b h)) hl hk (fun k b h => ⟨hS b (hs k b h).1, (hs k b h).2⟩) hd
theorem Qt.V2 {xs : List Value} {ds : List D} {S : Nat -> Prop} (hb : ∀ b, S b -> w'.heap[b]? = w.heap[b]?) (ho : Qt w xs ds S) : Qt w' xs ds S := by
 obtain ⟨hl, Sk, h1, h2, h3⟩ := ho
 exact ⟨hl, Sk, fun k x d hx hd => (h1 k x d hx hd).V2 (fun b h => hb b (h2 k b h)), h2, h3⟩
theorem Qs.V2 {T T' : CS} {h h' : Nat -> Nat -> Hd} {ob sI : Nat -> Nat -> Ob} {d : Nat} {hd : Hd} {o : Ob}
  (hT : ∀ b k v, T b k -> w.cell? ⟨b, k, none⟩ = some v -> w'.cell? ⟨b, k, none⟩ = some v /\ T' b k) (hc : ∀ t j, t ≠ d -> Cpt h h' ob sI t j)
  (th : o ≠ .none -> ∀ b, blk hd.v = some b -> hd.u b) (hb : o ≠ .none -> ∀ b, hd.u b -> w'.heap[b]? = w.heap[b]?) (hr : Yl d [o] = false) (r : Qs T h ob w hd o) : Qs T' h' sI w' hd o := by
 cases o with
 | none => trivial
 | box cells =>
  obtain ⟨b, cs, e, hv, hh, uJ⟩ := r
  simp only [Yl, Bool.or_false] at hr
  exact ⟨b, cs, e, hv, by rw [hb (by simp) b (th (by simp) b (by rw [hv]; rfl))]; exact hh, kC hT hc hr uJ⟩
 | arr q size rows =>
  have hk : ∀ {e : TypeId} {n : Nat} {xs : List Value}, w.ownsRow 0 e size hd.v n xs -> w'.ownsRow 0 e size hd.v n xs := fun ho => yd (fun b h => hb (by simp) b (th (by simp) b h)) ho
  cases q with
  | false =>
   obtain ⟨e, xs, ho, hz, uJ⟩ := r
   exact ⟨e, xs, hk ho, hz, uJ.imp fun _ _ => Rd.mono hT⟩
  | true =>
   obtain ⟨e, xs, ho, hz, uJ, hn⟩ := r
   exact ⟨e, xs, hk ho, hz, uJ.V2 (fun b h => hb (by simp) b h.1), hn⟩
 | lit size rows =>
  obtain ⟨e, xs, ho, hz, uJ⟩ := r
  simp only [Yl, Bool.or_false] at hr
  exact ⟨e, xs, yd (fun b h => hb (by simp) b (th (by simp) b h)) ho, hz, kC hT hc hr uJ⟩
theorem St.Dc {σ : St} {d : Nat} (hf : σ.fresh d = true) (t j : Nat) (uH : t ≠ d) : Yl d [σ.ob t j] = false := by
 cases ho : σ.ob t j with
 | none => rfl
 | box cells => simp [Yl, St.CL hf t j uH cells ho]
 | arr q size rows => rfl
 | lit size rows => simp only [Yl, St.DZ hf t j uH size rows ho, Bool.or_false]
theorem Rel.Hn (r : Rel T0 B σ a w X h) {d : Nat} (hf : σ.fresh d = true) (M : Nat -> Prop) (tM : w.heap.size <= w'.heap.size) (hg : ∀ k, k < w.heap.size -> ¬ M k -> w'.heap[k]? = w.heap[k]?)
  (hm : ∀ b, M b -> ¬ B b /\ ¬ X b /\ ∀ t j, t ≠ d -> σ.ob t j ≠ .none -> ¬ (h t j).u b) (hX : ∀ b, X b -> X' b) (pj : ∀ b, X' b -> X b \/ (w.heap.size <= b /\ b < w'.heap.size))
  (v : V) (val : Value) (os : List Ob) (hd : Nat -> Hd)
  (hv : QK (Tof T0 X') (fun t j => if t = d then hd j else h t j) (σ.new d v os).ob w' v val)
  (iZ : ∀ j, Qs (Tof T0 X') (fun t j => if t = d then hd j else h t j) (σ.new d v os).ob w' (hd j) (YU os j))
  (th : ∀ j b, YU os j ≠ .none -> blk (hd j).v = some b -> (hd j).u b)
  (uK : ∀ j b, YU os j ≠ .none -> (hd j).u b -> (w.heap.size <= b \/ M b) /\ ¬ X' b /\ b < w'.heap.size)
  (nL : ∀ j j' b, YU os j ≠ .none -> YU os j' ≠ .none -> (hd j).u b -> (hd j').u b -> j = j') :
  Rel T0 B (σ.new d v os) (a.put (some d) val) w' X' (fun t j => if t = d then hd j else h t j) := by
 have uQ := St.JH hf
 have cJ : ∀ b k, Tof T0 X b k -> ¬ M b := by
  intro b k hb gO
  rcases hb with hb | hb
  ·exact (hm b gO).1 (r.hT b k hb)
  ·exact (hm b gO).2.1 hb
 have hT : ∀ b k v, Tof T0 X b k -> w.cell? ⟨b, k, none⟩ = some v -> w'.cell? ⟨b, k, none⟩ = some v /\ Tof T0 X' b k := by
  intro b k v hb uM
  refine ⟨?_, hb.imp id (hX b)⟩
  rw [World.cell?_of_block (hg b (r.Tlt hb) (cJ b k hb))]; exact uM
 have hc : ∀ t j, t ≠ d -> Cpt h (fun t j => if t = d then hd j else h t j) σ.ob (σ.new d v os).ob t j := by
  intro t j uH
  have he : (σ.new d v os).ob t j = σ.ob t j := by rw [St.Qj, if_neg (fun hh => uH hh.1)]
  exact Cpt.same (by simp [uH]) he
 refine ⟨by simp [Act.put, r.size, St.kn], r.defers, fun b hb => Nat.lt_of_lt_of_le (r.hB b hb) tM, fun b hb => ?_, r.hT, fun t ht => ?_, fun t j => ?_, fun t j b ho hb => ?_, fun t j b ho hb => ?_, fun t j t' j' b ho uc hb uP => ?_⟩
 ·rcases pj b hb with hb | hb
  ·have := r.hX b hb; exact ⟨this.1, by omega⟩
  ·exact ⟨fun rZ => by have := r.hB b rZ; omega, hb.2⟩
 ·rw [St.kn] at ht
  rw [St.Wc]
  by_cases uU : t = d
  ·subst uU
   simp only [uQ, and_self, if_true]
   have : (a.tmps.setIfInBounds t val).getD t undef = val := by simp [r.size, uQ]
   simp only [Act.put, this]; exact hv
  ·rw [if_neg (fun hh => uU hh.1)]
   have : (a.tmps.setIfInBounds d val).getD t undef = a.tmps.getD t undef := by simp [Array.getElem?_setIfInBounds_ne (Ne.symm uU)]
   simp only [Act.put, this]
   exact QK.carry hT hc (St.Dw hf t uU) (r.slot t ht)
 ·rw [St.Qj]
  by_cases uU : t = d
  ·subst uU
   simp only [uQ, and_self, if_true]; exact iZ j
  ·have uH : ¬ (t = d /\ d < σ.length) := fun hh => uU hh.1
   rw [if_neg uH]
   simp only [if_neg uU]
   exact Qs.V2 hT hc (fun ho b => r.ub t j b ho) (fun ho b hu => hg b (r.own t j b ho hu).2.2 (fun gO => (hm b gO).2.2 t j uU ho hu)) (St.Dc hf t j uU) (r.obj t j)
 ·rw [St.Qj] at ho
  by_cases uU : t = d
  ·subst uU
   simp only [uQ, and_self, if_true] at ho hb ⊢
   exact th j b ho hb
  ·rw [if_neg (fun hh => uU hh.1)] at ho
   simp only [uU, if_false] at hb ⊢
   exact r.ub t j b ho hb
 ·rw [St.Qj] at ho
  by_cases uU : t = d
  ·subst uU
   simp only [uQ, and_self, if_true] at ho hb
   have h1 := uK j b ho hb
   refine ⟨?_, h1.2.1, h1.2.2⟩
   rcases h1.1 with h2 | h2
   ·exact fun rZ => by have := r.hB b rZ; omega
   ·exact (hm b h2).1
  ·rw [if_neg (fun hh => uU hh.1)] at ho
   simp only [uU, if_false] at hb
   have := r.own t j b ho hb
   refine ⟨this.1, fun hx => ?_, by omega⟩
   rcases pj b hx with hx | hx
   ·exact this.2.1 hx
   ·omega
 ·rw [St.Qj] at ho uc
  by_cases hd1 : t = d
  ·by_cases ph : t' = d
   ·subst hd1; subst ph
    simp only [uQ, and_self, if_true] at ho hb uc uP
    exact ⟨rfl, nL j j' b ho uc hb uP⟩
   ·subst hd1
    simp only [uQ, and_self, if_true] at ho hb
    rw [if_neg (fun hh => ph hh.1)] at uc
    simp only [ph, if_false] at uP
    have h1 := uK j b ho hb
    have h2 := r.own t' j' b uc uP
    rcases h1.1 with h3 | h3
    ·omega
    ·exact absurd uP ((hm b h3).2.2 t' j' ph uc)
  ·by_cases ph : t' = d
   ·subst ph
    simp only [uQ, and_self, if_true] at uc uP
    rw [if_neg (fun hh => hd1 hh.1)] at ho
    simp only [hd1, if_false] at hb
    have h1 := uK j' b uc uP
    have h2 := r.own t j b ho hb
    rcases h1.1 with h3 | h3
    ·omega
    ·exact absurd hb ((hm b h3).2.2 t j hd1 ho)
   ·rw [if_neg (fun hh => hd1 hh.1)] at ho
    rw [if_neg (fun hh => ph hh.1)] at uc
    simp only [hd1, ph, if_false] at hb uP
    exact r.inj t j t' j' b ho uc hb uP
theorem Rel.new (r : Rel T0 B σ a w X h) {d : Nat} (hf : σ.fresh d = true) (hg : w.grownBy w' none) (hX : ∀ b, X b -> X' b) (pj : ∀ b, X' b -> X b \/ (w.heap.size <= b /\ b < w'.heap.size))
  (v : V) (val : Value) (os : List Ob) (hd : Nat -> Hd)
  (hv : QK (Tof T0 X') (fun t j => if t = d then hd j else h t j) (σ.new d v os).ob w' v val)
  (iZ : ∀ j, Qs (Tof T0 X') (fun t j => if t = d then hd j else h t j) (σ.new d v os).ob w' (hd j) (YU os j))
  (th : ∀ j b, YU os j ≠ .none -> blk (hd j).v = some b -> (hd j).u b)
  (uK : ∀ j b, YU os j ≠ .none -> (hd j).u b -> w.heap.size <= b /\ ¬ X' b /\ b < w'.heap.size)
  (nL : ∀ j j' b, YU os j ≠ .none -> YU os j' ≠ .none -> (hd j).u b -> (hd j').u b -> j = j') :
  Rel T0 B (σ.new d v os) (a.put (some d) val) w' X' (fun t j => if t = d then hd j else h t j) :=
 r.Hn hf (fun _ => False) hg.size (fun k hk _ => hg.block k hk (by simp)) (fun _ hh => hh.elim) hX pj v val os hd hv iZ th (fun j b h1 h2 => ⟨.inl (uK j b h1 h2).1, (uK j b h1 h2).2⟩) nL
end
end Go.Vm
namespace Go.Vm
open Go.RowKit
def Kk (v : Value) (cs : List Value) : Prop := (∃ c, cs = [c] /\ v = c /\ c.oneCell' = true) \/ (cs.length ≠ 1 /\ v = .agg cs.toArray)
def TQ : List Value -> Value
 | [v] => v
 | vs => .tuple vs.toArray
def Q7 (T : CS) (w : World) (v : Value) : D -> Prop
 | .sl size rows => ∃ e xs, w.ownsRow 0 e size v rows.length xs /\ (∀ r ∈ rows, r.length = size) /\ Z5 (Rd T w) xs rows.flatten
 | d => Rd T w v d
def yO (own : Bool) (T : CS) (w : World) (v : Value) (d : D) : Prop := if own then Q7 T w v d else Rd T w v d
def T1 (P : Program) (f : FuncId) : Bool :=
 match P.funcs[f]? with
 | some fn => fn.body.isSome && fn.name != "runtime.NumGoroutine"
 | none => false
def wD (B N : Nat) (Y : Nat -> Prop) (cs : List Value) (ds : List D) : Prop :=
 (∀ (i : Nat) (c : Value) (d : D) (b : Nat), cs[i]? = some c -> ds[i]? = some d -> d.scalar = false -> blk c = some b -> B <= b /\ b < N /\ ¬ Y b) /\
 (∀ (i j : Nat) (c c' : Value) (d d' : D) (b : Nat), cs[i]? = some c -> ds[i]? = some d -> cs[j]? = some c' -> ds[j]? = some d' -> d.scalar = false -> d'.scalar = false -> blk c = some b -> blk c' = some b -> i = j)
def wT (own : Bool) (T : CS) (w : World) (res : List (List D)) (e : Ending) (w' : World) : Prop :=
 ∃ (vs : List Value) (uq : List (List Value)) (Y : Nat -> Prop), e = .returned (TQ vs) /\ Below w.heap.size w w' /\ (∀ b, Y b -> w.heap.size <= b /\ b < w'.heap.size) /\
  Z5 Kk vs uq /\ Z5 (fun cs row => Z5 (yO own (Tof T Y) w') cs row) uq res /\ (own = true -> wD w.heap.size w'.heap.size Y uq.flatten res.flatten)
def QH (P : Program) (f : FuncId) (own : Bool) (args res : List (List D)) : Prop :=
 T1 P f = true /\ ∀ (T : CS) (w : World) (u6 : List Value), (∀ b k, T b k -> b < w.heap.size) -> Z5 (fun v row => ∃ cs, Kk v cs /\ Z5 (Rd T w) cs row) u6 args ->
  Calls P f u6.toArray w (wT own T w res)
def vOf : List At -> V
 | [x] => .one x
 | xs => .agg xs
def kz (t : Nat) : Nat -> List D -> List At
 | _, [] => []
 | k, .sl _ rows :: ds => .sref t k 0 rows.length :: kz t (k + 1) ds
 | k, d :: ds => .d d :: kz t (k + 1) ds
def zd : List D -> List Ob
 | [] => []
 | .sl size rows :: ds => .arr false size rows :: zd ds
 | _ :: ds => .none :: zd ds
def I9 (t : Nat) : Nat -> List (List D) -> List V
 | _, [] => []
 | k, r :: rs => vOf (kz t k r) :: I9 t (k + r.length) rs
def xa (t : Nat) : List (List D) -> V
 | [r] => vOf (kz t 0 r)
 | rs => .tup (I9 t 0 rs)
def yu : List (List D) -> V
 | [r] => vOf (r.map .d)
 | rs => .tup (rs.map fun r => vOf (r.map .d))
def Kg (σ : St) : At -> Option D
 | .d x => some x
 | .nil s => some (.sl s [])
 | .sref t j lo len => (match σ.ob t j with | .arr _ size rows => some (.sl size (cut rows lo len)) | _ => none)
 | _ => none
def rowOf (σ : St) : List At -> Option (List D)
 | [] => some []
 | x :: xs => (match Kg σ x, rowOf σ xs with | some d, some ds => some (d :: ds) | _, _ => none)
def V.Jt (σ : St) : V -> Option (List D)
 | .one x => rowOf σ [x]
 | .agg [_] => none
 | .agg xs => rowOf σ xs
 | _ => none
def QF (P : Program) (σ : St) : List Operand -> List TypeId -> List (List D) -> Prop
 | [], _, rs => rs = []
 | x :: xs, t :: ts, rs => gOf (look P σ t x) = true /\ ∃ r rest, (unc (look P σ t x)).Jt σ = some r /\ QF P σ xs ts rest /\ rs = r :: rest
 | _ :: _, [], _ => False
def At.Hh : At -> Bool
 | .sref _ _ _ _ => false
 | .tref _ _ _ _ _ => false
 | _ => true
def J1 : List At -> Bool
 | [] => true
 | x :: xs => x.Hh && J1 xs
def YZ (P : Program) (σ : St) : List Operand -> List TypeId -> Bool
 | x :: xs, t :: ts => J1 (unc (look P σ t x)).cells && YZ P σ xs ts
 | _, _ => true
section
variable {P : Program} {T0 : CS} {B : Nat -> Prop} {σ : St} {a : Act} {w w' : World} {X X' : Nat -> Prop} {h : Nat -> Nat -> Hd}
theorem Rel.grow (r : Rel T0 B σ a w X h) (hg : w.grownBy w' none) (hX : ∀ b, X b -> X' b) (pj : ∀ b, X' b -> X b \/ (w.heap.size <= b /\ b < w'.heap.size)) : Rel T0 B σ a w' X' h := by
 have hT : ∀ b k v, Tof T0 X b k -> w.cell? ⟨b, k, none⟩ = some v -> w'.cell? ⟨b, k, none⟩ = some v /\ Tof T0 X' b k := by
  intro b k v hb uM
  refine ⟨?_, hb.imp id (hX b)⟩
  rw [World.cell?_of_block (hg.block b (r.Tlt hb) (by simp))]; exact uM
 have hB : w.heap.size <= w'.heap.size := hg.size
 refine ⟨r.size, r.defers, fun b hb => Nat.lt_of_lt_of_le (r.hB b hb) hB, fun b hb => ?_, r.hT, fun t ht => QK.mono hT (r.slot t ht), fun t j => ?_, r.ub, fun t j b ho hb => ?_, r.inj⟩
 ·rcases pj b hb with hb | hb
  ·have := r.hX b hb; exact ⟨this.1, by omega⟩
  ·exact ⟨fun rZ => by have := r.hB b rZ; omega, hb.2⟩
 ·have h0 := r.obj t j
  have hk : σ.ob t j ≠ .none -> ∀ b, (h t j).u b -> w'.heap[b]? = w.heap[b]? := fun ho b hu => hg.block b (r.own t j b ho hu).2.2 (by simp)
  have ua := r.ub t j
  cases ho : σ.ob t j with
  | none => trivial
  | box cells =>
   rw [ho] at h0 hk ua
   obtain ⟨b, cs, e, hv, hh, uJ⟩ := h0
   exact ⟨b, cs, e, hv, by rw [hk (by simp) b (ua b (by simp) (by rw [hv]; rfl))]; exact hh, uJ.imp fun _ _ => YH.mono hT⟩
  | arr q size rows =>
   rw [ho] at h0 hk ua
   cases q with
   | false =>
    obtain ⟨e, xs, sX, hz, uJ⟩ := h0
    exact ⟨e, xs, yd (fun b hb => hk (by simp) b (ua b (by simp) hb)) sX, hz, uJ.imp fun _ _ => Rd.mono hT⟩
   | true =>
    obtain ⟨e, xs, sX, hz, uJ, hn⟩ := h0
    exact ⟨e, xs, yd (fun b hb => hk (by simp) b (ua b (by simp) hb)) sX, hz, uJ.V2 (fun b hb => hk (by simp) b hb.1), hn⟩
  | lit size rows =>
   rw [ho] at h0 hk ua
   obtain ⟨e, xs, sX, hz, uJ⟩ := h0
   exact ⟨e, xs, yd (fun b hb => hk (by simp) b (ua b (by simp) hb)) sX, hz, uJ.imp fun _ _ => YH.mono hT⟩
 ·have := r.own t j b ho hb
  refine ⟨this.1, fun hx => ?_, by omega⟩
  rcases pj b hx with hx | hx
  ·exact this.2.1 hx
  ·omega
def S4 (T0 : CS) (X : Nat -> Prop) (h : Nat -> Nat -> Hd) (σ : St) : CS := fun b k => Tof T0 X b k \/ ∃ t j q size rows, σ.ob t j = .arr q size rows /\ (h t j).u b
theorem Rel.GA (r : Rel T0 B σ a w X h) {b k : Nat} (hb : S4 T0 X h σ b k) : b < w.heap.size := by
 rcases hb with hb | ⟨t, j, q, size, rows, ho, hb⟩
 ·exact r.Tlt hb
 ·exact (r.own t j b (by rw [ho]; simp) hb).2.2
theorem Es {T : CS} {w : World} {e : TypeId} {size : Nat} {v : Value} {rows : List (List D)} {xs : List Value} (ho : w.ownsRow 0 e size v rows.length xs) (hz : ∀ r ∈ rows, r.length = size) (hT : ∀ b k, blk v = some b -> T b k)
  (uJ : Z5 (Rd T w) xs rows.flatten) : Rd T w v (.sl size rows) := by
 rcases ho.2 with ⟨rfl, hn⟩ | ⟨g, cap, cur, rfl, _, hh, tz, sV, sU, ss⟩
 ·have : rows = [] := List.eq_nil_of_length_eq_zero hn
  subst this; exact .nil _
 ·refine .sl ⟨g, 0, none⟩ _ cap size rows (fun k => (xs[k]?).getD undef) rfl tz sV hz (fun _ => rfl) (fun k d hd => ?_) (fun k d hd => ?_)
  ·obtain ⟨u, hu, _⟩ := uJ.get' k d hd
   have uQ : k < rows.length * size := by
    have := (List.getElem?_eq_some_iff.1 hd).1
    rw [YI rows size hz] at this; exact this
   rw [hu]
   refine ⟨?_, hT g _ rfl⟩
   simp only [Nat.zero_add]
   refine J0 hh _ _ ?_
   rw [<- ss, List.getElem?_take, if_pos uQ] at hu
   exact hu
  ·obtain ⟨u, hu, hr⟩ := uJ.get' k d hd
   rw [hu]; exact hr
theorem Own.rd {T : CS} {w : World} {v : Value} {d : D} {S : Nat -> Prop} (ho : Own w v d S) (hT : ∀ b k, S b -> T b k) : Rd T w v d := by
 induction ho with
 | int k n S => exact .int k n
 | bool b S => exact .bool b
 | str s S => exact .str s
 | unk v h S => exact .unk v h
 | sl v size rows S e xs Sk ho hz uP hl hk hs hd ih =>
  exact Es ho hz (fun b k hb => hT b k (uP b hb)) (Z5.zq hl (fun k x d hx uU => ih k x d hx uU (fun b k' hb => hT b k' (hs k b hb).1)))
theorem Qt.rd {T : CS} {w : World} {xs : List Value} {ds : List D} {S : Nat -> Prop} (ho : Qt w xs ds S) (hT : ∀ b k, S b -> T b k) : Z5 (Rd T w) xs ds := by
 obtain ⟨hl, Sk, h1, h2, h3⟩ := ho
 exact Z5.zq hl (fun k x d hx hd => (h1 k x d hx hd).rd (fun b k' hb => hT b k' (h2 k b hb)))
theorem Rel.cells (r : Rel T0 B σ a w X h) {t j size : Nat} {q : Bool} {rows : List (List D)} (ho : σ.ob t j = .arr q size rows) :
  ∃ e xs, w.ownsRow 0 e size (h t j).v rows.length xs /\ (∀ r ∈ rows, r.length = size) /\ ∀ T : CS, (∀ b k, Tof T0 X b k -> T b k) -> (∀ b k, (h t j).u b -> T b k) -> Z5 (Rd T w) xs rows.flatten := by
 have h0 := r.obj t j
 rw [ho] at h0
 cases q with
 | false =>
  obtain ⟨e, xs, sX, hz, uJ⟩ := h0
  exact ⟨e, xs, sX, hz, fun T h1 _ => uJ.imp fun _ _ => Rd.mono (fun b k v hb hc => ⟨hc, h1 b k hb⟩)⟩
 | true =>
  obtain ⟨e, xs, sX, hz, uJ, hn⟩ := h0
  exact ⟨e, xs, sX, hz, fun T _ h2 => uJ.rd (fun b k hb => h2 b k hb.1)⟩
theorem Rel.E9 (r : Rel T0 B σ a w X h) {t j lo len size : Nat} {q : Bool} {rows : List (List D)} (ho : σ.ob t j = .arr q size rows) {v : Value} (hv : YH (Tof T0 X) h σ.ob w (.sref t j lo len) v)
  (T : CS) (eZ : ∀ b k, Tof T0 X b k -> T b k) (ea : ∀ b k, (h t j).u b -> T b k) : Rd T w v (.sl size (cut rows lo len)) := by
 obtain ⟨hle, tr, _, base, cap, rfl, tn, nh, oD, hb⟩ := hv.2.1 q size rows ho
 obtain ⟨e, xs, ⟨hl, uK⟩, hz, m0⟩ := r.cells ho
 have uJ := m0 T eZ ea
 have th := r.ub t j
 have uu : (cut rows lo len).length = len := Yu _ _ _ hle
 have sv : ∀ x ∈ cut rows lo len, x.length = size := fun x hx => hz x (List.mem_of_mem_drop (List.mem_of_mem_take hx))
 by_cases tO : 0 < len
 ·obtain ⟨b, rn, hh, rfl⟩ := hb tO
  rcases uK with ⟨hn, _⟩ | ⟨g, oc, cur, s6, _, m3, tz, sV, sU, ss⟩
  ·rw [hh] at hn; cases hn
  ·rw [hh] at s6
   cases s6
   have key : ∀ k d, (cut rows lo len).flatten[k]? = some d -> ∃ u, w.cell? ⟨b, lo * size + k, none⟩ = some u /\ T b (lo * size + k) /\ Rd T w u d := by
    intro k d hd
    have uU := xR rows size lo len hz k d hd
    obtain ⟨u, hu, hr⟩ := uJ.get' _ _ uU
    have uQ : lo * size + k < rows.length * size := by
     have := (List.getElem?_eq_some_iff.1 uU).1
     rw [YI rows size hz] at this; exact this
    refine ⟨u, J0 m3 _ _ ?_, ea b _ (th b (by rw [ho]; simp) (by rw [hh]; rfl)), hr⟩
    rw [<- ss, List.getElem?_take, if_pos uQ] at hu
    exact hu
   refine .sl ⟨b, lo * size, none⟩ len cap size _ (fun k => (w.cell? ⟨b, lo * size + k, none⟩).getD undef) uu tn nh sv (fun _ => rfl) (fun k d hd => ?_) (fun k d hd => ?_)
   ·obtain ⟨u, hu, ht, _⟩ := key k d hd
    rw [hu]; exact ⟨rfl, ht⟩
   ·obtain ⟨u, hu, _, hr⟩ := key k d hd
    rw [hu]; exact hr
 ·have cL : len = 0 := by omega
  subst cL
  have rf : cut rows lo 0 = [] := by simp [cut]
  rw [rf]
  cases base with
  | none => have := oD rfl; subst this; exact .nil _
  | some ad => exact .sl ad 0 cap size [] (fun _ => undef) rfl tn nh (by intro r hr; cases hr) (by simp) (by simp) (by simp)
end
end Go.Vm
namespace Go.Vm
open Go.RowKit
def D.Hl : D -> Prop
 | .sl _ rows => ∀ r ∈ rows, ∀ d ∈ r, d.scalar = true
 | _ => True
def JQ (own : Bool) (res : List (List D)) : Prop := ∀ r ∈ res, ∀ d ∈ r, if own = true then d.Hl else d.scalar = true
theorem Rd.scalar {T T' : CS} {w : World} {v : Value} {d : D} (hd : d.scalar = true) (r : Rd T w v d) : Rd T' w v d := by
 cases r with
 | int k n => exact .int k n
 | bool b => exact .bool b
 | str s => exact .str s
 | unk v h => exact .unk v h
 | nil => cases hd
 | sl => cases hd
theorem Q7.flat {T T' : CS} {w : World} {v : Value} {d : D} (hd : d.Hl) (r : Q7 T w v d) : Q7 T' w v d := by
 cases d with
 | sl size rows =>
  obtain ⟨e, xs, ho, hz, uJ⟩ := r
  refine ⟨e, xs, ho, hz, ?_⟩
  refine Z5.zq uJ.length (fun i x d hx uU => ?_)
  obtain ⟨d2, ph, hr⟩ := uJ.get i x hx
  rw [uU] at ph; cases ph
  have hm : d ∈ rows.flatten := List.mem_of_getElem? uU
  obtain ⟨r0, rY, hdr⟩ := List.mem_flatten.1 hm
  exact Rd.scalar (hd r0 rY d hdr) hr
 | int k n => exact Rd.scalar rfl r
 | bool b => exact Rd.scalar rfl r
 | str s => exact Rd.scalar rfl r
 | unk => exact Rd.scalar rfl r
theorem xy {w : World} {e : TypeId} {size : Nat} {v : Value} {n : Nat} {xs : List Value} (ho : w.ownsRow 0 e size v n xs) : D9 v size n 0 n v := by
 refine ⟨by omega, fun _ _ => rfl, ?_, ?_⟩
 ·intro _
  rcases ho.2 with ⟨rfl, rfl⟩ | ⟨g, cap, cur, rfl, _⟩ <;> rfl
 rcases ho.2 with ⟨rfl, rfl⟩ | ⟨g, cap, cur, rfl, _, _, tz, sV, _, _⟩
 ·exact ⟨none, 0, rfl, by omega, by simp [maxLen], fun _ => rfl, fun hh => by omega⟩
 ·exact ⟨_, cap, rfl, tz, sV, (fun hh => by cases hh), fun _ => ⟨g, cap, rfl, by simp⟩⟩
theorem QJ {w : World} {e : TypeId} {size : Nat} {v : Value} {n : Nat} {xs : List Value} (ho : w.ownsRow 0 e size v n xs) : v.oneCell' = true := by
 rcases ho.2 with ⟨rfl, rfl⟩ | ⟨g, cap, cur, rfl, _⟩ <;> rfl
theorem Q7.Xc {T : CS} {w : World} {v : Value} {d : D} (r : Q7 T w v d) : v.oneCell' = true := by
 cases d with
 | sl size rows => obtain ⟨e, xs, ho, _⟩ := r; exact QJ ho
 | int k n => exact Rd.Xc r
 | bool b => exact Rd.Xc r
 | str s => exact Rd.Xc r
 | unk => exact Rd.Xc r
theorem Q7.rd {T T' : CS} {w : World} {v : Value} {d : D} (r : Q7 T w v d) (h1 : ∀ b k, T b k -> T' b k) (h2 : d.scalar = false -> ∀ b k, blk v = some b -> T' b k) : Rd T' w v d := by
 cases d with
 | sl size rows =>
  obtain ⟨e, xs, ⟨hl, uK⟩, hz, uJ⟩ := r
  rcases uK with ⟨rfl, hn⟩ | ⟨g, cap, cur, rfl, _, hh, tz, sV, sU, ss⟩
  ·have : rows = [] := List.eq_nil_of_length_eq_zero hn
   subst this; exact .nil _
  ·refine .sl ⟨g, 0, none⟩ _ cap size rows (fun k => (xs[k]?).getD undef) rfl tz sV hz (fun _ => rfl) (fun k d hd => ?_) (fun k d hd => ?_)
   ·obtain ⟨u, hu, _⟩ := uJ.get' k d hd
    have uQ : k < rows.length * size := by
     have := (List.getElem?_eq_some_iff.1 hd).1
     rw [YI rows size hz] at this; exact this
    rw [hu]
    refine ⟨?_, h2 rfl g _ rfl⟩
    simp only [Nat.zero_add]
    refine J0 hh _ _ ?_
    rw [<- ss, List.getElem?_take, if_pos uQ] at hu
    exact hu
   ·obtain ⟨u, hu, hr⟩ := uJ.get' k d hd
    rw [hu]; exact Rd.mono (fun b k v hb hc => ⟨hc, h1 b k hb⟩) hr
 | int k n => exact Rd.scalar rfl r
 | bool b => exact Rd.scalar rfl r
 | str s => exact Rd.scalar rfl r
 | unk => exact Rd.scalar rfl r
section
variable {P : Program} {T0 : CS} {B : Nat -> Prop} {σ : St} {a : Act} {w w' : World} {X X' : Nat -> Prop} {h : Nat -> Nat -> Hd}
theorem Rel.Kg (r : Rel T0 B σ a w X h) {x : At} {v : Value} {d : D} (hd : Kg σ x = some d) (hv : YH (Tof T0 X) h σ.ob w x v) (st : Bool) (uk : st = true -> x.Hh = true) :
  Rd (if st then Tof T0 X else S4 T0 X h σ) w v d := by
 cases x with
 | d x => simp [Vm.Kg] at hd; subst hd; cases st <;> simp <;> first | exact hv | exact Rd.mono (fun b k v hb hc => ⟨hc, .inl hb⟩) hv
 | nil s => simp [Vm.Kg] at hd; subst hd; cases hv; exact .nil _
 | sref t j lo len =>
  cases st with
  | true => have := uk rfl; simp [At.Hh] at this
  | false =>
   simp only [Vm.Kg] at hd
   split at hd
   ·rename_i q size rows ho
    cases hd
    exact r.E9 ho hv _ (fun b k hb => .inl hb) (fun b k hb => .inr ⟨t, j, _, size, rows, ho, hb⟩)
   ·cases hd
 | any => simp [Vm.Kg] at hd
 | ptr => simp [Vm.Kg] at hd
 | bptr => simp [Vm.Kg] at hd
 | fn => simp [Vm.Kg] at hd
 | rptr => simp [Vm.Kg] at hd
 | tref => simp [Vm.Kg] at hd
theorem Rel.rowOf (r : Rel T0 B σ a w X h) (st : Bool) : ∀ {xs : List At} {vs : List Value} {ds : List D}, rowOf σ xs = some ds -> Z5 (YH (Tof T0 X) h σ.ob w) xs vs -> (st = true -> J1 xs = true) ->
  Z5 (Rd (if st then Tof T0 X else S4 T0 X h σ) w) vs ds
 | [], _, ds, hd, uJ, _ => by cases uJ; simp [Vm.rowOf] at hd; subst hd; exact .nil
 | x :: xs, _, ds, hd, uJ, uk => by
  cases uJ with
  | cons hx uJ =>
   simp only [Vm.rowOf] at hd
   split at hd
   ·rename_i d oP h1 h2
    cases hd
    refine .cons (r.Kg h1 hx st (fun hs => ?_)) (Rel.rowOf r st h2 uJ (fun hs => ?_))
    ·have := uk hs; simp [J1] at this; exact this.1
    ·have := uk hs; simp [J1] at this; exact this.2
   ·cases hd
theorem Rel.Jt (r : Rel T0 B σ a w X h) (st : Bool) {v : V} {val : Value} {row : List D} (hr : v.Jt σ = some row) (hv : QK (Tof T0 X) h σ.ob w v val) (uk : st = true -> J1 v.cells = true) :
  ∃ cs, Kk val cs /\ Z5 (Rd (if st then Tof T0 X else S4 T0 X h σ) w) cs row := by
 cases v with
 | one x => exact ⟨[val], .inl ⟨val, rfl, rfl, YH.Xc (show YH _ _ _ _ _ _ from hv)⟩, r.rowOf st (xs := [x]) hr (.cons hv .nil) uk⟩
 | agg xs =>
  obtain ⟨cs, rfl, uJ⟩ := hv
  have hl := uJ.length
  match xs, hr, uJ, hl, uk with
  | [], hr, uJ, hl, uk => exact ⟨cs.toList, .inr ⟨by rw [<- hl]; simp, by simp⟩, r.rowOf st hr uJ uk⟩
  | [_], hr, _, _, _ => simp [V.Jt] at hr
  | x :: y :: xs, hr, uJ, hl, uk => exact ⟨cs.toList, .inr ⟨by rw [<- hl]; simp, by simp⟩, r.rowOf st hr uJ uk⟩
 | any => simp [V.Jt] at hr
 | tup xs => simp [V.Jt] at hr
 | cnd g x => simp [V.Jt] at hr
 | fix u x => simp [V.Jt] at hr
theorem Rel.QF (r : Rel T0 B σ a w X h) (st : Bool) : ∀ {xs : List Operand} {ts : List TypeId} {rs : List (List D)}, QF P σ xs ts rs -> (st = true -> YZ P σ xs ts = true) ->
  Z5 (fun v row => ∃ cs, Kk v cs /\ Z5 (Rd (if st then Tof T0 X else S4 T0 X h σ) w) cs row) (xs.map a.eval) rs
 | [], _, rs, hr, _ => by cases hr; exact .nil
 | x :: xs, [], rs, hr, _ => hr.elim
 | x :: xs, t :: ts, rs, hr, uk => by
  obtain ⟨hg, row, rest, h1, h2, rfl⟩ := hr
  refine .cons (r.Jt st h1 (r.arg t x rfl hg) (fun hs => ?_)) (Rel.QF r st h2 (fun hs => ?_))
  ·have := uk hs; simp [YZ] at this; exact this.1
  ·have := uk hs; simp [YZ] at this; exact this.2
theorem ku {o : Oper} {c : Call} {f : FuncId} (uE : o.op = .call c) (hc : c.callee = .value (.func f)) (hf : T1 P f = true) : (execOp a.eval o).run P w = .ok (.enter f (c.args.toList.map a.eval).toArray) w := by
 unfold T1 at hf
 split at hf
 ·rename_i fn dw
  simp only [Bool.and_eq_true, bne_iff_ne, ne_eq] at hf
  obtain ⟨cd, hb⟩ := Option.isSome_iff_exists.1 hf.1
  obtain ⟨callee, args, gf⟩ := c
  simp only at hc; subst hc
  have hm : (args.toList.map a.eval).toArray = args.map a.eval := by apply Array.toList_inj.1; simp
  rw [hm]
  simp [execOp, uE, resolve, Act.eval, Deferred.ofValue, invoke, callFunc, dw, hf.2, hb]
 ·cases hf
end
end Go.Vm
namespace Go.Vm
open Go.RowKit
section
variable {P : Program} {T0 : CS} {B : Nat -> Prop} {σ : St} {a : Act} {w w' : World} {X X' : Nat -> Prop} {h : Nat -> Nat -> Hd}
theorem Below.grownBy (hb : Below w.heap.size w w') : w.grownBy w' none := ⟨hb.os, hb.tape, hb.output, hb.size, fun k hk _ => hb.block k hk⟩
theorem Nl {T : CS} {ob : Nat -> Nat -> Ob} {xs : List At} {v : Value} {cs : List Value} (hf : Kk v cs) (uJ : Z5 (YH T h ob w) xs cs) : Jn T h ob w (vOf xs) v := by
 have hl := uJ.length
 rcases hf with ⟨c, rfl, rfl, h1⟩ | ⟨uH, rfl⟩
 ·cases uJ with
  | cons hx uJ => cases uJ; exact hx
 ·match xs, uJ, hl with
  | [], uJ, _ => exact ⟨_, rfl, by simpa using uJ⟩
  | [x], uJ, hl => exact absurd hl.symm (by simpa using uH)
  | x :: y :: xs, uJ, _ => exact ⟨_, rfl, by simpa using uJ⟩
theorem kD {T : CS} {ob : Nat -> Nat -> Ob} {cs : List Value} {row : List D} (uJ : Z5 (Rd T w) cs row) : Z5 (YH T h ob w) (row.map .d) cs := by
 induction uJ with
 | nil => exact .nil
 | cons r _ ih => exact .cons r ih
theorem EY {T : CS} {ob : Nat -> Nat -> Ob} {res : List (List D)} {vs : List Value} {uq : List (List Value)} (hf : Z5 Kk vs uq) (uJ : Z5 (fun cs row => Z5 (Rd T w) cs row) uq res) :
  Z5 (Jn T h ob w) (res.map fun r => vOf (r.map .d)) vs := by
 induction hf generalizing res with
 | nil => cases uJ; exact .nil
 | cons f _ ih => cases uJ with
  | cons r uJ => exact .cons (Nl f (kD r)) (ih uJ)
theorem HJ {T : CS} {ob : Nat -> Nat -> Ob} {res : List (List D)} {vs : List Value} {uq : List (List Value)} (hf : Z5 Kk vs uq) (uJ : Z5 (fun cs row => Z5 (Rd T w) cs row) uq res) :
  QK T h ob w (yu res) (TQ vs) := by
 have hl := EY (h := h) (ob := ob) hf uJ
 have h1 := hl.length
 match res, vs, hl, h1 with
 | [r], [v], hl, _ => cases hl with | cons x _ => exact x.up
 | [], [], hl, _ => exact ⟨_, rfl, by simpa using hl⟩
 | r :: r' :: rs, v :: v' :: vs, hl, _ => exact ⟨_, rfl, by simpa using hl⟩
 | [], v :: vs, _, h1 => simp at h1
 | [r], [], _, h1 => simp at h1
 | [r], v :: v' :: vs, _, h1 => simp at h1
 | r :: r' :: rs, [], _, h1 => simp at h1
 | r :: r' :: rs, [v], _, h1 => simp at h1
theorem P3 {α β : Type} {R S : α -> β -> Prop} {l : List (List α)} {m : List (List β)} (s5 : ∀ (a : α) (b : β) (row : List β), row ∈ m -> b ∈ row -> R a b -> S a b) (uJ : Z5 (fun x y => Z5 R x y) l m) : Z5 (fun x y => Z5 S x y) l m := by
 induction uJ with
 | nil => exact .nil
 | @cons x y _ _ r7 _ ih =>
  refine .cons ?_ (ih (fun a b row hr => s5 a b row (by simp [hr])))
  have tV : ∀ b ∈ y, ∀ a, R a b -> S a b := fun b hb a hr => s5 a b y (by simp) hb hr
  clear ih s5
  induction r7 with
  | nil => exact .nil
  | cons r _ nm => exact .cons (tV _ (by simp) _ r) (nm (fun b hb => tV b (by simp [hb])))
theorem jw (r : Rel T0 B σ a w X h) {o : Oper} {c : Call} {f : FuncId} {d : Nat} {own : Bool} {rows res : List (List D)} (uE : o.op = .call c) (hc : c.callee = .value (.func f)) (hd : o.dst = some d)
  (uL : QF P σ c.args.toList c.argTypes.toList rows) (st : Bool) (uk : st = true -> YZ P σ c.args.toList c.argTypes.toList = true) (tb : st = false -> JQ own res) (hs : QH P f own rows res)
  {K : Act -> World -> Prop} {Q : Exit -> Act -> World -> Prop} (hK : ∀ a' w', Q0 T0 B (σ.put d (yu res)) a' w' -> Yr B w w' -> K a' w') : o.wp P a w K Q := by
 unfold Oper.wp
 rw [ku uE hc hs.1, Oper.upon_enter]
 refine (hs.2 (if st then Tof T0 X else S4 T0 X h σ) w _ (fun b k hb => ?_) (r.QF st uL uk)).mono ?_
 ·cases st
  ·exact r.GA hb
  ·exact r.Tlt hb
 ·rintro e w' ⟨vs, uq, Y, rfl, sB, hY, ur, sW, oW⟩
  have pj : ∀ b, (X b \/ (w.heap.size <= b /\ b < w'.heap.size)) -> X b \/ (w.heap.size <= b /\ b < w'.heap.size) := fun b hb => hb
  have r2 := r.grow (X' := fun b => X b \/ (w.heap.size <= b /\ b < w'.heap.size)) (Below.grownBy sB) (fun b hb => .inl hb) pj
  have rF : Z5 (fun cs row => Z5 (Rd (Tof T0 fun b => X b \/ (w.heap.size <= b /\ b < w'.heap.size)) w') cs row) uq res := by
   have tV : ∀ (i : Nat) (c : Value) (d : D), uq.flatten[i]? = some c -> res.flatten[i]? = some d -> own = true -> d.scalar = false -> ∀ b, blk c = some b -> w.heap.size <= b /\ b < w'.heap.size := by
    intro i c d h1 h2 ho tL b hb
    have := (oW ho).1 i c d b h1 h2 tL hb
    exact ⟨this.1, this.2.1⟩
   have conv : ∀ (c : Value) (d : D), (∀ b, own = true -> d.scalar = false -> blk c = some b -> w.heap.size <= b /\ b < w'.heap.size) -> (st = false -> if own = true then d.Hl else d.scalar = true) ->
     yO own (Tof (if st then Tof T0 X else S4 T0 X h σ) Y) w' c d -> Rd (Tof T0 fun b => X b \/ (w.heap.size <= b /\ b < w'.heap.size)) w' c d := by
    intro c d uo nK hr
    cases own with
    | true =>
     have tS : Q7 (Tof (if st then Tof T0 X else S4 T0 X h σ) Y) w' c d := by simpa [yO] using hr
     cases st with
     | true =>
      refine Q7.rd tS (fun b k hb => ?_) (fun tL b k hb => .inr (.inr (uo b rfl tL hb)))
      rcases hb with hb | hb
      ·rcases (show Tof T0 X b k from by simpa using hb) with hb | hb
       ·exact .inl hb
       ·exact .inr (.inl hb)
      ·exact .inr (.inr (hY b hb))
     | false =>
      exact Q7.rd (Q7.flat (T' := fun _ _ => False) (by simpa using nK rfl) tS) (fun b k hb => hb.elim) (fun tL b k hb => .inr (.inr (uo b rfl tL hb)))
    | false =>
     have tS : Rd (Tof (if st then Tof T0 X else S4 T0 X h σ) Y) w' c d := by simpa [yO] using hr
     cases st with
     | true =>
      refine Rd.mono (fun b k v hb hc => ⟨hc, ?_⟩) tS
      rcases hb with hb | hb
      ·rcases (show Tof T0 X b k from by simpa using hb) with hb | hb
       ·exact .inl hb
       ·exact .inr (.inl hb)
      ·exact .inr (.inr (hY b hb))
     | false => exact Rd.scalar (by simpa using nK rfl) tS
   have go : ∀ (uq : List (List Value)) (res : List (List D)), Z5 (fun cs row => Z5 (yO own (Tof (if st then Tof T0 X else S4 T0 X h σ) Y) w') cs row) uq res ->
     (∀ (i : Nat) (c : Value) (d : D), uq.flatten[i]? = some c -> res.flatten[i]? = some d -> own = true -> d.scalar = false -> ∀ b, blk c = some b -> w.heap.size <= b /\ b < w'.heap.size) ->
     (st = false -> JQ own res) -> Z5 (fun cs row => Z5 (Rd (Tof T0 fun b => X b \/ (w.heap.size <= b /\ b < w'.heap.size)) w') cs row) uq res := by
    intro uq res uJ
    induction uJ with
    | nil => intro _ _; exact .nil
    | @cons cs row fP fQ um _ ih =>
     intro hm hf
     have hlen := um.length
     refine .cons (Z5.zq hlen (fun i c d hc uU => ?_)) (ih (fun i c d h1 h2 => ?_) (fun hs r hr => hf hs r (by simp [hr])))
     ·obtain ⟨d2, ph, hr⟩ := um.get i c hc
      rw [uU] at ph; cases ph
      refine conv c d (fun b ho tL hb => hm i c d ?_ ?_ ho tL b hb) (fun hs => hf hs row (by simp) d (List.mem_of_getElem? uU)) hr
      ·rw [List.flatten_cons, List.getElem?_append_left (List.getElem?_eq_some_iff.1 hc).1]; exact hc
      ·rw [List.flatten_cons, List.getElem?_append_left (List.getElem?_eq_some_iff.1 uU).1]; exact uU
     ·refine hm (cs.length + i) c d ?_ ?_
      ·rw [List.flatten_cons, List.getElem?_append_right (by omega)]; simpa using h1
      ·rw [List.flatten_cons, List.getElem?_append_right (by omega), hlen]; simpa using h2
   exact go uq res sW tV tb
  rw [hd]
  exact hK _ _ ⟨_, _, r2.put d _ _ (HJ ur rF)⟩ (Yr.Ru sB r.hB)
end
end Go.Vm
namespace Go.Vm
open Go.RowKit
section
variable {P : Program} {T0 : CS} {B : Nat -> Prop} {σ : St} {a : Act} {w w' : World} {X X' : Nat -> Prop} {h : Nat -> Nat -> Hd}
theorem UF : ∀ (ds : List D) (k : Nat), YU (zd ds) k = (match ds[k]? with | some (.sl size rows) => .arr false size rows | _ => .none)
 | [], k => by simp [zd, YU]
 | d :: ds, 0 => by cases d <;> simp [zd, YU]
 | d :: ds, k + 1 => by
  have := UF ds k
  cases d <;> simpa [zd, YU] using this
def qw (T : CS) (w : World) (v : Value) : D -> Prop
 | .sl size rows => ∃ e xs, w.ownsRow 0 e size v rows.length xs
 | d => Rd T w v d
theorem Q7.top {T : CS} {v : Value} {d : D} (r : Q7 T w v d) : qw T w v d := by
 cases d with
 | sl size rows => obtain ⟨e, xs, ho, _⟩ := r; exact ⟨e, xs, ho⟩
 | int k n => exact r
 | bool b => exact r
 | str s => exact r
 | unk => exact r
theorem qw.Xc {T : CS} {v : Value} {d : D} (r : qw T w v d) : v.oneCell' = true := by
 cases d with
 | sl size rows => obtain ⟨e, xs, ho⟩ := r; exact QJ ho
 | int k n => exact Rd.Xc r
 | bool b => exact Rd.Xc r
 | str s => exact Rd.Xc r
 | unk => exact Rd.Xc r
theorem MY {T : CS} {ob : Nat -> Nat -> Ob} {t : Nat} : ∀ {ds : List D} {cs : List Value} {k : Nat}, Z5 (qw T w) cs ds ->
  (∀ i size rows, ds[i]? = some (.sl size rows) -> ∃ q, ob t (k + i) = .arr q size rows) -> (∀ i c, cs[i]? = some c -> (h t (k + i)).v = c) -> Z5 (YH T h ob w) (kz t k ds) cs
 | [], _, k, uJ, _, _ => by cases uJ; exact .nil
 | d :: ds, _, k, uJ, ho, hh => by
  cases uJ with
  | @cons c _ cs _ hc uJ =>
   have ih := MY (k := k + 1) uJ (fun i size rows hi => by have := ho (i + 1) size rows (by simpa using hi); rw [show k + 1 + i = k + (i + 1) by omega]; exact this)
    (fun i c' tB => by have := hh (i + 1) c' (by simpa using tB); rw [show k + 1 + i = k + (i + 1) by omega]; exact this)
   cases d with
   | sl size rows =>
    obtain ⟨q0, h0⟩ := ho 0 size rows (by simp)
    have h1 := hh 0 c (by simp)
    rw [Nat.add_zero] at h0 h1
    refine .cons ⟨qw.Xc hc, fun q' ug uT uc => ?_, fun ug uT uc => by rw [h0] at uc; cases uc⟩ ih
    rw [h0] at uc; cases uc
    obtain ⟨e, xs, uK⟩ := hc
    rw [h1]; exact xy uK
   | int k' n => exact .cons hc ih
   | bool b => exact .cons hc ih
   | str s => exact .cons hc ih
   | unk => exact .cons hc ih
theorem Dk {T : CS} {ob : Nat -> Nat -> Ob} {t : Nat} {vs : List Value} {uq : List (List Value)} (hf : Z5 Kk vs uq) : ∀ {res : List (List D)} {k : Nat}, Z5 (fun cs row => Z5 (qw T w) cs row) uq res ->
  (∀ i size rows, res.flatten[i]? = some (.sl size rows) -> ∃ q, ob t (k + i) = .arr q size rows) -> (∀ i c, uq.flatten[i]? = some c -> (h t (k + i)).v = c) -> Z5 (Jn T h ob w) (I9 t k res) vs := by
 induction hf with
 | nil => intro res k uJ _ _; cases uJ; exact .nil
 | @cons v cs bZ fP f _ ih =>
  intro res k uJ ho hh
  cases uJ with
  | @cons _ row _ fQ r uJ =>
   have hlen := r.length
   refine .cons (Nl f (MY r (fun i size rows hi => ho i size rows ?_) (fun i c hc => hh i c ?_))) (ih uJ (fun i size rows hi => ?_) (fun i c hc => ?_))
   ·rw [List.flatten_cons, List.getElem?_append_left (List.getElem?_eq_some_iff.1 hi).1]; exact hi
   ·rw [List.flatten_cons, List.getElem?_append_left (List.getElem?_eq_some_iff.1 hc).1]; exact hc
   ·have := ho (row.length + i) size rows (by rw [List.flatten_cons, List.getElem?_append_right (by omega)]; simpa using hi)
    rw [Nat.add_assoc]; exact this
   ·have := hh (row.length + i) c (by rw [List.flatten_cons, List.getElem?_append_right (by omega), <- hlen]; simpa using hc)
    rw [Nat.add_assoc]; exact this
theorem Mf {T : CS} {ob : Nat -> Nat -> Ob} {t : Nat} {vs : List Value} {uq : List (List Value)} {res : List (List D)} (hf : Z5 Kk vs uq) (uJ : Z5 (fun cs row => Z5 (qw T w) cs row) uq res)
  (ho : ∀ i size rows, res.flatten[i]? = some (.sl size rows) -> ∃ q, ob t i = .arr q size rows) (hh : ∀ i c, uq.flatten[i]? = some c -> (h t i).v = c) : QK T h ob w (xa t res) (TQ vs) := by
 have hl := Dk (k := 0) hf uJ (by simpa using ho) (by simpa using hh)
 have h1 : res.length = vs.length := by rw [hf.length, uJ.length]
 match res, vs, hl, h1 with
 | [r], [v], hl, _ => cases hl with | cons x _ => exact x.up
 | [], [], hl, _ => exact ⟨_, rfl, by simpa using hl⟩
 | r :: r' :: rs, v :: v' :: vs, hl, _ => exact ⟨_, rfl, by simpa using hl⟩
 | [], v :: vs, _, h1 => simp at h1
 | [r], [], _, h1 => simp at h1
 | [r], v :: v' :: vs, _, h1 => simp at h1
 | r :: r' :: rs, [], _, h1 => simp at h1
 | r :: r' :: rs, [v], _, h1 => simp at h1
theorem yi {α β : Type} {R : α -> β -> Prop} {l : List (List α)} {m : List (List β)} (uJ : Z5 (fun x y => Z5 R x y) l m) : Z5 R l.flatten m.flatten := by
 induction uJ with
 | nil => exact .nil
 | cons r _ ih => rw [List.flatten_cons, List.flatten_cons]; exact r.append ih
theorem SQ (r : Rel T0 B σ a w X h) {o : Oper} {c : Call} {f : FuncId} {d : Nat} {rows res : List (List D)} (uE : o.op = .call c) (hc : c.callee = .value (.func f)) (hd : o.dst = some d) (tD : σ.fresh d = true)
  (uL : QF P σ c.args.toList c.argTypes.toList rows) (st : Bool) (uk : st = true -> YZ P σ c.args.toList c.argTypes.toList = true) (tb : st = false -> JQ true res) (hs : QH P f true rows res)
  {K : Act -> World -> Prop} {Q : Exit -> Act -> World -> Prop} (hK : ∀ a' w', Q0 T0 B (σ.new d (xa d res) (zd res.flatten)) a' w' -> Yr B w w' -> K a' w') : o.wp P a w K Q := by
 have uQ := St.JH tD
 unfold Oper.wp
 rw [ku uE hc hs.1, Oper.upon_enter]
 refine (hs.2 (if st then Tof T0 X else S4 T0 X h σ) w _ (fun b k hb => ?_) (r.QF st uL uk)).mono ?_
 ·cases st
  ·exact r.GA hb
  ·exact r.Tlt hb
 ·rintro e w' ⟨vs, uq, Y, rfl, sB, hY, ur, sW, oW⟩
  have oW := oW rfl
  have rF : Z5 (fun cs row => Z5 (Q7 (Tof T0 fun b => X b \/ Y b) w') cs row) uq res := by
   refine P3 (fun c d row um hdr hr => ?_) sW
   have tS : Q7 (Tof (if st then Tof T0 X else S4 T0 X h σ) Y) w' c d := by simpa [yO] using hr
   cases st with
   | true =>
    have hT : ∀ b k, Tof (if true = true then Tof T0 X else S4 T0 X h σ) Y b k -> Tof T0 (fun b => X b \/ Y b) b k := by
     intro b k hb
     rcases hb with hb | hb
     ·rcases (show Tof T0 X b k from by simpa using hb) with hb | hb
      ·exact .inl hb
      ·exact .inr (.inl hb)
     ·exact .inr (.inr hb)
    cases d with
    | sl size rows =>
     obtain ⟨e, xs, ho, hz, uJ⟩ := tS
     exact ⟨e, xs, ho, hz, uJ.imp fun _ _ => Rd.mono (fun b k v hb hc => ⟨hc, hT b k hb⟩)⟩
    | int k n => exact Rd.scalar rfl tS
    | bool b => exact Rd.scalar rfl tS
    | str s => exact Rd.scalar rfl tS
    | unk => exact Rd.scalar rfl tS
   | false => exact Q7.flat (by simpa using tb rfl row um d hdr) tS
  have ta := yi rF
  rw [hd]
  refine hK _ _ ⟨fun b => X b \/ Y b, fun t j => if t = d then Hd.of ((uq.flatten[j]?).getD undef) else h t j, ?_⟩ (Yr.Ru sB r.hB)
  have uM : ∀ (j size : Nat) (rows : List (List D)), res.flatten[j]? = some (D.sl size rows) -> ∃ c, uq.flatten[j]? = some c /\ Q7 (Tof T0 fun b => X b \/ Y b) w' c (D.sl size rows) := fun j size rows hj => ta.get' j _ hj
  have ua : ∀ j, (σ.new d (xa d res) (zd res.flatten)).ob d j = YU (zd res.flatten) j := fun j => by rw [St.Qj]; simp [uQ]
  have m7 : ∀ j, YU (zd res.flatten) j ≠ .none -> ∃ size rows, res.flatten[j]? = some (D.sl size rows) := by
   intro j uH
   rw [UF] at uH
   split at uH
   ·rename_i size rows hj; exact ⟨size, rows, hj⟩
   ·exact absurd rfl uH
  refine r.new tD (Below.grownBy sB) (fun b hb => .inl hb) (fun b hb => hb.imp id (fun hy => hY b hy)) (xa d res) (TQ vs) (zd res.flatten) (fun j => Hd.of ((uq.flatten[j]?).getD undef)) ?_ (fun j => ?_) (fun j b _ hb => hb) (fun j b uH hb => ?_) (fun j j' b uH ux hb uP => ?_)
  ·refine Mf ur (P3 (fun _ _ _ _ _ hr => Q7.top hr) rF) (fun i size rows hi => ⟨false, ?_⟩) (fun i c hi => by simp [hi, Hd.of])
   rw [ua, UF, hi]
  ·rw [UF]
   split
   ·rename_i size rows hj
    obtain ⟨c, tB, uK⟩ := uM j size rows hj
    obtain ⟨e, xs, ho, hz, uJ⟩ := uK
    exact ⟨e, xs, by rw [tB]; exact ho, hz, uJ⟩
   ·trivial
  ·obtain ⟨size, rows, hj⟩ := m7 j uH
   obtain ⟨c, tB, _⟩ := uM j size rows hj
   have uP : blk c = some b := by simpa [Hd.of, tB] using hb
   have := oW.1 j c _ b tB hj rfl uP
   refine ⟨this.1, ?_, this.2.1⟩
   rintro (hx | hy)
   ·have := r.hX b hx; omega
   ·exact this.2.2 hy
  ·obtain ⟨size, rows, hj⟩ := m7 j uH
   obtain ⟨ug, uT, ra⟩ := m7 j' ux
   obtain ⟨c, tB, _⟩ := uM j size rows hj
   obtain ⟨c2, pk, _⟩ := uM j' ug uT ra
   exact oW.2 j j' c c2 _ _ b tB hj pk ra rfl rfl (by simpa [Hd.of, tB] using hb) (by simpa [Hd.of, pk] using uP)
end
end Go.Vm
namespace Go.Vm
open Go.RowKit
section
variable {P : Program} {T0 : CS} {B : Nat -> Prop} {σ : St} {a : Act} {w w' : World} {X X' : Nat -> Prop} {h : Nat -> Nat -> Hd}
theorem Yr.Vh {B : Nat -> Prop} (hg : w.grownBy w' none) (hB : ∀ b, B b -> b < w.heap.size) : Yr B w w' := ⟨hg.os, hg.tape, hg.output, hg.size, fun k hk => hg.block k (hB k hk) (by simp)⟩
theorem Rel.Co (r : Rel T0 B σ a w X h) {d : Nat} (hf : σ.fresh d = true) (cs : Array Value) (T : TypeId) (xs : List At) (hx : YN d xs = false) (uJ : Z5 (YH (Tof T0 X) h σ.ob w) xs cs.toList) :
  Q0 T0 B (σ.new d (.one (.bptr d 0)) [.box xs]) (a.put (some d) (.pointer (some ⟨w.heap.size, 0, none⟩))) (w.alloc (.cells cs T)) /\ Yr B w (w.alloc (.cells cs T)) := by
 have hg := World.grownBy_alloc w (.cells cs T) none
 have uQ := St.JH hf
 have hT : ∀ b k v, Tof T0 X b k -> w.cell? ⟨b, k, none⟩ = some v -> (w.alloc (.cells cs T)).cell? ⟨b, k, none⟩ = some v /\ Tof T0 X b k := by
  intro b k v hb uM
  refine ⟨?_, hb⟩
  rw [World.cell?_of_block (hg.block b (r.Tlt hb) (by simp))]; exact uM
 refine ⟨⟨X, fun t j => if t = d then Hd.of (.pointer (some ⟨w.heap.size, 0, none⟩)) else h t j, ?_⟩, Yr.Vh hg r.hB⟩
 have tC : (σ.new d (.one (.bptr d 0)) [.box xs]).ob d 0 = .box xs := by rw [St.Qj]; simp [uQ, YU]
 have hc : ∀ t j, t ≠ d -> Cpt h (fun t j => if t = d then Hd.of (.pointer (some ⟨w.heap.size, 0, none⟩)) else h t j) σ.ob (σ.new d (.one (.bptr d 0)) [.box xs]).ob t j := by
  intro t j uH
  have he : (σ.new d (.one (.bptr d 0)) [.box xs]).ob t j = σ.ob t j := by rw [St.Qj, if_neg (fun hh => uH hh.1)]
  exact Cpt.same (by simp [uH]) he
 refine r.new hf hg (fun _ hb => hb) (fun _ hb => .inl hb) _ _ [.box xs] (fun _ => Hd.of (.pointer (some ⟨w.heap.size, 0, none⟩))) ?_ (fun j => ?_) (fun j b _ hb => hb) (fun j b _ hb => ?_) (fun j j' b uH ux _ _ => ?_)
 ·exact ⟨rfl, fun cells _ => ⟨w.heap.size, by simp [Hd.of], rfl⟩⟩
 ·cases j with
  | zero =>
   refine ⟨w.heap.size, cs, T, rfl, ?_, kC hT hc hx uJ⟩
   exact heap_alloc_new w _
  | succ j => simp [YU, Qs]
 ·simp [Hd.of, blk] at hb; subst hb
  refine ⟨Nat.le_refl _, fun pH => ?_, by simp⟩
  have := (r.hX _ pH).2; omega
 ·have : ∀ j, YU [Ob.box xs] j ≠ .none -> j = 0 := by
   intro j hj
   cases j with
   | zero => rfl
   | succ j => simp [YU] at hj
  rw [this j uH, this j' ux]
theorem Rel.C9 (r : Rel T0 B σ a w X h) {d : Nat} (hf : σ.fresh d = true) (hg : w.grownBy w' none) (v : Value) {size : Nat} {rows : List (List D)}
  (ho : Q7 (Tof T0 X) w' v (.sl size rows)) (hb : ∀ b, blk v = some b -> w.heap.size <= b /\ b < w'.heap.size) :
  Q0 T0 B (σ.new d (.one (.sref d 0 0 rows.length)) [.arr false size rows]) (a.put (some d) v) w' /\ Yr B w w' := by
 have uQ := St.JH hf
 refine ⟨⟨X, fun t j => if t = d then Hd.of v else h t j, ?_⟩, Yr.Vh hg r.hB⟩
 have tC : (σ.new d (.one (.sref d 0 0 rows.length)) [.arr false size rows]).ob d 0 = .arr false size rows := by rw [St.Qj]; simp [uQ, YU]
 obtain ⟨e, xs, uK, hz, uJ⟩ := ho
 refine r.new hf hg (fun _ hb => hb) (fun _ hb => .inl hb) _ _ [.arr false size rows] (fun _ => Hd.of v) ?_ (fun j => ?_) (fun j b _ hb => hb) (fun j b _ uP => ?_) (fun j j' b uH ux _ _ => ?_)
 ·refine ⟨QJ uK, fun q' ug uT uc => ?_, fun ug uT uc => by rw [tC] at uc; cases uc⟩
  rw [tC] at uc; cases uc
  simp only [if_true]
  exact xy uK
 ·cases j with
  | zero => exact ⟨e, xs, uK, hz, uJ⟩
  | succ j => simp [YU, Qs]
 ·have := hb b uP
  refine ⟨this.1, fun pH => ?_, this.2⟩
  have := (r.hX _ pH).2; omega
 ·have : ∀ j, YU [Ob.arr false size rows] j ≠ .none -> j = 0 := by
   intro j hj
   cases j with
   | zero => rfl
   | succ j => simp [YU] at hj
  rw [this j uH, this j' ux]
theorem Rel.BL (r : Rel T0 B σ a w X h) {d : Nat} (hf : σ.fresh d = true) (hg : w.grownBy w' none) (v : Value) {e : TypeId} {size : Nat} {rows : List (List D)} {xs : List Value}
  (uK : w'.ownsRow 0 e size v rows.length xs) (hz : ∀ r ∈ rows, r.length = size) (uJ : Qt w' xs rows.flatten (fun _ => False)) (hb : ∀ b, blk v = some b -> w.heap.size <= b /\ b < w'.heap.size) :
  Q0 T0 B (σ.new d (.one (.sref d 0 0 rows.length)) [.arr true size rows]) (a.put (some d) v) w' /\ Yr B w w' := by
 have uQ := St.JH hf
 refine ⟨⟨X, fun t j => if t = d then ⟨v, fun k => (xs[k]?).getD undef, fun b => blk v = some b⟩ else h t j, ?_⟩, Yr.Vh hg r.hB⟩
 have tC : (σ.new d (.one (.sref d 0 0 rows.length)) [.arr true size rows]).ob d 0 = .arr true size rows := by rw [St.Qj]; simp [uQ, YU]
 refine r.new hf hg (fun _ hb => hb) (fun _ hb => .inl hb) _ _ [.arr true size rows] (fun _ => ⟨v, fun k => (xs[k]?).getD undef, fun b => blk v = some b⟩) ?_ (fun j => ?_) (fun j b _ hb => hb) (fun j b _ uP => ?_) (fun j j' b uH ux _ _ => ?_)
 ·refine ⟨QJ uK, fun q' ug uT uc => ?_, fun ug uT uc => by rw [tC] at uc; cases uc⟩
  rw [tC] at uc; cases uc
  simp only [if_true]
  exact xy uK
 ·cases j with
  | zero =>
   obtain ⟨hl, Sk, h1, h2, h3⟩ := uJ
   exact ⟨e, xs, uK, hz, ⟨hl, Sk, h1, fun k b hk => (h2 k b hk).elim, h3⟩, fun k x d hx _ _ => by simp [hx]⟩
  | succ j => simp [YU, Qs]
 ·have := hb b uP
  refine ⟨this.1, fun pH => ?_, this.2⟩
  have := (r.hX _ pH).2; omega
 ·have : ∀ j, YU [Ob.arr true size rows] j ≠ .none -> j = 0 := by
   intro j hj
   cases j with
   | zero => rfl
   | succ j => simp [YU] at hj
  rw [this j uH, this j' ux]
theorem Gp (r : Rel T0 B σ a w X h) {o : Oper} {T : TypeId} {d : Nat} {row : List At} (uE : o.op = .alloc T) (hd : o.dst = some d) (hf : σ.fresh d = true) (hz : Xn P T = true) (sn : jO P 12 T = some row) (um : YN d row = false)
  {K : Act -> World -> Prop} {Q : Exit -> Act -> World -> Prop} (hK : ∀ a' w', Q0 T0 B (σ.new d (.one (.bptr d 0)) [.box row]) a' w' -> Yr B w w' -> K a' w') : o.wp P a w K Q := by
 obtain ⟨i, z, hi, fL, tM, uJ⟩ := M1 hz sn
 have uY : (execOp a.eval o).run P w = .ok (.value (.pointer (some ⟨w.heap.size, 0, none⟩))) (w.alloc (.cells z.cells T)) := by
  simp [execOp, uE, Instr.alloc, zeroValue, typeInfo, hi, fL, newVar, newRow]
 unfold Oper.wp
 rw [uY, Oper.upon_value, hd]
 have := r.Co hf z.cells T row um (uJ _ _ _ _)
 exact hK _ _ this.1 this.2
theorem Ds (r : Rel T0 B σ a w X h) {o : Oper} {T : TypeId} {x : Operand} {d : Nat} (uE : o.op = .box T x) (hd : o.dst = some d) (hf : σ.fresh d = true) (hg : gOf (look P σ T x) = true) (tb : (unc (look P σ T x)).flat = true) (um : YN d (unc (look P σ T x)).cells = false)
  {K : Act -> World -> Prop} {Q : Exit -> Act -> World -> Prop} (hK : ∀ a' w', Q0 T0 B (σ.new d (.one (.bptr d 0)) [.box (unc (look P σ T x)).cells]) a' w' -> Yr B w w' -> K a' w') : o.wp P a w K Q := by
 have uJ := jV tb (r.arg (P := P) T x rfl hg)
 have uY : (execOp a.eval o).run P w = .ok (.value (.pointer (some ⟨w.heap.size, 0, none⟩))) (w.alloc (.cells (a.eval x).cells T)) := by
  simp [execOp, uE, Instr.box, newVar, newRow]
 unfold Oper.wp
 rw [uY, Oper.upon_value, hd]
 have := r.Co hf (a.eval x).cells T _ um uJ
 exact hK _ _ this.1 this.2
end
end Go.Vm
