/- An abstract machine ON the model of Go, by value, and that it is sound: part Va. No condition. -/
import Derived.WalkKit
import Derived.Below
set_option linter.unusedVariables false
set_option linter.unusedSimpArgs false
namespace Go.Vm
inductive D where
 | int (k : IntKind) (n : Int)
 | bool (b : Bool)
 | str (s : ByteArray)
 | sl (size : Nat) (rows : List (List D))
 | unk
 deriving Inhabited
def D.scalar : D -> Bool
 | .sl _ _ => false
 | _ => true
abbrev CS := Nat -> Nat -> Prop
inductive Rd (T : CS) (w : World) : Value -> D -> Prop
 | int (k : IntKind) (n : Int) : Rd T w (.int k n) (.int k n)
 | bool (b : Bool) : Rd T w (.bool b) (.bool b)
 | str (s : ByteArray) : Rd T w (.string s) (.str s)
 | unk (v : Value) (h : v.oneCell' = true) : Rd T w v .unk
 | nil (size : Nat) : Rd T w (.slice none 0 0) (.sl size [])
 | sl (a : Addr) (len cap size : Nat) (rows : List (List D)) (g : Nat -> Value)
   (hl : rows.length = len) (hc : len <= cap) (hm : cap <= maxLen) (hz : ∀ r ∈ rows, r.length = size) (hs : rows.flatten ≠ [] -> a.spot = none)
   (hg : ∀ k d, rows.flatten[k]? = some d -> w.cell? ⟨a.block, a.off + k, none⟩ = some (g k) /\ T a.block (a.off + k))
   (hr : ∀ k d, rows.flatten[k]? = some d -> Rd T w (g k) d) : Rd T w (.slice (some a) len cap) (.sl size rows)
theorem Rd.mono {T T' : CS} {w w' : World} (hT : ∀ b k v, T b k -> w.cell? ⟨b, k, none⟩ = some v -> w'.cell? ⟨b, k, none⟩ = some v /\ T' b k)
  {v : Value} {d : D} (h : Rd T w v d) : Rd T' w' v d := by
 induction h with
 | int k n => exact .int k n
 | bool b => exact .bool b
 | str s => exact .str s
 | unk v h => exact .unk v h
 | nil s => exact .nil s
 | sl a len cap size rows g hl hc hm hz hs hg hr ih =>
  exact .sl a len cap size rows g hl hc hm hz hs (fun k d hk => hT _ _ _ (hg k d hk).2 (hg k d hk).1) (fun k d hk => ih k d hk)
theorem Rd.XG {T : CS} {w : World} {v : Value} {d : D} (h : Rd T w v d) : v.oneCell' = true := by
 cases h <;> first | rfl | assumption
inductive At where
 | any
 | d (x : D)
 | nil (size : Nat)
 | sref (t j lo len : Nat)
 | ptr (t j i c : Nat)
 | bptr (t c : Nat)
 | fn (f t : Nat)
 | rptr (r : List D) (c : Nat)
 | tref (t j i c : Nat) (o : Option Nat)
 deriving Inhabited
inductive V where
 | any
 | one (x : At)
 | agg (xs : List At)
 | tup (xs : List V)
 | cnd (g : Bool) (x : V)
 | fix (v : Value) (x : V)
 deriving Inhabited
inductive Ob where
 | none
 | box (cells : List At)
 | arr (q : Bool) (size : Nat) (rows : List (List D))
 | lit (size : Nat) (rows : List (List At))
 deriving Inhabited
structure Hd where
 v : Value
 n : Nat -> Value
 u : Nat -> Prop
abbrev Ent := V × List Ob
abbrev St := List Ent
def St.get (σ : St) (t : Nat) : V := match σ[t]? with | some e => e.1 | none => .any
def YB (os : List Ob) (j : Nat) : Ob := match os[j]? with | some o => o | none => .none
def St.ob (σ : St) (t j : Nat) : Ob := match σ[t]? with | some e => YB e.2 j | none => .none
def St.put : St -> Nat -> V -> St
 | [], _, _ => []
 | e :: σ, 0, v => (v, e.2) :: σ
 | e :: σ, t + 1, v => e :: St.put σ t v
def St.Zh : St -> Nat -> Nat -> Ob -> St
 | [], _, _, _ => []
 | e :: σ, 0, j, o => (e.1, e.2.set j o) :: σ
 | e :: σ, t + 1, j, o => e :: St.Zh σ t j o
def St.new : St -> Nat -> V -> List Ob -> St
 | [], _, _, _ => []
 | _ :: σ, 0, v, os => (v, os) :: σ
 | e :: σ, t + 1, v, os => e :: St.new σ t v os
theorem St.XZ (σ : St) (t : Nat) (v : V) : (σ.put t v).length = σ.length := by
 induction σ generalizing t with
 | nil => rfl
 | cons e σ ih => cases t <;> simp [St.put, ih]
theorem St.Yr (σ : St) (t j : Nat) (o : Ob) : (σ.Zh t j o).length = σ.length := by
 induction σ generalizing t with
 | nil => rfl
 | cons e σ ih => cases t <;> simp [St.Zh, ih]
theorem St.yy (σ : St) (t : Nat) (v : V) (os : List Ob) : (σ.new t v os).length = σ.length := by
 induction σ generalizing t with
 | nil => rfl
 | cons e σ ih => cases t <;> simp [St.new, ih]
theorem St.Qp (σ : St) (t : Nat) (v : V) (u : Nat) : (σ.put t v).get u = if u = t /\ t < σ.length then v else σ.get u := by
 induction σ generalizing t u with
 | nil => simp [St.put, St.get]
 | cons e σ ih =>
  cases t with
  | zero => cases u <;> simp [St.put, St.get]
  | succ t => cases u with
   | zero => simp [St.put, St.get]
   | succ u => have := ih t u; simp only [St.get, St.put] at this ⊢; simpa using this
theorem St.XY (σ : St) (t : Nat) (v : V) : (σ.put t v).ob = σ.ob := by
 funext u j
 induction σ generalizing t u with
 | nil => simp [St.put, St.ob]
 | cons e σ ih =>
  cases t with
  | zero => cases u <;> simp [St.put, St.ob]
  | succ t => cases u with
   | zero => simp [St.put, St.ob]
   | succ u => have := ih t u; simp only [St.ob, St.put] at this ⊢; simpa using this
theorem St.XT (σ : St) (t j : Nat) (o : Ob) (u : Nat) : (σ.Zh t j o).get u = σ.get u := by
 induction σ generalizing t u with
 | nil => simp [St.Zh, St.get]
 | cons e σ ih =>
  cases t with
  | zero => cases u <;> simp [St.Zh, St.get]
  | succ t => cases u with
   | zero => simp [St.Zh, St.get]
   | succ u => have := ih t u; simp only [St.get, St.Zh] at this ⊢; simpa using this
theorem IJ (os : List Ob) (j : Nat) (o : Ob) (i : Nat) : YB (os.set j o) i = if i = j /\ j < os.length then o else YB os i := by
 unfold YB
 rw [List.getElem?_set]
 by_cases h : j = i
 ·subst h
  by_cases h2 : j < os.length
  ·simp [h2]
  ·simp [h2]
 ·simp [h, Ne.symm h]
theorem St.Xf (σ : St) (t j : Nat) (o : Ob) (u i : Nat) (hl : σ.ob t j ≠ .none) : (σ.Zh t j o).ob u i = if u = t /\ i = j then o else σ.ob u i := by
 induction σ generalizing t u with
 | nil => simp [St.ob] at hl
 | cons e σ ih =>
  cases t with
  | zero =>
   have hj : j < e.2.length := by
    simp only [St.ob, List.getElem?_cons_zero, YB] at hl
    rcases Nat.lt_or_ge j e.2.length with h | h
    ·exact h
    ·simp [List.getElem?_eq_none h] at hl
   cases u with
   | zero => simp [St.Zh, St.ob, IJ, hj]
   | succ u => simp [St.Zh, St.ob]
  | succ t => cases u with
   | zero => simp [St.Zh, St.ob]
   | succ u =>
    have := ih t u (by simpa [St.ob] using hl)
    simp only [St.ob, St.Zh] at this ⊢; simpa using this
theorem St.xp (σ : St) (t : Nat) (v : V) (os : List Ob) (u : Nat) : (σ.new t v os).get u = if u = t /\ t < σ.length then v else σ.get u := by
 induction σ generalizing t u with
 | nil => simp [St.new, St.get]
 | cons e σ ih =>
  cases t with
  | zero => cases u <;> simp [St.new, St.get]
  | succ t => cases u with
   | zero => simp [St.new, St.get]
   | succ u => have := ih t u; simp only [St.get, St.new] at this ⊢; simpa using this
theorem St.X7 (σ : St) (t : Nat) (v : V) (os : List Ob) (u j : Nat) : (σ.new t v os).ob u j = if u = t /\ t < σ.length then YB os j else σ.ob u j := by
 induction σ generalizing t u with
 | nil => simp [St.new, St.ob]
 | cons e σ ih =>
  cases t with
  | zero => cases u <;> simp [St.new, St.ob]
  | succ t => cases u with
   | zero => simp [St.new, St.ob]
   | succ u => have := ih t u; simp only [St.ob, St.new] at this ⊢; simpa using this
def ID (h : Value) (len : Nat) : Value := match h with | .slice b _ c => .slice b len c | v => v
def Gk (h : Value) (size n lo len : Nat) (v : Value) : Prop :=
 lo + len <= n /\ (len = n -> lo = 0 -> v = h) /\ (lo = 0 -> v = ID h len) /\ ∃ base cap, v = .slice base len cap /\ len <= cap /\ cap <= maxLen /\ (base = none -> cap = 0) /\ (0 < len -> ∃ b tQ, h = .slice (some ⟨b, 0, none⟩) n tQ /\ base = some ⟨b, lo * size, none⟩)
def Dn : Option Nat -> Value -> Value -> Prop
 | none, x, v => v = x
 | some k, x, v => ∃ b n cap, x = .slice (some ⟨b, 0, none⟩) n cap /\ v = .pointer (some ⟨b, k, none⟩)
def Zr (T : CS) (h : Nat -> Nat -> Hd) (ob : Nat -> Nat -> Ob) (w : World) : At -> Value -> Prop
 | .any, v => v.oneCell' = true
 | .d x, v => Rd T w v x
 | .nil _, v => v = .slice none 0 0
 | .sref t j lo len, v => v.oneCell' = true /\ (∀ q size rows, ob t j = .arr q size rows -> Gk (h t j).v size rows.length lo len v) /\ (∀ size rows, ob t j = .lit size rows -> Gk (h t j).v size rows.length lo len v)
 | .ptr t j i c, v => v.oneCell' = true /\ (∀ q size rows, ob t j = .arr q size rows -> ∃ b n cap, (h t j).v = .slice (some ⟨b, 0, none⟩) n cap /\ v = .pointer (some ⟨b, i * size + c, none⟩))
 | .bptr t c, v => v.oneCell' = true /\ ∀ cells, ob t 0 = .box cells -> ∃ b, (h t 0).v = .pointer (some ⟨b, 0, none⟩) /\ v = .pointer (some ⟨b, c, none⟩)
 | .fn f t, v => v.oneCell' = true /\ ∀ cells, ob t 0 = .box cells -> ∃ b, (h t 0).v = .pointer (some ⟨b, 0, none⟩) /\ v = .func (.func f) #[] #[.pointer (some ⟨b, 0, none⟩)]
 | .rptr r c, v => ∃ b off, ∃ g : Nat -> Value, v = .pointer (some ⟨b, off + c, none⟩) /\ ∀ k d, r[k]? = some d -> w.cell? ⟨b, off + k, none⟩ = some (g k) /\ T b (off + k) /\ Rd T w (g k) d
 | .tref t j i c o, v => v.oneCell' = true /\ ∀ size rows, ob t j = .arr true size rows -> Dn o ((h t j).n (i * size + c)) v
theorem Zr.XG {T : CS} {h : Nat -> Nat -> Hd} {ob : Nat -> Nat -> Ob} {w : World} {x : At} {v : Value} (r : Zr T h ob w x v) : v.oneCell' = true := by
 cases x with
 | any => exact r
 | d x => exact Rd.XG r
 | nil s => cases r; rfl
 | sref => exact r.1
 | ptr => exact r.1
 | bptr => exact r.1
 | fn => exact r.1
 | tref => exact r.1
 | rptr r' c => obtain ⟨b, off, g, rfl, _⟩ := r; rfl
inductive Zg {α β : Type} (R : α -> β -> Prop) : List α -> List β -> Prop
 | nil : Zg R [] []
 | cons {a b l m} : R a b -> Zg R l m -> Zg R (a :: l) (b :: m)
theorem Zg.imp {α β : Type} {R S : α -> β -> Prop} (h : ∀ a b, R a b -> S a b) {l : List α} {m : List β} (x : Zg R l m) : Zg S l m := by
 induction x with
 | nil => exact .nil
 | cons r _ ih => exact .cons (h _ _ r) ih
theorem Zg.length {α β : Type} {R : α -> β -> Prop} {l : List α} {m : List β} (x : Zg R l m) : l.length = m.length := by
 induction x with
 | nil => rfl
 | cons r _ ih => simp [ih]
theorem Zg.get {α β : Type} {R : α -> β -> Prop} {l : List α} {m : List β} (x : Zg R l m) : ∀ (i : Nat) (a : α), l[i]? = some a -> ∃ b, m[i]? = some b /\ R a b := by
 induction x with
 | nil => intro i a h; simp at h
 | cons r _ ih =>
  intro i a h
  cases i with
  | zero => simp at h; subst h; exact ⟨_, by simp, r⟩
  | succ i => simpa using ih i a (by simpa using h)
theorem Zg.get' {α β : Type} {R : α -> β -> Prop} {l : List α} {m : List β} (x : Zg R l m) : ∀ (i : Nat) (b : β), m[i]? = some b -> ∃ a, l[i]? = some a /\ R a b := by
 induction x with
 | nil => intro i a h; simp at h
 | cons r _ ih =>
  intro i a h
  cases i with
  | zero => simp at h; subst h; exact ⟨_, by simp, r⟩
  | succ i => simpa using ih i a (by simpa using h)
theorem Zg.J2 {α β : Type} {R : α -> β -> Prop} {l : List α} {m : List β} (hl : l.length = m.length) (h : ∀ (i : Nat) (a : α) (b : β), l[i]? = some a -> m[i]? = some b -> R a b) : Zg R l m := by
 induction l generalizing m with
 | nil => cases m with
  | nil => exact .nil
  | cons b m => simp at hl
 | cons a l ih => cases m with
  | nil => simp at hl
  | cons b m => exact .cons (h 0 a b (by simp) (by simp)) (ih (by simpa using hl) (fun i a b ha hb => h (i + 1) a b (by simpa using ha) (by simpa using hb)))
theorem Zg.append {α β : Type} {R : α -> β -> Prop} {l l' : List α} {m m' : List β} (x : Zg R l m) (y : Zg R l' m') : Zg R (l ++ l') (m ++ m') := by
 induction x with
 | nil => exact y
 | cons r _ ih => exact .cons r ih
theorem Zg.take {α β : Type} {R : α -> β -> Prop} {l : List α} {m : List β} (x : Zg R l m) (n : Nat) : Zg R (l.take n) (m.take n) := by
 induction x generalizing n with
 | nil => simpa using Zg.nil
 | cons r _ ih => cases n with
  | zero => simpa using Zg.nil
  | succ n => simpa using Zg.cons r (ih n)
theorem Zg.drop {α β : Type} {R : α -> β -> Prop} {l : List α} {m : List β} (x : Zg R l m) (n : Nat) : Zg R (l.drop n) (m.drop n) := by
 induction x generalizing n with
 | nil => simpa using Zg.nil
 | cons r x ih => cases n with
  | zero => simpa using Zg.cons r x
  | succ n => simpa using ih n
theorem Zg.set {α β : Type} {R : α -> β -> Prop} {l : List α} {m : List β} (x : Zg R l m) (i : Nat) {a : α} {b : β} (r : R a b) : Zg R (l.set i a) (m.set i b) := by
 induction x generalizing i with
 | nil => simpa using Zg.nil
 | cons r' x ih => cases i with
  | zero => simpa using Zg.cons r x
  | succ i => simpa using Zg.cons r' (ih i)
theorem Zg.mem {α β : Type} {R : α -> β -> Prop} {l : List α} {m : List β} (x : Zg R l m) {b : β} (h : b ∈ m) : ∃ a, a ∈ l /\ R a b := by
 obtain ⟨i, hi⟩ := List.mem_iff_getElem?.1 h
 obtain ⟨a, ha, r⟩ := x.get' i b hi
 exact ⟨a, List.mem_of_getElem? ha, r⟩
def QV (T : CS) (h : Nat -> Nat -> Hd) (ob : Nat -> Nat -> Ob) (w : World) : V -> Value -> Prop
 | .any, _ => True
 | .one x, v => Zr T h ob w x v
 | .agg xs, v => ∃ cs : Array Value, v = .agg cs /\ Zg (Zr T h ob w) xs cs.toList
 | .tup _, _ => False
 | .cnd _ _, _ => False
 | .fix _ _, _ => False
def XW (T : CS) (h : Nat -> Nat -> Hd) (ob : Nat -> Nat -> Ob) (w : World) : V -> Value -> Prop
 | .tup xs, v => ∃ vs : Array Value, v = .tuple vs /\ Zg (QV T h ob w) xs vs.toList
 | .cnd g x, v => (g = true -> QV T h ob w x v) /\ (g = false -> v = undef)
 | .any, _ => True
 | .one x, v => Zr T h ob w x v
 | .agg xs, v => QV T h ob w (.agg xs) v
 | .fix u x, v => v = u /\ QV T h ob w x v
theorem QV.up {T : CS} {h : Nat -> Nat -> Hd} {ob : Nat -> Nat -> Ob} {w : World} {x : V} {v : Value} (r : QV T h ob w x v) : XW T h ob w x v := by
 cases x <;> first | exact r | exact r.elim
def blk : Value -> Option Nat
 | .slice (some a) _ _ => some a.block
 | .pointer (some a) => some a.block
 | _ => none
def Hd.of (v : Value) : Hd := ⟨v, fun _ => undef, fun b => blk v = some b⟩
inductive Own (w : World) : Value -> D -> (Nat -> Prop) -> Prop
 | int (k : IntKind) (n : Int) (S : Nat -> Prop) : Own w (.int k n) (.int k n) S
 | bool (b : Bool) (S : Nat -> Prop) : Own w (.bool b) (.bool b) S
 | str (s : ByteArray) (S : Nat -> Prop) : Own w (.string s) (.str s) S
 | unk (v : Value) (h : v.oneCell' = true) (S : Nat -> Prop) : Own w v .unk S
 | sl (v : Value) (size : Nat) (rows : List (List D)) (S : Nat -> Prop) (e : TypeId) (xs : List Value) (Sk : Nat -> Nat -> Prop) (ho : w.ownsRow 0 e size v rows.length xs) (hz : ∀ r ∈ rows, r.length = size)
   (hb : ∀ b, blk v = some b -> S b) (hl : xs.length = rows.flatten.length) (hk : ∀ k x d, xs[k]? = some x -> rows.flatten[k]? = some d -> Own w x d (Sk k))
   (hs : ∀ k b, Sk k b -> S b /\ blk v ≠ some b) (hd : ∀ i j b, Sk i b -> Sk j b -> i = j) : Own w v (.sl size rows) S
def QU (w : World) (xs : List Value) (ds : List D) (S : Nat -> Prop) : Prop :=
 xs.length = ds.length /\ ∃ Sk : Nat -> Nat -> Prop, (∀ k x d, xs[k]? = some x -> ds[k]? = some d -> Own w x d (Sk k)) /\ (∀ k b, Sk k b -> S b) /\ (∀ i j b, Sk i b -> Sk j b -> i = j)
def X6 (T : CS) (h : Nat -> Nat -> Hd) (ob : Nat -> Nat -> Ob) (w : World) (hd : Hd) : Ob -> Prop
 | .none => True
 | .box cells => ∃ b cs e, hd.v = .pointer (some ⟨b, 0, none⟩) /\ w.heap[b]? = some (.cells cs e (0, 0)) /\ Zg (Zr T h ob w) cells cs.toList
 | .arr false size rows => ∃ e xs, w.ownsRow 0 e size hd.v rows.length xs /\ (∀ r ∈ rows, r.length = size) /\ Zg (Rd T w) xs rows.flatten
 | .arr true size rows => ∃ e xs, w.ownsRow 0 e size hd.v rows.length xs /\ (∀ r ∈ rows, r.length = size) /\ QU w xs rows.flatten (fun b => hd.u b /\ blk hd.v ≠ some b) /\ (∀ k x d, xs[k]? = some x -> rows.flatten[k]? = some d -> d.scalar = false -> hd.n k = x)
 | .lit size rows => ∃ e xs, w.ownsRow 0 e size hd.v rows.length xs /\ (∀ r ∈ rows, r.length = size) /\ Zg (Zr T h ob w) rows.flatten xs
def Tof (T0 : CS) (X : Nat -> Prop) : CS := fun b k => T0 b k \/ X b
structure Y0 (B : Nat -> Prop) (w w' : World) : Prop where
 os : w'.os = w.os
 tape : w'.tape = w.tape
 output : w'.output = w.output
 size : w.heap.size <= w'.heap.size
 block : ∀ k, B k -> w'.heap[k]? = w.heap[k]?
theorem Y0.refl (B : Nat -> Prop) (w : World) : Y0 B w w := ⟨rfl, rfl, rfl, Nat.le_refl _, fun _ _ => rfl⟩
theorem Y0.trans {B : Nat -> Prop} {a b c : World} (h : Y0 B a b) (k : Y0 B b c) : Y0 B a c :=
 ⟨k.os.trans h.os, k.tape.trans h.tape, k.output.trans h.output, Nat.le_trans h.size k.size, fun i hi => (k.block i hi).trans (h.block i hi)⟩
theorem Y0.U8 {B : Nat -> Prop} {w w' : World} (h : RowKit.Below w.heap.size w w') (hB : ∀ b, B b -> b < w.heap.size) : Y0 B w w' := ⟨h.os, h.tape, h.output, h.size, fun k hk => h.block k (hB k hk)⟩
structure Rel (T0 : CS) (B : Nat -> Prop) (σ : St) (a : Act) (w : World) (X : Nat -> Prop) (h : Nat -> Nat -> Hd) : Prop where
 size : a.tmps.size = σ.length
 defers : a.defers = []
 hB : ∀ b, B b -> b < w.heap.size
 hX : ∀ b, X b -> ¬ B b /\ b < w.heap.size
 hT : ∀ b k, T0 b k -> B b
 slot : ∀ t, t < σ.length -> XW (Tof T0 X) h σ.ob w (σ.get t) (a.tmps.getD t undef)
 obj : ∀ t j, X6 (Tof T0 X) h σ.ob w (h t j) (σ.ob t j)
 ub : ∀ t j b, σ.ob t j ≠ .none -> blk (h t j).v = some b -> (h t j).u b
 own : ∀ t j b, σ.ob t j ≠ .none -> (h t j).u b -> ¬ B b /\ ¬ X b /\ b < w.heap.size
 inj : ∀ t j t' j' b, σ.ob t j ≠ .none -> σ.ob t' j' ≠ .none -> (h t j).u b -> (h t' j').u b -> t = t' /\ j = j'
def QK (T0 : CS) (B : Nat -> Prop) (σ : St) (a : Act) (w : World) : Prop := ∃ X h, Rel T0 B σ a w X h
theorem Rel.DU {T0 : CS} {B : Nat -> Prop} {σ : St} {a : Act} {w : World} {X : Nat -> Prop} {h : Nat -> Nat -> Hd} (r : Rel T0 B σ a w X h) {t j b : Nat} (ho : σ.ob t j ≠ .none) (hb : blk (h t j).v = some b) : ¬ B b /\ ¬ X b /\ b < w.heap.size :=
 r.own t j b ho (r.ub t j b ho hb)
section
variable {T T' : CS} {h h' : Nat -> Nat -> Hd} {ob vn : Nat -> Nat -> Ob} {w w' : World}
theorem Zr.mono (hT : ∀ b k v, T b k -> w.cell? ⟨b, k, none⟩ = some v -> w'.cell? ⟨b, k, none⟩ = some v /\ T' b k) {x : At} {v : Value}
  (r : Zr T h ob w x v) : Zr T' h ob w' x v := by
 cases x with
 | any => exact r
 | d x => exact Rd.mono hT r
 | nil s => exact r
 | sref t j lo len => exact r
 | ptr t j i c => exact r
 | bptr t c => exact r
 | fn f t => exact r
 | tref t j i c o => exact r
 | rptr rr c =>
  obtain ⟨b, off, g, e, hk⟩ := r
  exact ⟨b, off, g, e, fun k d hd => ⟨(hT _ _ _ (hk k d hd).2.1 (hk k d hd).1).1, (hT _ _ _ (hk k d hd).2.1 (hk k d hd).1).2, Rd.mono hT (hk k d hd).2.2⟩⟩
theorem QV.mono (hT : ∀ b k v, T b k -> w.cell? ⟨b, k, none⟩ = some v -> w'.cell? ⟨b, k, none⟩ = some v /\ T' b k) {x : V} {v : Value}
  (r : QV T h ob w x v) : QV T' h ob w' x v := by
 cases x with
 | any => exact r
 | one x => exact Zr.mono hT r
 | agg xs => obtain ⟨cs, e, r⟩ := r; exact ⟨cs, e, r.imp fun _ _ => Zr.mono hT⟩
 | tup xs => exact r.elim
 | cnd g x => exact r.elim
 | fix u x => exact r.elim
theorem XW.mono (hT : ∀ b k v, T b k -> w.cell? ⟨b, k, none⟩ = some v -> w'.cell? ⟨b, k, none⟩ = some v /\ T' b k) {x : V} {v : Value}
  (r : XW T h ob w x v) : XW T' h ob w' x v := by
 cases x with
 | any => exact r
 | one x => exact Zr.mono hT r
 | agg xs => exact QV.mono (x := .agg xs) hT r
 | tup xs => obtain ⟨vs, e, r⟩ := r; exact ⟨vs, e, r.imp fun _ _ => QV.mono hT⟩
 | cnd g x => exact ⟨fun hg => QV.mono hT (r.1 hg), r.2⟩
 | fix u x => exact ⟨r.1, QV.mono hT r.2⟩
end
end Go.Vm
namespace Go.Vm
def unc : V -> V
 | .cnd _ x => x
 | .fix _ x => x
 | x => x
def gOf : V -> Bool
 | .cnd g _ => g
 | _ => true
def ZD (P : Program) (t : TypeId) : TypeId :=
 match P.underlying t with
 | some (.slice e) => e
 | some (.array _ e) => e
 | _ => 0
def Ya (P : Program) (t : TypeId) : Bool :=
 match P.underlying t with
 | some (.slice e) => (P.info? e).isSome
 | _ => false
def P9 (P : Program) (t : TypeId) : Option Nat :=
 match P.underlying t with
 | some (.array n e) => if (P.info? e).isSome then some n else none
 | _ => none
def kO (P : Program) (t : TypeId) : Bool :=
 match P.underlying t with
 | some (.struct _) | some (.array _ _) => true
 | _ => false
def ym (P : Program) (t : TypeId) : Bool :=
 (P.underlying t).isSome && (P.info? t).isSome && (kO P t || P.cellsOf t == 1)
def XK (P : Program) (t : TypeId) (f : Nat) : Nat :=
 match P.underlying t with
 | some (.struct fs) => (match fs[f]? with | some fd => fd.offset | none => 0)
 | _ => 0
def Kb (P : Program) (t : TypeId) (f : Nat) : TypeId :=
 match P.underlying t with
 | some (.struct fs) => (match fs[f]? with | some fd => fd.type | none => 0)
 | _ => 0
def yK (P : Program) (t : TypeId) (f : Nat) : Bool :=
 match P.underlying t with
 | some (.struct fs) => (match fs[f]? with | some fd => (P.info? fd.type).isSome && decide (P.cellsOf fd.type ≠ 0) | none => false)
 | _ => false
def I8 (P : Program) (t : TypeId) : Option IntKind :=
 match P.underlying t with
 | some (.int k) => some k
 | _ => none
def j7 (P : Program) (t : TypeId) : Bool :=
 match P.underlying t with
 | some .string => true
 | _ => false
def S3 (P : Program) (t : TypeId) : Bool :=
 match P.underlying t with
 | some .bool => true
 | _ => false
def cst (P : Program) (ty : TypeId) : Value -> V
 | .int k n => .one (.d (.int k n))
 | .bool b => .one (.d (.bool b))
 | .string s => .one (.d (.str s))
 | .slice none 0 0 => .one (.nil (P.cellsOf (ZD P ty)))
 | _ => .any
def look (P : Program) (σ : St) (ty : TypeId) : Operand -> V
 | .tmp t => σ.get t
 | .const v => cst P ty v
 | _ => .any
section
variable {P : Program} {T0 : CS} {B : Nat -> Prop} {σ : St} {a : Act} {w : World} {X : Nat -> Prop} {h : Nat -> Nat -> Hd}
theorem Rel.get (r : Rel T0 B σ a w X h) (t : Nat) : XW (Tof T0 X) h σ.ob w (σ.get t) (a.tmps.getD t undef) := by
 rcases Nat.lt_or_ge t σ.length with hl | hl
 ·exact r.slot t hl
 ·simp [St.get, List.getElem?_eq_none hl, XW]
theorem Fw (T : CS) (h : Nat -> Nat -> Hd) (ob : Nat -> Nat -> Ob) (w : World) (ty : TypeId) (v : Value) : XW T h ob w (cst P ty v) v := by
 unfold cst
 split
 ·exact .int _ _
 ·exact .bool _
 ·exact .str _
 ·rfl
 ·trivial
theorem Rel.look (r : Rel T0 B σ a w X h) (ty : TypeId) (x : Operand) : XW (Tof T0 X) h σ.ob w (look P σ ty x) (a.eval x) := by
 cases x with
 | tmp t => exact r.get t
 | const v => exact Fw _ _ _ _ _ _
 | global g => trivial
 | func f => trivial
theorem XW.unc {T : CS} {h : Nat -> Nat -> Hd} {ob : Nat -> Nat -> Ob} {w : World} {x : V} {v : Value} (r : XW T h ob w x v) (hg : gOf x = true) : XW T h ob w (unc x) v := by
 cases x with
 | cnd g x => exact QV.up (r.1 hg)
 | fix u x => exact QV.up r.2
 | _ => exact r
theorem Rel.arg (r : Rel T0 B σ a w X h) (ty : TypeId) (x : Operand) {v : V} (he : Vm.unc (Vm.look P σ ty x) = v) (hg : gOf (Vm.look P σ ty x) = true) : XW (Tof T0 X) h σ.ob w v (a.eval x) := by
 subst he
 exact (r.look ty x).unc hg
theorem Rel.put (r : Rel T0 B σ a w X h) (d : Nat) (v : V) (val : Value) (hv : XW (Tof T0 X) h σ.ob w v val) : Rel T0 B (σ.put d v) (a.put (some d) val) w X h := by
 refine ⟨by simp [Act.put, r.size, St.XZ], r.defers, r.hB, r.hX, r.hT, fun t ht => ?_, fun t j => ?_, fun t j b => ?_, fun t j b => ?_, fun t j t' j' b => ?_⟩
 ·rw [St.XY, St.Qp]
  rw [St.XZ] at ht
  by_cases hd : t = d /\ d < σ.length
  ·obtain ⟨rfl, hl⟩ := hd
   simp only [hl, and_self, if_true]
   have : (a.tmps.setIfInBounds t val).getD t undef = val := by simp [r.size, hl]
   simp only [Act.put, this]; exact hv
  ·rw [if_neg hd]
   have wC : d ≠ t := fun e => hd ⟨e.symm, e ▸ ht⟩
   have : (a.tmps.setIfInBounds d val).getD t undef = a.tmps.getD t undef := by simp [Array.getElem?_setIfInBounds_ne wC]
   simp only [Act.put, this]; exact r.slot t ht
 ·rw [St.XY]; exact r.obj t j
 ·rw [St.XY]; exact r.ub t j b
 ·rw [St.XY]; exact r.own t j b
 ·rw [St.XY]; exact r.inj t j t' j' b
end
def ldV (P : Program) (T : TypeId) (xs : List At) : V := if kO P T then .agg xs else (match xs with | [x] => .one x | _ => .any)
def Ow (k : IntKind) (x y : Int) : Int := k.wrap (BitVec.ofInt k.bits x &&& BitVec.ofInt k.bits y).toNat
def iOr (k : IntKind) (x y : Int) : Int := k.wrap (BitVec.ofInt k.bits x ||| BitVec.ofInt k.bits y).toNat
def FV (k : IntKind) (x y : Int) : Int := k.wrap (BitVec.ofInt k.bits x ^^^ BitVec.ofInt k.bits y).toNat
def P5 (op : BinOp) (k : IntKind) (x y : Int) (v : V) : Prop :=
 match op with
 | .eql => v = .one (.d (.bool (x == y)))
 | .neq => v = .one (.d (.bool (x != y)))
 | .lss => v = .one (.d (.bool (decide (x < y))))
 | .leq => v = .one (.d (.bool (decide (x <= y))))
 | .gtr => v = .one (.d (.bool (decide (x > y))))
 | .geq => v = .one (.d (.bool (decide (x >= y))))
 | .add => v = .one (.d (.int k (k.wrap (x + y))))
 | .sub => v = .one (.d (.int k (k.wrap (x - y))))
 | .mul => v = .one (.d (.int k (k.wrap (x * y))))
 | .quo => y ≠ 0 /\ v = .one (.d (.int k (k.wrap (x.tdiv y))))
 | .rem => y ≠ 0 /\ v = .one (.d (.int k (x.tmod y)))
 | .and => v = .one (.d (.int k (Ow k x y)))
 | .or => v = .one (.d (.int k (iOr k x y)))
 | .xor => v = .one (.d (.int k (FV k x y)))
 | .shl => 0 <= y /\ v = .one (.d (.int k (k.wrap (x * 2 ^ (min y.toNat k.bits)))))
 | .shr => 0 <= y /\ v = .one (.d (.int k (x.fdiv (2 ^ (min y.toNat k.bits)))))
 | _ => False
def PQ (op : BinOp) (x y : ByteArray) (v : V) : Prop :=
 match op with
 | .add => ((x.size + y.size : Nat) : Int) <= 9223372036854775807 /\ v = .one (.d (.str (x ++ y)))
 | .eql => v = .one (.d (.bool (decide (x = y))))
 | .neq => v = .one (.d (.bool (!decide (x = y))))
 | _ => False
def Tl (op : BinOp) (x y : Bool) (v : V) : Prop :=
 match op with
 | .eql => v = .one (.d (.bool (x == y)))
 | .neq => v = .one (.d (.bool (!(x == y))))
 | _ => False
theorem Is {P : Program} {op : BinOp} {k : IntKind} {x y : Int} {v : V} {t : TypeId} {kk : IntKind} (hk : (op = .shl \/ op = .shr) \/ kk = k) (hb : P5 op k x y v) (w : World) :
  ∃ d, v = .one (.d d) /\ ∃ val, (binOp op t (.int k x) (.int kk y)).run P w = .ok val w /\ ∀ T w', Rd T w' val d := by
 cases op <;> simp only [P5] at hb
 case shl => obtain ⟨h0, rfl⟩ := hb; exact ⟨_, rfl, _, by simp [binOp, Op.shift, Int.not_lt.2 h0], fun _ _ => .int _ _⟩
 case shr => obtain ⟨h0, rfl⟩ := hb; exact ⟨_, rfl, _, by simp [binOp, Op.shift, Int.not_lt.2 h0], fun _ _ => .int _ _⟩
 all_goals (have hU : kk = k := by rcases hk with (hk | hk) | hk <;> first | exact hk | cases hk)
 all_goals subst hU
 case quo => obtain ⟨h0, rfl⟩ := hb; exact ⟨_, rfl, _, by simp [binOp, Op.intDiv, h0], fun _ _ => .int _ _⟩
 case rem => obtain ⟨h0, rfl⟩ := hb; exact ⟨_, rfl, _, by simp [binOp, Op.intDiv, h0], fun _ _ => .int _ _⟩
 case add => subst hb; exact ⟨_, rfl, _, by simp [binOp, Op.intArith], fun _ _ => .int _ _⟩
 case sub => subst hb; exact ⟨_, rfl, _, by simp [binOp, Op.intArith], fun _ _ => .int _ _⟩
 case mul => subst hb; exact ⟨_, rfl, _, by simp [binOp, Op.intArith], fun _ _ => .int _ _⟩
 case and => subst hb; exact ⟨_, rfl, _, by simp [binOp, Op.intBits, Ow], fun _ _ => .int _ _⟩
 case or => subst hb; exact ⟨_, rfl, _, by simp [binOp, Op.intBits, iOr], fun _ _ => .int _ _⟩
 case xor => subst hb; exact ⟨_, rfl, _, by simp [binOp, Op.intBits, FV], fun _ _ => .int _ _⟩
 all_goals (subst hb; exact ⟨_, rfl, .bool _, by simp only [binOp, Op.intCmp, ne_eq, not_true_eq_false, if_false]; rfl, fun _ _ => .bool _⟩)
theorem Io (x y : ByteArray) : (x.toList == y.toList) = decide (x = y) := by
 rw [ByteArray.toList_eq, ByteArray.toList_eq, Bool.eq_iff_iff]
 simp only [beq_iff_eq, decide_eq_true_eq]
 constructor
 ·intro hh; cases x; cases y; simp_all
 ·rintro rfl; rfl
theorem HB {P : Program} {op : BinOp} {x y : ByteArray} {v : V} {t : TypeId} (hb : PQ op x y v) (w : World) :
  ∃ d, v = .one (.d d) /\ ∃ val, (binOp op t (.string x) (.string y)).run P w = .ok val w /\ ∀ T w', Rd T w' val d := by
 cases op <;> simp only [PQ] at hb
 case add => obtain ⟨h0, rfl⟩ := hb; exact ⟨_, rfl, _, by simp only [binOp, Op.stringOp]; rw [if_neg (by simp [IntKind.max, IntKind.signed, IntKind.bits]; omega)]; rfl, fun _ _ => .str _⟩
 case eql => subst hb; exact ⟨_, rfl, .bool _, by simp only [binOp, Op.stringOp, Io]; rfl, fun _ _ => .bool _⟩
 case neq => subst hb; exact ⟨_, rfl, .bool _, by simp only [binOp, Op.stringOp, Io]; rfl, fun _ _ => .bool _⟩
theorem run_equalIn_bool {P : Program} {t : TypeId} (hu : P.underlying t = some .bool) (d : Nat) (x y : Bool) (w : World) : (Op.equalIn (d + 1) t (.bool x) (.bool y)).run P w = .ok (x == y) w := by
 simp [Op.equalIn, run_underlying hu]
theorem L0 {P : Program} {op : BinOp} {x y : Bool} {v : V} {t : TypeId} (ht : S3 P t = true) (hb : Tl op x y v) (w : World) :
  ∃ d, v = .one (.d d) /\ ∃ val, (binOp op t (.bool x) (.bool y)).run P w = .ok val w /\ ∀ T w', Rd T w' val d := by
 have hu : P.underlying t = some .bool := by
  unfold S3 at ht; split at ht <;> first | assumption | cases ht
 cases op <;> simp only [Tl] at hb
 case eql => subst hb; exact ⟨_, rfl, _, by simp only [binOp, Op.equal, Op.maxDepth, Sem.run_bind, run_equalIn_bool hu 9999, Result.andThen_ok, Sem.run_pure], fun _ _ => .bool _⟩
 case neq => subst hb; exact ⟨_, rfl, _, by simp only [binOp, Op.equal, Op.maxDepth, Sem.run_bind, run_equalIn_bool hu 9999, Result.andThen_ok, Sem.run_pure], fun _ _ => .bool _⟩
end Go.Vm
namespace Go.Vm
def qo (P : Program) (σ : St) (x : Operand) (k : IntKind) (n : Int) : Prop := gOf (look P σ 0 x) = true /\ unc (look P σ 0 x) = .one (.d (.int k n))
def bnd (P : Program) (σ : St) (vW : Nat) : Option Operand -> Nat -> Prop
 | none, n => n = vW
 | some x, n => ∃ k i, gOf (look P σ 0 x) = true /\ unc (look P σ 0 x) = .one (.d (.int k i)) /\ 0 <= i /\ n = i.toNat
def cut {α : Type} (xs : List α) (off n : Nat) : List α := (xs.drop off).take n
def xG (P : Program) : Nat -> TypeId -> Option (List At)
 | 0, _ => none
 | n + 1, t =>
  match P.underlying t with
  | some .bool => some [.d (.bool false)]
  | some (.int k) => some [.d (.int k 0)]
  | some .string => some [.d (.str ⟨#[]⟩)]
  | some (.slice e) => some [.nil (P.cellsOf e)]
  | some (.struct fs) => (fs.toList.mapM (fun f => xG P n f.type)).map List.flatten
  | some (.array m e) => (xG P n e).map (fun r => (List.replicate m r).flatten)
  | _ => none
def zAt : At -> Value -> Bool
 | .d (.bool b), .bool b' => b == b'
 | .d (.int k n), .int k' n' => k == k' && n == n'
 | .d (.str s), .string s' => s.data.toList == s'.data.toList
 | .nil _, .slice none 0 0 => true
 | _, _ => false
def H6 : List At -> List Value -> Bool
 | [], [] => true
 | x :: xs, v :: vs => zAt x v && H6 xs vs
 | _, _ => false
def XH (P : Program) (t : TypeId) : Bool :=
 match xG P 12 t, P.info? t with
 | some row, some i => (match i.zero with | some z => H6 row z.cells.toList && i.size == row.length | none => false)
 | _, _ => false
theorem EB {x : At} {v : Value} (hz : zAt x v = true) (T : CS) (h : Nat -> Nat -> Hd) (ob : Nat -> Nat -> Ob) (w : World) : Zr T h ob w x v := by
 unfold zAt at hz
 split at hz
 ·simp at hz; subst hz; exact .bool _
 ·simp at hz; obtain ⟨rfl, rfl⟩ := hz; exact .int _ _
 ·rename_i s s'
  simp at hz
  have : s = s' := by cases s; cases s'; simp_all
  subst this; exact .str _
 ·rfl
 ·cases hz
theorem FH {xs : List At} {vs : List Value} (hz : H6 xs vs = true) (T : CS) (h : Nat -> Nat -> Hd) (ob : Nat -> Nat -> Ob) (w : World) : Zg (Zr T h ob w) xs vs := by
 induction xs generalizing vs with
 | nil => cases vs with
  | nil => exact .nil
  | cons v vs => simp [H6] at hz
 | cons x xs ih => cases vs with
  | nil => simp [H6] at hz
  | cons v vs => simp [H6] at hz; exact .cons (EB hz.1 _ _ _ _) (ih hz.2)
theorem OM {P : Program} {t : TypeId} {row : List At} (hz : XH P t = true) (hr : xG P 12 t = some row) :
  ∃ i z, P.info? t = some i /\ i.zero = some z /\ i.size = row.length /\ (∀ T h ob w, Zg (Zr T h ob w) row z.cells.toList) := by
 unfold XH at hz
 rw [hr] at hz
 split at hz
 ·rename_i wF i vR hi
  cases vR
  split at hz
  ·rename_i z tP
   simp at hz
   exact ⟨i, z, hi, tP, hz.2, fun T h ob w => FH hz.1 T h ob w⟩
  ·cases hz
 ·cases hz
def V.cells : V -> List At
 | .one c => [c]
 | .agg xs => xs
 | _ => []
def V.flat : V -> Bool
 | .one _ => true
 | .agg _ => true
 | _ => false
def place {α : Type} (r : List α) (off : Nat) (xs : List α) : List α := r.take off ++ xs ++ r.drop (off + xs.length)
def K6 (P : Program) (T : TypeId) (i : Nat) : Nat := match P.underlying T with | some (.array _ e) => i * P.cellsOf e | _ => XK P T i
def bTy (P : Program) (T : TypeId) (i : Nat) : TypeId := match P.underlying T with | some (.array _ e) => e | _ => Kb P T i
def bOk (P : Program) (T : TypeId) (i : Nat) : Bool := match P.underlying T with
 | some (.array _ e) => (P.info? e).isSome
 | some (.struct fs) => fs.all (fun f => (P.info? f.type).isSome) && decide (i < fs.size)
 | _ => false
def kK (P : Program) (σ : St) (T : TypeId) : List (Nat × Operand) -> List At -> List At -> Prop
 | [], r, out => out = r
 | (i, x) :: ps, r, out => bOk P T i = true /\ gOf (look P σ (bTy P T i) x) = true /\ (unc (look P σ (bTy P T i) x)).flat = true /\
   (unc (look P σ (bTy P T i) x)).cells.length = P.cellsOf (bTy P T i) /\ K6 P T i + P.cellsOf (bTy P T i) <= r.length /\
   kK P σ T ps (place r (K6 P T i) (unc (look P σ (bTy P T i) x)).cells) out
def Mx (P : Program) (t : TypeId) : Bool := match P.underlying t with | some .bool => true | some (.int _) => true | some .string => true | _ => false
def WU (P : Program) : List Field -> Nat -> Bool
 | [], _ => true
 | f :: fs, i => decide (f.name ≠ "_") && f.offset == i && Mx P f.type && WU P fs (i + 1)
def Uo (P : Program) (t : TypeId) : Bool := match P.underlying t with
 | some (.struct fs) => !P.stoodInHeld t && !P.eqGuardType P.depth t && WU P fs.toList 0
 | _ => false
def Gq (P : Program) (t : TypeId) : At -> At -> Option Bool
 | .d (.int k a), .d (.int k' b) => if k = k' /\ (I8 P t).isSome then some (a == b) else none
 | .d (.bool a), .d (.bool b) => if S3 P t then some (a == b) else none
 | .d (.str a), .d (.str b) => if j7 P t then some (decide (a = b)) else none
 | _, _ => none
def zp (P : Program) : List Field -> List At -> List At -> Option Bool
 | [], _, _ => some true
 | f :: fs, x :: xs, y :: ys => (match Gq P f.type x y, zp P fs xs ys with | some p, some q => some (p && q) | _, _ => none)
 | _, _, _ => none
def IC (P : Program) (op : BinOp) (T : TypeId) (x y v : V) : Prop :=
 match x, y with
 | .one (.d (.int k m)), .one (.d (.int k' n)) => ((op = .shl \/ op = .shr) \/ k' = k) /\ P5 op k m n v
 | .one (.d (.str m)), .one (.d (.str n)) => PQ op m n v
 | .one (.d (.bool m)), .one (.d (.bool n)) => S3 P T = true /\ Tl op m n v
 | .agg xs, .agg ys => Uo P T = true /\ ∃ q, zp P (P.fieldsOf T).toList xs ys = some q /\ ((op = .eql /\ v = .one (.d (.bool q))) \/ (op = .neq /\ v = .one (.d (.bool (!q)))))
 | _, _ => False
def xd (t j i : Nat) : Nat -> List D -> List At
 | _, [] => []
 | c, x :: xs => (match x with | .sl _ _ => .tref t j i c none | x => .d x) :: xd t j i (c + 1) xs
def WX (q : Bool) (t j i c : Nat) (xs : List D) : List At := match q with | true => xd t j i c xs | false => xs.map .d
def Z1 (P : Program) (σ : St) (op : Op) (ty : TypeId) (v : V) : Prop :=
 match op with
 | .move x => v = look P σ ty x
 | .assign x => v = look P σ ty x
 | .pick c a b => ∃ bc p q, gOf (look P σ ty c) = true /\ unc (look P σ ty c) = .one (.d (.bool bc)) /\ (bc = true -> unc (look P σ ty a) = .one (.d (.bool p))) /\ (bc = false -> unc (look P σ ty b) = .one (.d (.bool q))) /\
   (bc = true -> gOf (look P σ ty a) = true) /\ (bc = false -> gOf (look P σ ty b) = true) /\ v = .one (.d (.bool (cond bc p q)))
 | .load T x => gOf (look P σ 0 x) = true /\ ym P T = true /\
   (match unc (look P σ 0 x) with
   | .one (.bptr t c) => ∃ cells, σ.ob t 0 = .box cells /\ c + P.cellsOf T <= cells.length /\ v = ldV P T (cut cells c (P.cellsOf T))
   | .one (.ptr t j i c) => ∃ q size rows, σ.ob t j = .arr q size rows /\ i < rows.length /\ c + P.cellsOf T <= size /\ v = ldV P T (WX q t j i c (cut (rows.getD i []) c (P.cellsOf T)))
   | .one (.rptr r c) => c + P.cellsOf T <= r.length /\ v = ldV P T ((cut r c (P.cellsOf T)).map .d)
   | .one (.tref t j i c (some k)) => ∃ size rows s, σ.ob t j = .arr true size rows /\ i < rows.length /\ (rows.getD i [])[c]? = some (.sl 1 s) /\ P.cellsOf T = 1 /\ k < s.length /\ (s.getD k []).all D.scalar = true /\ v = ldV P T ((s.getD k []).map .d)
   | _ => False)
 | .fieldAddr T x f => gOf (look P σ 0 x) = true /\ yK P T f = true /\
   (match unc (look P σ 0 x) with
   | .one (.bptr t c) => (∃ cells, σ.ob t 0 = .box cells) /\ v = .one (.bptr t (c + XK P T f))
   | .one (.ptr t j i c) => (∃ q size rows, σ.ob t j = .arr q size rows) /\ v = .one (.ptr t j i (c + XK P T f))
   | .one (.rptr r c) => v = .one (.rptr r (c + XK P T f))
   | .one (.tref t j i c (some k)) => (∃ size rows, σ.ob t j = .arr true size rows) /\ v = .one (.tref t j i c (some (k + XK P T f)))
   | _ => False)
 | .nilCheck x => gOf (look P σ 0 x) = true /\
   (match unc (look P σ 0 x) with
   | .one (.bptr t c) => (∃ cells, σ.ob t 0 = .box cells) /\ v = .one (.bptr t c)
   | _ => False)
 | .indexAddr T x ix => ∃ k i, qo P σ ix k i /\ 0 <= i /\ gOf (look P σ 0 x) = true /\
   (match unc (look P σ 0 x) with
   | .one (.d (.sl size rows)) => Ya P T = true /\ size = P.cellsOf (ZD P T) /\ 0 < size /\ i < (rows.length : Int) /\ v = .one (.rptr (rows.getD i.toNat []) 0)
   | .one (.sref t j lo len) => Ya P T = true /\ 0 < P.cellsOf (ZD P T) /\ (∃ q rows, σ.ob t j = .arr q (P.cellsOf (ZD P T)) rows) /\ i < (len : Int) /\ v = .one (.ptr t j (lo + i.toNat) 0)
   | .one (.bptr t c) => (∃ cells, σ.ob t 0 = .box cells) /\ (∃ n, P9 P T = some n /\ 1 < n /\ i < (n : Int)) /\ v = .one (.bptr t (c + i.toNat * P.cellsOf (ZD P T)))
   | .one (.tref t j m c none) => Ya P T = true /\ 0 < P.cellsOf (ZD P T) /\ (∃ size rows s, σ.ob t j = .arr true size rows /\ m < rows.length /\ (rows.getD m [])[c]? = some (.sl (P.cellsOf (ZD P T)) s) /\ i < (s.length : Int)) /\ v = .one (.tref t j m c (some (i.toNat * P.cellsOf (ZD P T))))
   | _ => False)
 | .index T x ix => ∃ k i, qo P σ ix k i /\ 0 <= i /\ gOf (look P σ 0 x) = true /\
   (match unc (look P σ 0 x) with
   | .one (.d (.str s)) => j7 P T = true /\ i < (s.size : Int) /\ v = .one (.d (.int .u8 (s.data.toList.getD i.toNat 0).toNat))
   | .agg xs => (∃ n, P9 P T = some n /\ i < (n : Int)) /\ ym P (ZD P T) = true /\ i.toNat * P.cellsOf (ZD P T) + P.cellsOf (ZD P T) <= xs.length /\ v = ldV P (ZD P T) (cut xs (i.toNat * P.cellsOf (ZD P T)) (P.cellsOf (ZD P T)))
   | _ => False)
 | .slice T x lo hi none => gOf (look P σ 0 x) = true /\
   (match unc (look P σ 0 x) with
   | .one (.d (.str s)) => j7 P T = true /\ ∃ l h, bnd P σ 0 lo l /\ bnd P σ s.size hi h /\ l <= h /\ h <= s.size /\ v = .one (.d (.str (s.extract l h)))
   | .one (.d (.sl size rows)) => Ya P T = true /\ size = P.cellsOf (ZD P T) /\ ∃ l h, bnd P σ 0 lo l /\ bnd P σ rows.length hi h /\ l <= h /\ h <= rows.length /\ v = .one (.d (.sl size (cut rows l (h - l))))
   | .one (.sref t j o len) => Ya P T = true /\ (∃ q rows, σ.ob t j = .arr q (P.cellsOf (ZD P T)) rows) /\ ∃ l h, bnd P σ 0 lo l /\ bnd P σ len hi h /\ l <= h /\ h <= len /\ v = .one (.sref t j (o + l) (h - l))
   | _ => False)
 | .binOp op T x y _ => gOf (look P σ T x) = true /\ gOf (look P σ T y) = true /\
   IC P op T (unc (look P σ T x)) (unc (look P σ T y)) v
 | .unOp op _ x => gOf (look P σ 0 x) = true /\
   (match op, unc (look P σ 0 x) with
   | .not, .one (.d (.bool b)) => v = .one (.d (.bool (!b)))
   | .neg, .one (.d (.int k n)) => v = .one (.d (.int k (k.wrap (-n))))
   | _, _ => False)
 | .convert S T x => gOf (look P σ 0 x) = true /\ (P.underlying S).isSome = true /\
   (match unc (look P σ 0 x) with
   | .one (.d (.int _ n)) => ∃ k, I8 P T = some k /\ v = .one (.d (.int k (k.wrap n)))
   | _ => False)
 | .extract x i => gOf (look P σ 0 x) = true /\
   (match unc (look P σ 0 x) with
   | .tup xs => xs[i]? = some v /\ v.flat = true
   | _ => False)
 | .field T x f => gOf (look P σ 0 x) = true /\ yK P T f = true /\ ym P (Kb P T f) = true /\
   (match unc (look P σ 0 x) with
   | .agg xs => XK P T f + P.cellsOf (Kb P T f) <= xs.length /\ v = ldV P (Kb P T f) (cut xs (XK P T f) (P.cellsOf (Kb P T f)))
   | _ => False)
 | .build T parts => XH P T = true /\ kO P T = true /\ ∃ z out, xG P 12 T = some z /\ kK P σ T parts.toList z out /\ v = .agg out
 | .call c =>
   (match c.callee, c.args.toList, c.argTypes.toList with
   | .builtin .len, [x], [t] => gOf (look P σ t x) = true /\
     (match unc (look P σ t x) with
     | .one (.d (.str s)) => j7 P t = true /\ v = .one (.d (.int .i64 s.size))
     | .one (.d (.sl _ rows)) => Ya P t = true /\ v = .one (.d (.int .i64 rows.length))
     | .one (.nil _) => Ya P t = true /\ v = .one (.d (.int .i64 0))
     | .one (.sref u j _ len) => Ya P t = true /\ ((∃ q size rows, σ.ob u j = .arr q size rows) \/ ∃ size rows, σ.ob u j = .lit size rows) /\ v = .one (.d (.int .i64 len))
     | .one (.tref u j i c none) => Ya P t = true /\ ∃ size rows n s, σ.ob u j = .arr true size rows /\ i < rows.length /\ (rows.getD i [])[c]? = some (.sl n s) /\ v = .one (.d (.int .i64 s.length))
     | _ => False)
   | .builtin .max, [x, y], _ => ∃ k m n, qo P σ x k m /\ qo P σ y k n /\ v = .one (.d (.int k (if n > m then n else m)))
   | .builtin .min, [x, y], _ => ∃ k m n, qo P σ x k m /\ qo P σ y k n /\ v = .one (.d (.int k (if n < m then n else m)))
   | _, _, _ => False)
 | _ => False
end Go.Vm
namespace Go.Vm
section
variable {P : Program} {T0 : CS} {B : Nat -> Prop} {σ : St} {a : Act} {w : World} {X : Nat -> Prop} {h : Nat -> Nat -> Hd}
theorem yA (b off n : Nat) : (⟨b, off, none⟩ : Addr).add n = ⟨b, off + n, none⟩ := by
 unfold Addr.add; split <;> simp_all
theorem qe {T : TypeId} (ht : ym P T = true) : ∃ d i, P.underlying T = some d /\ P.info? T = some i /\ i.size = P.cellsOf T /\ (kO P T = true \/ P.cellsOf T = 1) := by
 simp only [ym, Bool.and_eq_true, Bool.or_eq_true, beq_iff_eq] at ht
 obtain ⟨⟨h1, h2⟩, h3⟩ := ht
 obtain ⟨d, hd⟩ := Option.isSome_iff_exists.1 h1
 obtain ⟨i, hi⟩ := Option.isSome_iff_exists.1 h2
 exact ⟨d, i, hd, hi, by simp [Program.cellsOf, hi], h3⟩
theorem V2 {T : TypeId} {d : TypeDesc} (hd : P.underlying T = some d) (w : World) : (isAgg T).run P w = .ok (kO P T) w := by
 unfold isAgg kO
 rw [hd]
 simp only [Sem.run_bind, run_underlying hd, Result.andThen_ok]
 cases d <;> simp
theorem X5 {T : TypeId} {i : TypeInfo} (hi : P.info? T = some i) (w : World) : (sizeOf T).run P w = .ok (P.cellsOf T) w := by
 simp [sizeOf, typeInfo, hi, Program.cellsOf]
theorem Gc {T : TypeId} (ht : ym P T = true) {b off : Nat} {cs : List Value} (hl : cs.length = P.cellsOf T) (hc : ∀ j v, cs[j]? = some v -> w.cell? ⟨b, off + j, none⟩ = some v) :
  ∃ val, (Instr.loadAt T (.pointer (some ⟨b, off, none⟩))).run P w = .ok val w /\ (kO P T = true -> val = .agg cs.toArray) /\ (kO P T = false -> cs = [val]) := by
 obtain ⟨d, i, hd, hi, vK, w6⟩ := qe ht
 cases te : kO P T with
 | true =>
  refine ⟨.agg cs.toArray, ?_, fun _ => rfl, (fun hh => by cases hh)⟩
  have := run_loadCells_list (P := P) w ⟨b, off, none⟩ cs (fun j v hv => by rw [yA]; exact hc j v hv)
  simp only [Instr.loadAt, Instr.sureAddr, loadVar, Sem.run_bind, Sem.run_pure, Result.andThen_ok, V2 hd, te, if_true, X5 hi, <- hl, this]
 | false =>
  rcases w6 with w6 | w6
  ·rw [te] at w6; cases w6
  ·rw [w6] at hl
   obtain ⟨val, rfl⟩ := List.length_eq_one_iff.1 hl
   refine ⟨val, ?_, (fun hh => by cases hh), fun _ => rfl⟩
   have iG := hc 0 val (by simp)
   simp only [Nat.add_zero] at iG
   simp [Instr.loadAt, Instr.sureAddr, loadVar, V2 hd, te, load, Sem.run, iG]
theorem Hk {T : TypeId} (fI : ym P T = true) {T' : CS} {ob : Nat -> Nat -> Ob} {xs : List At} {cs : List Value} {val : Value} (hx : Zg (Zr T' h ob w) xs cs)
  (h1 : kO P T = true -> val = .agg cs.toArray) (h2 : kO P T = false -> cs = [val]) : XW T' h ob w (ldV P T xs) val := by
 unfold ldV
 cases te : kO P T with
 | true => simp only [if_true]; exact ⟨_, h1 te, by simpa using hx⟩
 | false =>
  simp only [Bool.false_eq_true, if_false]
  rw [h2 te] at hx
  cases hx with
  | cons r hx => cases hx; exact r
theorem Zg.cut {α β : Type} {R : α -> β -> Prop} {l : List α} {m : List β} (x : Zg R l m) (o n : Nat) : Zg R (Vm.cut l o n) (Vm.cut m o n) := (x.drop o).take n
theorem XO {α : Type} (l : List α) (o n : Nat) (hl : o + n <= l.length) : (cut l o n).length = n := by simp [cut]; omega
theorem zF {α : Type} (l : List α) (o n j : Nat) (v : α) (hv : (cut l o n)[j]? = some v) : l[o + j]? = some v := by
 simp only [cut, List.getElem?_take, List.getElem?_drop] at hv
 split at hv
 ·exact hv
 ·cases hv
theorem zc {α : Type} : ∀ (rows : List (List α)) (size : Nat), (∀ r ∈ rows, r.length = size) -> ∀ (i : Nat) (r : List α), rows[i]? = some r -> ∀ (j : Nat) (d : α), r[j]? = some d -> rows.flatten[i * size + j]? = some d
 | [], _, _, i, r, hr, _, _, _ => by simp at hr
 | r0 :: rows, size, hz, 0, r, hr, j, d, hd => by
  simp at hr; subst hr
  have hj : j < r0.length := (List.getElem?_eq_some_iff.1 hd).1
  simp [List.getElem?_append_left hj, hd]
 | r0 :: rows, size, hz, i + 1, r, hr, j, d, hd => by
  have ih := zc rows size (fun r hr => hz r (by simp [hr])) i r (by simpa using hr) j d hd
  have h0 : r0.length = size := hz r0 (by simp)
  rw [List.flatten_cons, List.getElem?_append_right (by rw [h0, Nat.add_mul]; omega), h0]
  have : (i + 1) * size + j - size = i * size + j := by rw [Nat.add_mul]; omega
  rw [this]; exact ih
theorem Z8 {α : Type} (rows : List (List α)) (size : Nat) (hz : ∀ r ∈ rows, r.length = size) : rows.flatten.length = rows.length * size := by
 induction rows with
 | nil => simp
 | cons r rows ih => rw [List.flatten_cons, List.length_append, ih (fun r hr => hz r (by simp [hr])), hz r (by simp), List.length_cons, Nat.add_mul]; omega
theorem Rd.row {T : CS} {v : Value} {size : Nat} {rows : List (List D)} (r : Rd T w v (.sl size rows)) (i : Nat) (hi : i < rows.length) (vK : 0 < size) :
  ∃ a len cap, v = .slice (some a) len cap /\ len = rows.length /\ a.spot = none /\
   ∃ g : Nat -> Value, ∀ k d, (rows.getD i [])[k]? = some d -> w.cell? ⟨a.block, a.off + i * size + k, none⟩ = some (g k) /\ T a.block (a.off + i * size + k) /\ Rd T w (g k) d := by
 cases r with
 | nil => simp at hi
 | sl a len cap size rows g hl hc hm hz hs hg hr =>
  have we : rows[i]? = some (rows.getD i []) := by simp [List.getD_eq_getElem?_getD, List.getElem?_eq_getElem hi]
  have wC : rows.flatten ≠ [] := by
   have hlen := Z8 rows size hz
   have hp : 0 < rows.length * size := Nat.mul_pos (by omega) vK
   intro he
   have h0 : rows.flatten.length = 0 := by rw [he]; rfl
   omega
  refine ⟨a, len, cap, rfl, hl.symm, hs wC, fun k => g (i * size + k), fun k d hd => ?_⟩
  have hf := zc rows size hz i _ we k d hd
  have h1 := hg _ _ hf
  rw [Nat.add_assoc]
  exact ⟨h1.1, h1.2, hr _ _ hf⟩
theorem Oc {T : CS} {v : Value} {size : Nat} {rows : List (List D)} (r : Rd T w v (.sl size rows)) : ∀ x ∈ rows, x.length = size := by
 cases r with
 | nil => intro x hx; cases hx
 | sl a len cap size rows g hl hc hm hz hs hg hr => exact hz
theorem HJ {T : CS} {v : Value} {size : Nat} {rows : List (List D)} (r : Rd T w v (.sl size rows)) : ∃ base cap, v = .slice base rows.length cap /\ rows.length <= cap /\ cap <= maxLen := by
 cases r with
 | nil => exact ⟨none, 0, rfl, by simp, by simp [maxLen]⟩
 | sl a len cap size rows g hl hc hm hz hs hg hr => exact ⟨some a, cap, by rw [hl], by omega, hm⟩
theorem Y8 {t : TypeId} (ht : Ya P t = true) : ∃ i, P.underlying t = some (.slice (ZD P t)) /\ P.info? (ZD P t) = some i /\ i.size = P.cellsOf (ZD P t) := by
 unfold Ya at ht
 split at ht
 ·rename_i e he
  obtain ⟨i, hi⟩ := Option.isSome_iff_exists.1 ht
  have : ZD P t = e := by simp [ZD, he]
  rw [this]
  exact ⟨i, he, hi, by simp [Program.cellsOf, hi]⟩
 ·cases ht
theorem P7 {t : TypeId} {n : Nat} (ht : P9 P t = some n) : ∃ i, P.underlying t = some (.array n (ZD P t)) /\ P.info? (ZD P t) = some i /\ i.size = P.cellsOf (ZD P t) := by
 unfold P9 at ht
 split at ht
 ·rename_i m e he
  split at ht
  ·rename_i hh
   cases ht
   obtain ⟨i, hi⟩ := Option.isSome_iff_exists.1 hh
   have : ZD P t = e := by simp [ZD, he]
   rw [this]
   exact ⟨i, he, hi, by simp [Program.cellsOf, hi]⟩
  ·cases ht
 ·cases ht
theorem UZ {t : TypeId} {f : Nat} (ht : yK P t f = true) : ∃ fs fd i, P.underlying t = some (.struct fs) /\ fs[f]? = some fd /\ fd.offset = XK P t f /\ fd.type = Kb P t f /\ P.info? fd.type = some i /\ i.size ≠ 0 := by
 unfold yK at ht
 split at ht
 ·rename_i fs he
  split at ht
  ·rename_i fd hf
   simp at ht
   obtain ⟨i, hi⟩ := Option.isSome_iff_exists.1 ht.1
   exact ⟨fs, fd, i, he, hf, by simp [XK, he, hf], by simp [Kb, he, hf], hi, by simpa [Program.cellsOf, hi] using ht.2⟩
  ·cases ht
 ·cases ht
theorem zK {t : TypeId} (ht : j7 P t = true) : P.underlying t = some .string := by
 unfold j7 at ht; split at ht <;> first | assumption | cases ht
theorem Pc {t : TypeId} {k : IntKind} (ht : I8 P t = some k) : P.underlying t = some (.int k) := by
 unfold I8 at ht
 split at ht
 ·cases ht; assumption
 ·cases ht
theorem WV {T : CS} {v : Value} {k : IntKind} {n : Int} (r : Rd T w v (.int k n)) : v = .int k n := by cases r; rfl
theorem yG {T : CS} {v : Value} {b : Bool} (r : Rd T w v (.bool b)) : v = .bool b := by cases r; rfl
theorem VT {T : CS} {v : Value} {s : ByteArray} (r : Rd T w v (.str s)) : v = .string s := by cases r; rfl
theorem KW (r : Rel T0 B σ a w X h) {x : Operand} {k : IntKind} {n : Int} (hx : qo P σ x k n) : a.eval x = .int k n :=
 WV (r.arg 0 x hx.2 hx.1)
end
end Go.Vm
namespace Go.Vm
section
variable {P : Program} {T0 : CS} {B : Nat -> Prop} {σ : St} {a : Act} {w : World} {X : Nat -> Prop} {h : Nat -> Nat -> Hd}
theorem Own.XG {v : Value} {d : D} {S : Nat -> Prop} (h : Own w v d S) : v.oneCell' = true := by
 cases h with
 | int => rfl
 | bool => rfl
 | str => rfl
 | unk _ h => exact h
 | sl v size rows S e xs Sk ho hz hb hl hk hs hd => rcases ho.2 with ⟨rfl, _⟩ | ⟨g, cap, cur, rfl, _⟩ <;> rfl
theorem P1 {t j i : Nat} : ∀ {xs : List D} {c k : Nat} {x : At}, (xd t j i c xs)[k]? = some x -> ∃ d, xs[k]? = some d /\ x = (match d with | .sl _ _ => .tref t j i (c + k) none | d => .d d)
 | [], c, k, x, hx => by simp [xd] at hx
 | d :: xs, c, 0, x, hx => by
  simp only [xd, List.getElem?_cons_zero] at hx
  cases hx
  exact ⟨d, by simp, by cases d <;> simp⟩
 | d :: xs, c, k + 1, x, hx => by
  simp only [xd, List.getElem?_cons_succ] at hx
  obtain ⟨d', wQ, rfl⟩ := P1 hx
  exact ⟨d', by simpa using wQ, by cases d' <;> simp; omega⟩
theorem UM {t j i : Nat} : ∀ (c : Nat) (xs : List D), (xd t j i c xs).length = xs.length
 | _, [] => rfl
 | c, d :: xs => by simp [xd, UM (c + 1) xs]
theorem NC (q : Bool) (t j i c : Nat) (xs : List D) : (WX q t j i c xs).length = xs.length := by
 cases q <;> simp [WX, UM]
theorem Rel.box (r : Rel T0 B σ a w X h) {t : Nat} {cells : List At} (ho : σ.ob t 0 = .box cells) {c : Nat} {v : Value} (hv : Zr (Tof T0 X) h σ.ob w (.bptr t c) v) :
  ∃ b cs e, (h t 0).v = .pointer (some ⟨b, 0, none⟩) /\ v = .pointer (some ⟨b, c, none⟩) /\ w.heap[b]? = some (.cells cs e (0, 0)) /\ Zg (Zr (Tof T0 X) h σ.ob w) cells cs.toList := by
 obtain ⟨b, hb, rfl⟩ := hv.2 cells ho
 have wY := r.obj t 0
 rw [ho] at wY
 obtain ⟨b', cs, e, wW, hh, wG⟩ := wY
 rw [hb] at wW
 cases wW
 exact ⟨b, cs, e, hb, rfl, hh, wG⟩
theorem Jw {b : Nat} {cs : Array Value} {e : TypeId} {f : Nat × Nat} (hh : w.heap[b]? = some (.cells cs e f)) (k : Nat) (v : Value) (hv : cs.toList[k]? = some v) : w.cell? ⟨b, k, none⟩ = some v := by
 simp only [World.cell?, hh]
 simpa using hv
theorem Rel.arr (r : Rel T0 B σ a w X h) {t j : Nat} {q : Bool} {size : Nat} {rows : List (List D)} (ho : σ.ob t j = .arr q size rows) {i c : Nat} {v : Value} (hv : Zr (Tof T0 X) h σ.ob w (.ptr t j i c) v) :
  ∃ b cap cur e xs, (h t j).v = .slice (some ⟨b, 0, none⟩) rows.length cap /\ v = .pointer (some ⟨b, i * size + c, none⟩) /\ w.heap[b]? = some (.cells cur e (0, 0)) /\ rows.length <= cap /\ cap <= maxLen /\ cur.size = cap * size /\
   cur.toList.take (rows.length * size) = xs /\ (∀ r ∈ rows, r.length = size) /\ xs.length = rows.flatten.length /\ (q = false -> Zg (Rd (Tof T0 X) w) xs rows.flatten) /\
   (q = true -> QU w xs rows.flatten (fun b => (h t j).u b /\ blk (h t j).v ≠ some b) /\ ∀ k x d, xs[k]? = some x -> rows.flatten[k]? = some d -> d.scalar = false -> (h t j).n k = x) := by
 obtain ⟨b, n, cap, hb, rfl⟩ := hv.2 q size rows ho
 have wY := r.obj t j
 rw [ho] at wY
 cases q with
 | false =>
  obtain ⟨e, xs, wL, hz, wG⟩ := wY
  rcases wL.2 with ⟨h0, _⟩ | ⟨g, r7, cur, hg, _, hh, hle, uE, uB, uv⟩
  ·rw [hb] at h0; cases h0
  ·rw [hb] at hg
   cases hg
   exact ⟨b, cap, cur, e, xs, hb, rfl, hh, hle, uE, uB, uv, hz, wG.length, fun _ => wG, fun hh => by cases hh⟩
 | true =>
  obtain ⟨e, xs, wL, hz, wG, hn⟩ := wY
  rcases wL.2 with ⟨h0, _⟩ | ⟨g, r7, cur, hg, _, hh, hle, uE, uB, uv⟩
  ·rw [hb] at h0; cases h0
  ·rw [hb] at hg
   cases hg
   exact ⟨b, cap, cur, e, xs, hb, rfl, hh, hle, uE, uB, uv, hz, wG.1, (fun hh => by cases hh), fun _ => ⟨wG, hn⟩⟩
theorem Own.hdr {v : Value} {n : Nat} {s : List (List D)} {S : Nat -> Prop} (h : Own w v (.sl n s) S) (hp : 0 < s.length) : ∃ b cap, v = .slice (some ⟨b, 0, none⟩) s.length cap := by
 cases h with
 | sl v size rows S e xs Sk ho hz hb hl hk hs hd =>
  obtain ⟨_, ⟨_, h0⟩ | ⟨g, cap, cur, hv, _⟩⟩ := ho
  ·omega
  ·exact ⟨g, cap, hv⟩
theorem Rel.nest (r : Rel T0 B σ a w X h) {t j i c size n : Nat} {rows s : List (List D)} (ho : σ.ob t j = .arr true size rows) (hi : i < rows.length) (wM : (rows.getD i [])[c]? = some (.sl n s)) : ∃ v0 S, (h t j).n (i * size + c) = v0 /\ Own w v0 (.sl n s) S := by
 have h0 := r.obj t j
 rw [ho] at h0
 obtain ⟨e, vs, uX, hz, ⟨hl, Sk, o1, o2, o3⟩, hn⟩ := h0
 have we : rows[i]? = some (rows.getD i []) := by simp [List.getD_eq_getElem?_getD, List.getElem?_eq_getElem hi]
 have vh : rows.flatten[i * size + c]? = some (.sl n s) := zc rows size hz i _ we c _ wM
 have wN : i * size + c < vs.length := by rw [hl]; exact (List.getElem?_eq_some_iff.1 vh).1
 have r8 : vs[i * size + c]? = some vs[i * size + c] := List.getElem?_eq_getElem wN
 exact ⟨_, _, hn _ _ _ r8 vh rfl, o1 _ _ _ r8 vh⟩
theorem IU (r : Rel T0 B σ a w X h) {o : Oper} {T : TypeId} {x : Operand} {v : V} (wA : o.op = .load T x) (hs : Z1 P σ o.op o.type v) :
  ∃ val, (execOp a.eval o).run P w = .ok (.value val) w /\ XW (Tof T0 X) h σ.ob w v val := by
 simp only [wA, Z1] at hs
 obtain ⟨hg, uO, hs⟩ := hs
 have hx := r.arg (P := P) 0 x rfl hg
 have key : ∀ (b off : Nat) (xs : List At) (cs : List Value), a.eval x = .pointer (some ⟨b, off, none⟩) -> v = ldV P T xs -> cs.length = P.cellsOf T ->
   (∀ j u, cs[j]? = some u -> w.cell? ⟨b, off + j, none⟩ = some u) -> Zg (Zr (Tof T0 X) h σ.ob w) xs cs -> ∃ val, (execOp a.eval o).run P w = .ok (.value val) w /\ XW (Tof T0 X) h σ.ob w v val := by
  intro b off xs cs he hv hl hc wG
  obtain ⟨val, hr, h1, h2⟩ := Gc (P := P) uO hl hc
  refine ⟨val, ?_, ?_⟩
  ·simp only [execOp, wA, he, Sem.run_bind, hr, Result.andThen_ok, Sem.run_pure]
  ·rw [hv]; exact Hk uO wG h1 h2
 split at hs
 ·rename_i t c heq
  rw [heq] at hx
  obtain ⟨cells, ho, hle, hv⟩ := hs
  obtain ⟨b, cs, e, hb, he, hh, wG⟩ := r.box ho hx
  have hlen := wG.length
  refine key b c _ (cut cs.toList c (P.cellsOf T)) he hv (XO _ _ _ (by omega)) (fun j u hu => Jw hh _ _ (zF _ _ _ _ _ hu)) (wG.cut _ _)
 ·rename_i t j i c heq
  rw [heq] at hx
  obtain ⟨q, size, rows, ho, hi, hle, hv⟩ := hs
  obtain ⟨b, cap, cur, e, xs, hb, he, hh, vr, uE, uB, uv, hz, oq, wG, wL⟩ := r.arr ho hx
  have we : rows[i]? = some (rows.getD i []) := by simp [List.getD_eq_getElem?_getD, List.getElem?_eq_getElem hi]
  have tr : (rows.getD i []).length = size := hz _ (List.mem_of_getElem? we)
  have vg := Z8 rows size hz
  have hmul : i * size + size <= rows.length * size := by rw [<- Nat.succ_mul]; exact Nat.mul_le_mul_right _ hi
  have tz : ∀ k d', (cut (rows.getD i []) c (P.cellsOf T))[k]? = some d' -> rows.flatten[i * size + c + k]? = some d' := by
   intro k d' wQ
   have h2 := zc rows size hz i _ we (c + k) d' (zF _ _ _ _ _ wQ)
   rw [show i * size + c + k = i * size + (c + k) by omega]; exact h2
  refine key b (i * size + c) _ (cut xs (i * size + c) (P.cellsOf T)) he hv (XO _ _ _ (by omega)) (fun j u hu => ?_) ?_
  ·have h1 := zF _ _ _ _ _ hu
   refine Jw hh _ _ ?_
   rw [<- uv, List.getElem?_take] at h1
   split at h1
   ·exact h1
   ·cases h1
  ·refine Zg.J2 (by rw [XO _ _ _ (by omega), NC, XO _ _ _ (by omega)]) (fun k x u hx hu => ?_)
   have h1 := zF _ _ _ _ _ hu
   cases q with
   | false =>
    obtain ⟨d, hd, hr⟩ := (wG rfl).get _ _ h1
    simp only [WX] at hx
    rw [List.getElem?_map] at hx
    cases wQ : (cut (rows.getD i []) c (P.cellsOf T))[k]? with
    | none => rw [wQ] at hx; cases hx
    | some d' =>
     rw [wQ] at hx
     cases hx
     rw [tz k d' wQ] at hd
     cases hd
     exact hr
   | true =>
    obtain ⟨⟨_, Sk, wL, _, _⟩, hn⟩ := wL rfl
    simp only [WX] at hx
    obtain ⟨d', wQ, rfl⟩ := P1 hx
    have wX := wL _ _ _ h1 (tz k d' wQ)
    cases d' with
    | sl s rs =>
     refine ⟨wX.XG, fun wZ wT tH => ?_⟩
     rw [ho] at tH; cases tH
     show _ = _
     rw [<- hn _ _ _ h1 (tz k _ wQ) rfl, Nat.add_assoc]
    | int k n => cases wX; exact .int _ _
    | bool b => cases wX; exact .bool _
    | str s => cases wX; exact .str _
    | unk => exact .unk _ wX.XG
 ·rename_i rr c heq
  rw [heq] at hx
  obtain ⟨hle, hv⟩ := hs
  obtain ⟨b, off, g, he, hk⟩ := hx
  refine key b (off + c) _ ((List.range (P.cellsOf T)).map fun j => g (c + j)) he hv (by simp) (fun j u hu => ?_) ?_
  ·rw [List.getElem?_map] at hu
   rcases Nat.lt_or_ge j (P.cellsOf T) with hj | hj
   ·rw [List.getElem?_range hj] at hu
    cases hu
    have hd := hk (c + j) (rr[c + j]'(by omega)) (List.getElem?_eq_getElem _)
    rw [Nat.add_assoc]; exact hd.1
   ·rw [List.getElem?_eq_none (by simpa using hj)] at hu; cases hu
  ·refine Zg.J2 (by rw [List.length_map, XO _ _ _ (by omega)]; simp) (fun k x u hx hu => ?_)
   rw [List.getElem?_map] at hx hu
   cases wQ : (cut rr c (P.cellsOf T))[k]? with
   | none => rw [wQ] at hx; cases hx
   | some d' =>
    rw [wQ] at hx
    cases hx
    have gC : k < P.cellsOf T := by have := (List.getElem?_eq_some_iff.1 wQ).1; rw [XO _ _ _ (by omega)] at this; exact this
    rw [List.getElem?_range gC] at hu
    cases hu
    exact (hk (c + k) d' (zF _ _ _ _ _ wQ)).2.2
 ·rename_i t j i c k heq
  rw [heq] at hx
  obtain ⟨size, rows, s, ho, hi, wM, iE, gA, vV, hv⟩ := hs
  obtain ⟨v0, S, hn, wL⟩ := r.nest ho hi wM
  obtain ⟨b, len, tQ, rC, he⟩ := hx.2 _ _ ho
  rw [hn] at rC
  cases wL with
  | sl v wZ wT S e xs Sk tH hz hb hl hk wO hd =>
   rcases tH.2 with ⟨rfl, h0⟩ | ⟨g, cap, cur, rfl, _, hh, v9, uE, uB, uv⟩
   ·omega
   ·cases rC
    have we : s[k]? = some (s.getD k []) := by simp [List.getD_eq_getElem?_getD, List.getElem?_eq_getElem gA]
    have tr : (s.getD k []).length = 1 := hz _ (List.mem_of_getElem? we)
    have vg := Z8 s 1 hz
    refine key b k _ (cut xs k (P.cellsOf T)) he hv (XO _ _ _ (by omega)) (fun j u hu => ?_) ?_
    ·have h1 := zF _ _ _ _ _ hu
     refine Jw hh _ _ ?_
     rw [<- uv, List.getElem?_take] at h1
     split at h1
     ·exact h1
     ·cases h1
    ·refine Zg.J2 (by rw [List.length_map, XO _ _ _ (by omega)]; omega) (fun q x u hx hu => ?_)
     rw [List.getElem?_map] at hx
     cases wQ : (s.getD k [])[q]? with
     | none => rw [wQ] at hx; cases hx
     | some d' =>
      rw [wQ] at hx
      cases hx
      have hq : q = 0 := by have := (List.getElem?_eq_some_iff.1 wQ).1; omega
      subst hq
      have hf := zc s 1 hz k _ we 0 d' wQ
      rw [Nat.mul_one] at hf
      have mJ := hk _ _ _ (zF _ _ _ _ _ hu) hf
      have gD : d'.scalar = true := List.all_eq_true.1 vV d' (List.mem_of_getElem? wQ)
      cases d' with
      | sl s' rs => cases gD
      | int k' n' => cases mJ; exact .int _ _
      | bool b' => cases mJ; exact .bool _
      | str s' => cases mJ; exact .str _
      | unk => exact .unk _ mJ.XG
 ·exact hs.elim
theorem jZ {T : TypeId} {f : Nat} (hf : yK P T f = true) (b off : Nat) : (Instr.fieldAt T (.pointer (some ⟨b, off, none⟩)) f).run P w = .ok (.pointer (some ⟨b, off + XK P T f, none⟩)) w := by
 obtain ⟨fs, fd, i, hu, sZ, s8, uO, hi, wC⟩ := UZ hf
 have wz : P.cellsOf fd.type ≠ 0 := by simpa [Program.cellsOf, hi] using wC
 simp [Instr.fieldAt, run_underlying hu, sZ, Instr.sureAddr, fieldPlace, X5 hi, wz, yA, s8]
theorem RU (r : Rel T0 B σ a w X h) {o : Oper} {T : TypeId} {x : Operand} {f : Nat} {v : V} (wA : o.op = .fieldAddr T x f) (hs : Z1 P σ o.op o.type v) :
  ∃ val, (execOp a.eval o).run P w = .ok (.value val) w /\ XW (Tof T0 X) h σ.ob w v val := by
 simp only [wA, Z1] at hs
 obtain ⟨hg, hf, hs⟩ := hs
 have hx := r.arg (P := P) 0 x rfl hg
 split at hs
 ·rename_i t c heq
  rw [heq] at hx
  obtain ⟨⟨cells, ho⟩, rfl⟩ := hs
  obtain ⟨b, hb, he⟩ := hx.2 cells ho
  refine ⟨.pointer (some ⟨b, c + XK P T f, none⟩), by simp only [execOp, wA, he, Sem.run_bind, jZ hf, Result.andThen_ok, Sem.run_pure], rfl, fun wJ _ => ⟨b, hb, rfl⟩⟩
 ·rename_i t j i c heq
  rw [heq] at hx
  obtain ⟨⟨q, size, rows, ho⟩, rfl⟩ := hs
  obtain ⟨b, n, cap, hb, he⟩ := hx.2 q size rows ho
  refine ⟨.pointer (some ⟨b, i * size + c + XK P T f, none⟩), by simp only [execOp, wA, he, Sem.run_bind, jZ hf, Result.andThen_ok, Sem.run_pure], rfl, fun q' wZ wT wX => ?_⟩
  rw [ho] at wX
  cases wX
  exact ⟨b, n, cap, hb, by rw [Nat.add_assoc]⟩
 ·rename_i rr c heq
  rw [heq] at hx
  subst hs
  obtain ⟨b, off, g, he, hk⟩ := hx
  exact ⟨.pointer (some ⟨b, off + c + XK P T f, none⟩), by simp only [execOp, wA, he, Sem.run_bind, jZ hf, Result.andThen_ok, Sem.run_pure], b, off, g, by rw [Nat.add_assoc], hk⟩
 ·rename_i t j i c k heq
  rw [heq] at hx
  obtain ⟨⟨size, rows, ho⟩, rfl⟩ := hs
  obtain ⟨b, n, cap, hb, he⟩ := hx.2 size rows ho
  refine ⟨.pointer (some ⟨b, k + XK P T f, none⟩), by simp only [execOp, wA, he, Sem.run_bind, jZ hf, Result.andThen_ok, Sem.run_pure], rfl, fun wZ wT wX => ?_⟩
  rw [ho] at wX
  cases wX
  exact ⟨b, n, cap, hb, rfl⟩
 ·exact hs.elim
theorem OZ (r : Rel T0 B σ a w X h) {o : Oper} {x : Operand} {v : V} (wA : o.op = .nilCheck x) (hs : Z1 P σ o.op o.type v) :
  ∃ val, (execOp a.eval o).run P w = .ok (.value val) w /\ XW (Tof T0 X) h σ.ob w v val := by
 simp only [wA, Z1] at hs
 obtain ⟨hg, hs⟩ := hs
 have hx := r.arg (P := P) 0 x rfl hg
 split at hs
 ·rename_i t c heq
  rw [heq] at hx
  obtain ⟨⟨cells, ho⟩, rfl⟩ := hs
  obtain ⟨b, hb, he⟩ := hx.2 cells ho
  exact ⟨.pointer (some ⟨b, c, none⟩), by simp only [execOp, wA, he, Sem.run_pure], rfl, fun wJ _ => ⟨b, hb, rfl⟩⟩
 ·exact hs.elim
theorem W3 {T : TypeId} (ht : Ya P T = true) (ad : Addr) (sK : ad.spot = none) (len cap : Nat) (k : IntKind) (i : Int) (h0 : 0 <= i) (hl : i < (len : Int)) :
  (Instr.indexAt T (.slice (some ad) len cap) (.int k i)).run P w = .ok (.pointer (some ⟨ad.block, ad.off + i.toNat * P.cellsOf (ZD P T), none⟩)) w := by
 obtain ⟨ti, hu, hi, vK⟩ := Y8 ht
 obtain ⟨b, off, sp⟩ := ad
 simp at sK; subst sK
 simp [Instr.indexAt, asIntOf, run_underlying hu, h0, hl, X5 hi, yA]
theorem M4 {T : TypeId} {n : Nat} (ht : P9 P T = some n) (fJ : 1 < n) (b off : Nat) (k : IntKind) (i : Int) (h0 : 0 <= i) (hl : i < (n : Int)) :
  (Instr.indexAt T (.pointer (some ⟨b, off, none⟩)) (.int k i)).run P w = .ok (.pointer (some ⟨b, off + i.toNat * P.cellsOf (ZD P T), none⟩)) w := by
 obtain ⟨ti, hu, hi, vK⟩ := P7 ht
 simp [Instr.indexAt, Instr.sureAddr, asIntOf, run_underlying hu, h0, hl, X5 hi, yA]
theorem R3 (r : Rel T0 B σ a w X h) {o : Oper} {T : TypeId} {x ix : Operand} {v : V} (wA : o.op = .indexAddr T x ix) (hs : Z1 P σ o.op o.type v) :
  ∃ val, (execOp a.eval o).run P w = .ok (.value val) w /\ XW (Tof T0 X) h σ.ob w v val := by
 simp only [wA, Z1] at hs
 obtain ⟨k, i, mj, h0, hg, hs⟩ := hs
 have hx := r.arg (P := P) 0 x rfl hg
 have rp := KW r mj
 split at hs
 ·rename_i size rows heq
  rw [heq] at hx
  obtain ⟨ht, rfl, vO, wN, rfl⟩ := hs
  have ph : i.toNat < rows.length := by omega
  obtain ⟨ad, len, cap, he, hlen, sK, g, hk⟩ := Rd.row (show Rd _ _ _ _ from hx) i.toNat ph vO
  refine ⟨.pointer (some ⟨ad.block, ad.off + i.toNat * P.cellsOf (ZD P T), none⟩), by simp only [execOp, wA, he, rp, Sem.run_bind, W3 ht ad sK len cap k i h0 (by omega), Result.andThen_ok, Sem.run_pure], ad.block, ad.off + i.toNat * P.cellsOf (ZD P T), g, by simp, hk⟩
 ·rename_i t j lo len heq
  rw [heq] at hx
  obtain ⟨ht, vO, ⟨q, rows, ho⟩, wN, rfl⟩ := hs
  obtain ⟨hle, _, _, base, cap, he, vr, _, _, hb⟩ := hx.2.1 _ _ rows ho
  obtain ⟨b, tQ, hh, rF⟩ := hb (by omega)
  rw [rF] at he
  refine ⟨.pointer (some ⟨b, lo * P.cellsOf (ZD P T) + i.toNat * P.cellsOf (ZD P T), none⟩), by simp only [execOp, wA, he, rp, Sem.run_bind, W3 ht ⟨b, lo * P.cellsOf (ZD P T), none⟩ rfl len cap k i h0 wN, Result.andThen_ok, Sem.run_pure], rfl, fun q' wZ wT wX => ?_⟩
  rw [ho] at wX
  cases wX
  exact ⟨b, rows.length, tQ, hh, by simp [Nat.add_mul]⟩
 ·rename_i t c heq
  rw [heq] at hx
  obtain ⟨⟨cells, ho⟩, ⟨n, hn, h1, wN⟩, rfl⟩ := hs
  obtain ⟨b, hb, he⟩ := hx.2 cells ho
  exact ⟨.pointer (some ⟨b, c + i.toNat * P.cellsOf (ZD P T), none⟩), by simp only [execOp, wA, he, rp, Sem.run_bind, M4 hn h1 b c k i h0 wN, Result.andThen_ok, Sem.run_pure], rfl, fun wJ _ => ⟨b, hb, rfl⟩⟩
 ·rename_i t j m c heq
  rw [heq] at hx
  obtain ⟨ht, vO, ⟨size, rows, s, ho, hm, wM, wN⟩, rfl⟩ := hs
  obtain ⟨v0, S, hn, wL⟩ := r.nest ho hm wM
  have he : a.eval x = v0 := by rw [<- hn]; exact hx.2 size rows ho
  obtain ⟨b, cap, rC⟩ := wL.hdr (by omega)
  rw [rC] at he hn
  refine ⟨.pointer (some ⟨b, 0 + i.toNat * P.cellsOf (ZD P T), none⟩), by simp only [execOp, wA, he, rp, Sem.run_bind, W3 ht ⟨b, 0, none⟩ rfl s.length cap k i h0 wN, Result.andThen_ok, Sem.run_pure], rfl, fun wZ wT wX => ?_⟩
  rw [ho] at wX
  cases wX
  exact ⟨b, s.length, cap, hn, by simp⟩
 ·exact hs.elim
end
end Go.Vm
namespace Go.Vm
section
variable {P : Program} {T0 : CS} {B : Nat -> Prop} {σ : St} {a : Act} {w : World} {X : Nat -> Prop} {h : Nat -> Nat -> Hd}
theorem Gx {T : TypeId} (ht : ym P T = true) {cs : Array Value} {off : Nat} (hl : off + P.cellsOf T <= cs.size) :
  ∃ val, (part T cs off).run P w = .ok val w /\ (kO P T = true -> val = .agg (cut cs.toList off (P.cellsOf T)).toArray) /\ (kO P T = false -> cut cs.toList off (P.cellsOf T) = [val]) := by
 obtain ⟨d, i, hd, hi, vK, w6⟩ := qe ht
 cases te : kO P T with
 | true =>
  refine ⟨.agg (cs.extract off (off + P.cellsOf T)), ?_, fun _ => ?_, (fun hh => by cases hh)⟩
  ·simp only [part, Sem.run_bind, V2 hd, te, Result.andThen_ok, if_true, X5 hi, Sem.run_pure]
  ·congr 1
   apply Array.toList_inj.1
   simp [cut, Array.toList_extract, List.extract_eq_take_drop]
 | false =>
  rcases w6 with w6 | w6
  ·rw [te] at w6; cases w6
  ·rw [w6] at hl ⊢
   have wN : off < cs.size := by omega
   refine ⟨cs[off], ?_, (fun hh => by cases hh), fun _ => ?_⟩
   ·simp [part, V2 hd, te, Array.getElem?_eq_getElem wN]
   ·have : cut cs.toList off 1 = [cs.toList[off]'(by simpa using wN)] := by
     simp only [cut]
     rw [List.drop_eq_getElem_cons (by simpa using wN)]
     simp
    rw [this]
    simp
theorem L6 {T : TypeId} (ht : ym P T = true) {xs : List At} {x : Value} {off : Nat} (hx : XW (Tof T0 X) h σ.ob w (.agg xs) x) (hl : off + P.cellsOf T <= xs.length) :
  ∃ cs : Array Value, x = .agg cs /\ ∃ val, (part T cs off).run P w = .ok val w /\ XW (Tof T0 X) h σ.ob w (ldV P T (cut xs off (P.cellsOf T))) val := by
 obtain ⟨cs, rfl, wG⟩ := hx
 obtain ⟨val, hr, h1, h2⟩ := Gx (P := P) (w := w) ht (cs := cs) (off := off) (by have := wG.length; simp at this; omega)
 exact ⟨cs, rfl, val, hr, Hk ht (wG.cut _ _) h1 h2⟩
theorem IK (r : Rel T0 B σ a w X h) {o : Oper} {T : TypeId} {x ix : Operand} {v : V} (wA : o.op = .index T x ix) (hs : Z1 P σ o.op o.type v) :
  ∃ val, (execOp a.eval o).run P w = .ok (.value val) w /\ XW (Tof T0 X) h σ.ob w v val := by
 simp only [wA, Z1] at hs
 obtain ⟨k, i, mj, h0, hg, hs⟩ := hs
 have hx := r.arg (P := P) 0 x rfl hg
 have rp := KW r mj
 split at hs
 ·rename_i s heq
  rw [heq] at hx
  obtain ⟨ht, wN, rfl⟩ := hs
  have he := VT hx
  have ph : i.toNat < s.size := by omega
  refine ⟨.int .u8 (s.data.toList.getD i.toNat 0).toNat, ?_, .int _ _⟩
  have vC : s[i.toNat]? = some (s.data.toList.getD i.toNat 0) := by
   rw [List.getD_eq_getElem?_getD]
   have h1 : s.data.toList[i.toNat]? = some (s.data[i.toNat]'ph) := by
    rw [List.getElem?_eq_getElem (by simpa using ph)]; simp
   rw [h1, getElem?_pos s i.toNat ph]
   rfl
  simp [execOp, wA, he, rp, Instr.index, asIntOf, run_underlying (zK ht), h0, vC]
 ·rename_i xs heq
  rw [heq] at hx
  obtain ⟨⟨n, hn, wN⟩, ht, hl, rfl⟩ := hs
  obtain ⟨ti, hu, hi, vK⟩ := P7 hn
  obtain ⟨cs, he, val, hr, hv⟩ := L6 ht hx hl
  refine ⟨val, ?_, hv⟩
  simp [execOp, wA, he, rp, Instr.index, asIntOf, run_underlying hu, h0, wN, X5 hi, hr]
 ·exact hs.elim
theorem LL (r : Rel T0 B σ a w X h) {o : Oper} {T : TypeId} {x : Operand} {f : Nat} {v : V} (wA : o.op = .field T x f) (hs : Z1 P σ o.op o.type v) :
  ∃ val, (execOp a.eval o).run P w = .ok (.value val) w /\ XW (Tof T0 X) h σ.ob w v val := by
 simp only [wA, Z1] at hs
 obtain ⟨hg, hf, ht, hs⟩ := hs
 have hx := r.arg (P := P) 0 x rfl hg
 split at hs
 ·rename_i xs heq
  rw [heq] at hx
  obtain ⟨hl, rfl⟩ := hs
  obtain ⟨fs, fd, i, hu, sZ, s8, uO, hi, wC⟩ := UZ hf
  obtain ⟨cs, he, val, hr, hv⟩ := L6 ht hx hl
  refine ⟨val, ?_, hv⟩
  rw [<- s8, <- uO] at hr
  simp [execOp, wA, he, Instr.field, run_underlying hu, sZ, asAgg, hr]
 ·exact hs.elim
theorem Mr (r : Rel T0 B σ a w X h) {vW n y : Nat} {x : Option Operand} {code : BoundsCode} (hb : bnd P σ vW x n) (hy : n <= y) (wC : x ≠ none) :
  (Instr.sliceBound ((x.map a.eval).getD undef) y code).run P w = .ok n w := by
 cases x with
 | none => exact absurd rfl wC
 | some x =>
  obtain ⟨k, i, hg, hx, h0, rfl⟩ := hb
  have he := WV (r.arg (P := P) 0 x hx hg)
  have : i <= (y : Int) := by omega
  simp [he, Instr.sliceBound, asIntOf, h0, this]
theorem Uv (r : Rel T0 B σ a w X h) {sl : Bool} {len cap l hh : Nat} {lo hi : Option Operand} (uj : bnd P σ 0 lo l) (tw : bnd P σ len hi hh) (h1 : l <= hh) (h2 : hh <= cap) :
  (Instr.sliceBounds sl len cap (lo.map a.eval) (hi.map a.eval) none).run P w = .ok (l, hh, cap) w := by
 unfold Instr.sliceBounds
 cases hi with
 | none =>
  cases tw
  cases lo with
  | none => cases uj; simp
  | some x =>
   have := Mr (w := w) r (code := .sliceB) uj h1 (by simp)
   simp at this
   simp [this]
 | some y =>
  have hb := Mr (w := w) r (code := if sl then .sliceAcap else .sliceAlen) tw h2 (by simp)
  simp at hb
  cases lo with
  | none => cases uj; simp [hb]
  | some x =>
   have := Mr (w := w) r (code := .sliceB) uj h1 (by simp)
   simp at this
   simp [this, hb]
theorem zW {α : Type} (rows : List (List α)) (size l n : Nat) (hz : ∀ r ∈ rows, r.length = size) (k : Nat) (d : α) (hd : (cut rows l n).flatten[k]? = some d) : rows.flatten[l * size + k]? = some d := by
 induction rows generalizing l with
 | nil => simp [cut] at hd
 | cons r rows ih =>
  have hr : r.length = size := hz r (by simp)
  cases l with
  | zero =>
   simp only [cut, List.drop_zero, Nat.zero_mul, Nat.zero_add] at hd ⊢
   have pr : (r :: rows).flatten = ((r :: rows).take n).flatten ++ ((r :: rows).drop n).flatten := by rw [<- List.flatten_append, List.take_append_drop]
   rw [pr, List.getElem?_append_left (List.getElem?_eq_some_iff.1 hd).1]; exact hd
  | succ l =>
   have := ih l (fun r hr => hz r (by simp [hr])) (by simpa [cut] using hd)
   rw [List.flatten_cons, List.getElem?_append_right (by rw [hr, Nat.add_mul]; omega), hr]
   rw [show (l + 1) * size + k - size = l * size + k by rw [Nat.add_mul]; omega]; exact this
theorem Rd.cut {T : CS} {v : Value} {size : Nat} {rows : List (List D)} {base : Option Addr} {len cap : Nat} (hv : v = .slice base len cap) (r : Rd T w v (.sl size rows)) (l hh : Nat) (h1 : l <= hh) (h2 : hh <= rows.length) (hZ : 0 < size \/ True) :
  Rd T w (.slice (if cap = l then base else base.map (·.add (l * size))) (hh - l) (cap - l)) (.sl size (Vm.cut rows l (hh - l))) := by
 subst hv
 cases r with
 | nil =>
  simp at h2; subst h2
  have : l = 0 := by omega
  subst this
  simp [Vm.cut]; exact .nil _
 | sl a len cap size rows g hl hc hm hz hs hg hr =>
  have hlen : (Vm.cut rows l (hh - l)).length = hh - l := XO _ _ _ (by omega)
  have uw : ∀ r ∈ Vm.cut rows l (hh - l), r.length = size := fun r hr => hz r (List.mem_of_mem_drop (List.mem_of_mem_take hr))
  by_cases wk : cap = l
  ·have h0 : hh - l = 0 := by omega
   have ux : Vm.cut rows l (hh - l) = [] := List.eq_nil_of_length_eq_zero (by omega)
   rw [if_pos wk, ux, h0]
   exact .sl a 0 (cap - l) size [] g rfl (Nat.zero_le _) (by omega) (by intro r hr; cases hr) (by simp) (by simp) (by simp)
  ·rw [if_neg wk]
   refine .sl (a.add (l * size)) (hh - l) (cap - l) size _ (fun k => g (l * size + k)) hlen (by omega) (by omega) uw (fun wC => ?_) (fun k d hd => ?_) (fun k d hd => hr _ _ (zW rows size l _ hz k d hd))
   ·have : rows.flatten ≠ [] := by
     intro he
     apply wC
     cases wu : (Vm.cut rows l (hh - l)).flatten with
     | nil => rfl
     | cons d ds =>
      have := zW rows size l (hh - l) hz 0 d (by rw [wu]; rfl)
      rw [he] at this; simp at this
    have sK := hs this
    unfold Addr.add; split <;> simp [sK]
   ·have sK : a.spot = none := hs (by
     intro he
     have := zW rows size l (hh - l) hz k d hd
     rw [he] at this; simp at this)
    have := hg _ _ (zW rows size l (hh - l) hz k d hd)
    obtain ⟨b, off, sp⟩ := a
    simp at sK; subst sK
    rw [yA]
    simp only [Nat.add_assoc] at this ⊢
    exact this
theorem LJ (r : Rel T0 B σ a w X h) {o : Oper} {T : TypeId} {x : Operand} {lo hi : Option Operand} {v : V} (wA : o.op = .slice T x lo hi none) (hs : Z1 P σ o.op o.type v) :
  ∃ val, (execOp a.eval o).run P w = .ok (.value val) w /\ XW (Tof T0 X) h σ.ob w v val := by
 simp only [wA, Z1] at hs
 obtain ⟨hg, hs⟩ := hs
 have hx := r.arg (P := P) 0 x rfl hg
 split at hs
 ·rename_i s heq
  rw [heq] at hx
  obtain ⟨ht, l, hh, uj, tw, h1, h2, rfl⟩ := hs
  have he := VT hx
  have hb := Uv (w := w) r (sl := false) uj tw h1 h2
  refine ⟨.string (s.extract l hh), ?_, .str _⟩
  simp [execOp, wA, he, Instr.sliceAt, Instr.slice, run_underlying (zK ht), hb]
 ·rename_i size rows heq
  rw [heq] at hx
  obtain ⟨ht, rfl, l, hh, uj, tw, h1, h2, rfl⟩ := hs
  obtain ⟨ti, hu, vZ, vK⟩ := Y8 ht
  obtain ⟨base, cap, he, vr, uE⟩ := HJ (show Rd _ _ _ _ from hx)
  have hb := Uv (w := w) r (sl := true) (cap := cap) uj tw h1 (by omega)
  refine ⟨_, ?_, Rd.cut he hx l hh h1 h2 (.inr trivial)⟩
  simp [execOp, wA, he, Instr.sliceAt, Instr.slice, run_underlying hu, hb, X5 vZ]
 ·rename_i t j fK len heq
  rw [heq] at hx
  obtain ⟨ht, ⟨q, rows, ho⟩, l, hh, uj, tw, h1, h2, rfl⟩ := hs
  obtain ⟨ti, hu, vZ, vK⟩ := Y8 ht
  obtain ⟨hle, uH, tE, base, cap, he, vr, uE, po, mW⟩ := hx.2.1 _ _ rows ho
  have hb := Uv (w := w) r (sl := true) (cap := cap) uj tw h1 (by omega)
  refine ⟨.slice (if cap = l then base else base.map (·.add (l * P.cellsOf (ZD P T)))) (hh - l) (cap - l), ?_, rfl, fun q' wZ wT wX => ?_, fun wZ wT wX => by rw [ho] at wX; cases wX⟩
  ·simp [execOp, wA, he, Instr.sliceAt, Instr.slice, run_underlying hu, hb, X5 vZ]
  ·rw [ho] at wX
   cases wX
   refine ⟨by omega, fun mH nD => ?_, fun nD => ?_, _, cap - l, rfl, by omega, by omega, fun hn => ?_, fun vO => ?_⟩
   ·have hl : l = 0 := by omega
    subst hl
    have : len = rows.length := by omega
    have hv := uH this (by omega)
    rw [<- hv, he]
    simp only [Nat.sub_zero, Nat.zero_mul]
    have h3 : hh = len := by omega
    rw [h3]
    congr 1
    split
    ·rfl
    ·cases base <;> simp [Addr.add]
   ·have hl : l = 0 := by omega
    subst hl
    have hv := tE (by omega)
    rw [he] at hv
    have nE : (if cap = 0 then base else base.map (·.add (0 * P.cellsOf (ZD P T)))) = base := by
     split
     ·rfl
     ·cases base <;> simp [Addr.add]
    rw [nE]
    unfold ID at hv ⊢
    revert hv
    cases (h t j).v with
    | slice b n c => intro hv; cases hv; simp
    | _ => intro hv; cases hv
   ·have nF : base = none := by
     by_cases wk : cap = l
     ·rw [if_pos wk] at hn; exact hn
     ·rw [if_neg wk] at hn; simpa using hn
    have := po nF; omega
   ·obtain ⟨b, tQ, rG, rF⟩ := mW (by omega)
    refine ⟨b, tQ, rG, ?_⟩
    rw [if_neg (by omega), rF]
    simp [yA, Nat.add_mul]
 ·exact hs.elim
end
end Go.Vm
namespace Go.Vm
section
variable {P : Program} {T0 : CS} {B : Nat -> Prop} {σ : St} {a : Act} {w : World} {X : Nat -> Prop} {h : Nat -> Nat -> Hd}
theorem Iz {α : Type} (l : List α) (k : Nat) (v : α) (vs : List α) (hk : k + (vs.length + 1) <= l.length) : place (l.set k v) (k + 1) vs = place l k (v :: vs) := by
 unfold place
 have h1 : (l.set k v).take (k + 1) = l.take k ++ [v] := by
  rw [List.take_set, List.take_succ_eq_append_getElem (by omega)]
  rw [List.set_append_right _ _ (by simp; omega)]
  simp [Nat.min_eq_left (show k <= l.length by omega)]
 have h2 : (l.set k v).drop (k + 1 + vs.length) = l.drop (k + (vs.length + 1)) := by
  rw [List.drop_set_of_lt (by omega)]; congr 1; omega
 rw [h1, h2]; simp
theorem RC (off : Nat) : ∀ (vs : List Value) (j : Nat) (cs : Array Value), off + j + vs.length <= cs.size ->
  ((vs.zipIdx j).foldl (fun cs x => cs.setIfInBounds (off + x.2) x.1) cs).toList = place cs.toList (off + j) vs
 | [], j, cs, _ => by simp [place]
 | v :: vs, j, cs, hl => by
  rw [List.zipIdx_cons, List.foldl_cons, RC off vs (j + 1) _ (by simp at hl ⊢; omega)]
  rw [Array.toList_setIfInBounds, show off + (j + 1) = off + j + 1 by omega, Iz _ _ _ _ (by simp at hl ⊢; omega)]
theorem WQ (off : Nat) (vs cs : Array Value) (hl : off + vs.size <= cs.size) :
  (vs.zipIdx.foldl (fun cs x => cs.setIfInBounds (off + x.2) x.1) cs).toList = place cs.toList off vs.toList := by
 rw [<- Array.foldl_toList, Array.toList_zipIdx, RC off vs.toList 0 cs (by simpa using hl)]
 rfl
theorem XE {α : Type} (r : List α) (off : Nat) (xs : List α) (hl : off + xs.length <= r.length) : (place r off xs).length = r.length := by
 simp [place]; omega
theorem Zg.place {α β : Type} {R : α -> β -> Prop} {l : List α} {m : List β} (x : Zg R l m) (off : Nat) {l' : List α} {m' : List β} (y : Zg R l' m') : Zg R (Vm.place l off l') (Vm.place m off m') := by
 unfold Vm.place
 rw [y.length]
 exact ((x.take _).append y).append (x.drop _)
theorem qP {T' : CS} {ob : Nat -> Nat -> Ob} {x : V} {v : Value} (hf : x.flat = true) (hv : XW T' h ob w x v) : Zg (Zr T' h ob w) x.cells v.cells.toList := by
 cases x with
 | one c =>
  have h1 := Zr.XG (show Zr _ _ _ _ _ _ from hv)
  have : v.cells = #[v] := by cases v <;> first | rfl | (simp [Value.oneCell'] at h1)
  rw [this]
  exact .cons hv .nil
 | agg xs => obtain ⟨cs, rfl, wG⟩ := hv; exact wG
 | any => cases hf
 | tup xs => cases hf
 | cnd g x => cases hf
 | fix u x => cases hf
theorem OV (r : Rel T0 B σ a w X h) (T : TypeId) (pl : Nat -> Option (Nat × Nat)) (tx : ∀ i, bOk P T i = true -> pl i = some (K6 P T i, P.cellsOf (bTy P T i))) :
  ∀ (ps : List (Nat × Operand)) (row out : List At) (cells : Array Value), Zg (Zr (Tof T0 X) h σ.ob w) row cells.toList -> kK P σ T ps row out ->
   ∃ wJ, Instr.fill pl cells (ps.map fun x => (x.1, a.eval x.2)) = some wJ /\ Zg (Zr (Tof T0 X) h σ.ob w) out wJ.toList
 | [], row, out, cells, wG, hb => by cases hb; exact ⟨cells, rfl, wG⟩
 | (i, x) :: ps, row, out, cells, wG, hb => by
  obtain ⟨wb, hg, hf, hlen, hle, hb⟩ := hb
  have hx := qP hf (r.arg (P := P) (bTy P T i) x rfl hg)
  have r9 := hx.length
  have nD := wG.length
  have e1 : cells.toList.length = cells.size := Array.length_toList
  have e2 : (a.eval x).cells.toList.length = (a.eval x).cells.size := Array.length_toList
  have tR := wG.place (K6 P T i) hx
  have heq := WQ (K6 P T i) (a.eval x).cells cells (by omega)
  rw [<- heq] at tR
  obtain ⟨wJ, h1, h2⟩ := OV r T pl tx ps _ out _ tR hb
  refine ⟨wJ, ?_, h2⟩
  have vK : (a.eval x).cells.size = P.cellsOf (bTy P T i) := by omega
  simp only [List.map_cons, Instr.fill, tx i wb]
  rw [if_neg (by simp [vK]; omega)]
  exact h1
theorem run_places (fs : List Field) (sw : ∀ f ∈ fs, (P.info? f.type).isSome = true) (w : World) :
  (fs.mapM (m := Sem) fun f => do pure (f.offset, <- sizeOf f.type)).run P w = .ok (fs.map fun f => (f.offset, P.cellsOf f.type)) w := by
 induction fs with
 | nil => simp
 | cons f fs ih =>
  obtain ⟨i, hi⟩ := Option.isSome_iff_exists.1 (sw f (by simp))
  simp only [List.mapM_cons, Sem.run_bind, X5 hi, Result.andThen_ok, Sem.run_pure, ih (fun f hf => sw f (by simp [hf])), List.map_cons]
theorem LD (r : Rel T0 B σ a w X h) {o : Oper} {T : TypeId} {parts : Array (Nat × Operand)} {v : V} (wA : o.op = .build T parts) (hs : Z1 P σ o.op o.type v) :
  ∃ val, (execOp a.eval o).run P w = .ok (.value val) w /\ XW (Tof T0 X) h σ.ob w v val := by
 simp only [wA, Z1] at hs
 obtain ⟨hz, te, z, out, uP, hb, rfl⟩ := hs
 obtain ⟨i, zv, hi, mn, vK, uQ⟩ := OM hz uP
 have uI : (zeroValue T).run P w = .ok zv w := by simp [zeroValue, typeInfo, hi, mn]
 have uZ : (parts.map fun (x : Nat × Operand) => (x.1, a.eval x.2)).toList = parts.toList.map fun x => (x.1, a.eval x.2) := by simp
 unfold kO at te
 split at te
 ·rename_i fs hu
  by_cases w8 : ∀ f ∈ fs.toList, (P.info? f.type).isSome = true
  ·have tx : ∀ i, bOk P T i = true -> (fs.toList.map fun f => (f.offset, P.cellsOf f.type)).toArray[i]? = some (K6 P T i, P.cellsOf (bTy P T i)) := by
    intro i wb
    simp only [bOk, hu, Bool.and_eq_true, decide_eq_true_eq] at wb
    have wN := wb.2
    simp [K6, bTy, hu, XK, Kb, wN]
   obtain ⟨wJ, h1, h2⟩ := OV r T _ tx parts.toList z out zv.cells (uQ _ _ _ _) hb
   refine ⟨.agg wJ, ?_, wJ, rfl, h2⟩
   have hm := run_places (P := P) fs.toList w8 w
   have : (fs.mapM (m := Sem) fun f => do pure (f.offset, <- sizeOf f.type)).run P w = .ok (fs.toList.map fun f => (f.offset, P.cellsOf f.type)).toArray w := by
    rw [Array.mapM_eq_mapM_toList]
    change ((fs.toList.mapM (m := Sem) fun f => do pure (f.offset, <- sizeOf f.type)) >>= fun l => pure l.toArray).run P w = _
    simp only [Sem.run_bind, hm, Result.andThen_ok, Sem.run_pure]
   simp only [execOp, wA, Instr.build, Sem.run_bind, uI, Result.andThen_ok, run_underlying hu, this, uZ, h1, Sem.run_pure]
  · -- no part can be placed: then there are none
   have ux : parts.toList = [] := by
    cases hp : parts.toList with
    | nil => rfl
    | cons p ps =>
     obtain ⟨i, x⟩ := p
     rw [hp] at hb
     have wb := hb.1
     simp only [bOk, hu, Bool.and_eq_true] at wb
     exact absurd (by intro f hf; exact Array.all_eq_true'.1 wb.1 f (by simpa using hf)) w8
   exfalso
   rw [show (12 : Nat) = 11 + 1 from rfl, xG, hu] at uP
   simp only [Option.map_eq_some_iff] at uP
   obtain ⟨rs, uN, _⟩ := uP
   apply w8
   intro f hf
   have : ∀ (l : List Field) (rs : List (List At)), l.mapM (fun f => xG P 11 f.type) = some rs -> ∀ f ∈ l, (P.info? f.type).isSome = true := by
    intro l
    induction l with
    | nil => intro rs _ f hf; cases hf
    | cons g l ih =>
     intro rs uN f hf
     simp only [List.mapM_cons, Option.bind_eq_bind, Option.bind_eq_some_iff] at uN
     obtain ⟨r0, uo, oW, pn, _⟩ := uN
     rcases List.mem_cons.1 hf with rfl | hf
     ·rw [show (11 : Nat) = 10 + 1 from rfl, xG] at uo
      cases hi0 : P.info? f.type with
      | some i => rfl
      | none => simp [Program.underlying, hi0] at uo
     ·exact ih oW pn f hf
   exact this fs.toList rs uN f hf
 ·rename_i n e hu
  cases rp : P.info? e with
  | none =>
   exfalso
   rw [show (12 : Nat) = 11 + 1 from rfl, xG, hu] at uP
   simp only [Option.map_eq_some_iff] at uP
   obtain ⟨r0, uo, _⟩ := uP
   rw [show (11 : Nat) = 10 + 1 from rfl, xG] at uo
   simp [Program.underlying, rp] at uo
  | some ie =>
   have tx : ∀ i, bOk P T i = true -> (fun i => some (i * P.cellsOf e, P.cellsOf e)) i = some (K6 P T i, P.cellsOf (bTy P T i)) := by
    intro i _
    simp [K6, bTy, hu]
   obtain ⟨wJ, h1, h2⟩ := OV r T _ tx parts.toList z out zv.cells (uQ _ _ _ _) hb
   refine ⟨.agg wJ, ?_, wJ, rfl, h2⟩
   simp only [execOp, wA, Instr.build, Sem.run_bind, uI, Result.andThen_ok, run_underlying hu, X5 rp, uZ, h1, Sem.run_pure]
 ·cases te
theorem Ta {t : TypeId} (ht : Mx P t = true) {cs : Array Value} {i : Nat} {v : Value} (hv : cs[i]? = some v) : (part t cs i).run P w = .ok v w := by
 unfold Mx at ht
 split at ht <;> first | (rename_i hu; simp [part, isAgg, run_underlying hu, hv]) | cases ht
theorem GZ {t : TypeId} {T' : CS} {ob : Nat -> Nat -> Ob} {x y : At} {u v : Value} {p : Bool} (hp : Gq P t x y = some p) (hx : Zr T' h ob w x u) (hy : Zr T' h ob w y v) (d : Nat) (w' : World) :
  (Op.equalIn (d + 1) t u v).run P w' = .ok p w' := by
 unfold Gq at hp
 split at hp
 ·rename_i k a' k' b'
  split at hp
  ·rename_i hc
   obtain ⟨rfl, hi⟩ := hc
   obtain ⟨k2, s3⟩ := Option.isSome_iff_exists.1 hi
   cases hp
   rw [WV hx, WV hy]
   exact Go.run_equalIn_int w' d t _ _ _ _ (Pc s3)
  ·cases hp
 ·split at hp
  ·rename_i hc
   cases hp
   rw [yG hx, yG hy]
   have hu : P.underlying t = some .bool := by
    unfold S3 at hc; split at hc <;> first | assumption | cases hc
   exact Go.run_equalIn_bool' w' d t _ _ hu
  ·cases hp
 ·split at hp
  ·rename_i hc
   cases hp
   rw [VT hx, VT hy]
   rw [Go.run_equalIn_string w' d t _ _ (zK hc), Io]
  ·cases hp
 ·cases hp
theorem NT {T' : CS} {ob : Nat -> Nat -> Ob} (d : Nat) (cs ds : Array Value) (w' : World) : ∀ (fs : List Field) (i : Nat) (xs ys : List At) (q : Bool), WU P fs i = true -> zp P fs xs ys = some q ->
  Zg (Zr T' h ob w) xs (cs.toList.drop i) -> Zg (Zr T' h ob w) ys (ds.toList.drop i) -> (Op.eqFields (d + 1) cs ds fs).run P w' = .ok q w'
 | [], i, xs, ys, q, _, hq, _, _ => by simp [zp] at hq; subst hq; simp [Op.eqFields]
 | f :: fs, i, [], ys, q, _, hq, _, _ => by simp [zp] at hq
 | f :: fs, i, x :: xs, [], q, _, hq, _, _ => by simp [zp] at hq
 | f :: fs, i, x :: xs, y :: ys, q, wb, hq, hx, hy => by
  simp only [WU, Bool.and_eq_true, decide_eq_true_eq, beq_iff_eq] at wb
  obtain ⟨⟨⟨hn, ho⟩, vV⟩, wb⟩ := wb
  simp only [zp] at hq
  split at hq
  ·rename_i p q' hp um
   cases hq
   cases hcd : cs.toList.drop i with
   | nil => rw [hcd] at hx; cases hx
   | cons u us =>
    cases uA : ds.toList.drop i with
    | nil => rw [uA] at hy; cases hy
    | cons v vs =>
     rw [hcd] at hx; rw [uA] at hy
     cases hx with
     | cons gH hx =>
      cases hy with
      | cons gI hy =>
       have hu : cs[i]? = some u := by
        have : (cs.toList.drop i)[0]? = some u := by rw [hcd]; rfl
        simpa using this
       have hv : ds[i]? = some v := by
        have : (ds.toList.drop i)[0]? = some v := by rw [uA]; rfl
        simpa using this
       have gE : cs.toList.drop (i + 1) = us := by rw [<- List.drop_drop, hcd]; rfl
       have r8 : ds.toList.drop (i + 1) = vs := by rw [<- List.drop_drop, uA]; rfl
       have ih := NT d cs ds w' fs (i + 1) xs ys q' wb um (by rw [gE]; exact hx) (by rw [r8]; exact hy)
       subst ho
       simp only [Op.eqFields, if_pos hn, Sem.run_bind, Ta vV hu, Ta vV hv, Result.andThen_ok, GZ hp gH gI d w']
       cases p
       ·simp
       ·simpa using ih
  ·cases hq
theorem GO {T : TypeId} {T' : CS} {ob : Nat -> Nat -> Ob} {xs ys : List At} {u v : Value} {q : Bool} (wb : Uo P T = true) (hq : zp P (P.fieldsOf T).toList xs ys = some q)
  (hx : XW T' h ob w (.agg xs) u) (hy : XW T' h ob w (.agg ys) v) (op : BinOp) (x y : Operand) (w' : World) :
  (eqGuard op T x y u v).run P w' = .ok () w' /\ (binOp .eql T u v).run P w' = .ok (.bool q) w' /\ (binOp .neq T u v).run P w' = .ok (.bool (!q)) w' := by
 obtain ⟨cs, rfl, uB⟩ := hx
 obtain ⟨ds, rfl, sv⟩ := hy
 unfold Uo at wb
 split at wb
 ·rename_i fs hu
  simp only [Bool.and_eq_true, Bool.not_eq_true'] at wb
  have hf : P.fieldsOf T = fs := by simp [Program.fieldsOf, hu]
  have vx : P.underlying T = some (.struct (P.fieldsOf T)) := by rw [hf]; exact hu
  have wV : (Op.equalIn 10000 T (.agg cs) (.agg ds)).run P w' = .ok q w' := by
   rw [show (10000 : Nat) = 9999 + 1 from rfl, Go.run_equalIn_struct w' 9999 T cs ds vx wb.1.1, show (9999 : Nat) = 9998 + 1 from rfl]
   exact NT 9998 cs ds w' _ 0 xs ys q (by rw [hf]; exact wb.2) hq (by simpa using uB) (by simpa using sv)
  refine ⟨Go.run_eqGuard_agg w' op T x y cs ds wb.1.2, ?_, ?_⟩
  ·rw [Go.run_eql_struct, wV]; rfl
  ·rw [Go.run_neq_struct, wV]; rfl
 ·cases wb
end
end Go.Vm
namespace Go.Vm
section
variable {P : Program} {T0 : CS} {B : Nat -> Prop} {σ : St} {a : Act} {w : World} {X : Nat -> Prop} {h : Nat -> Nat -> Hd}
theorem Pw (r : Rel T0 B σ a w X h) {o : Oper} {x : Operand} {v : V} (wA : o.op = .move x \/ o.op = .assign x) (hs : Z1 P σ o.op o.type v) :
  ∃ val, (execOp a.eval o).run P w = .ok (.value val) w /\ XW (Tof T0 X) h σ.ob w v val := by
 rcases wA with wA | wA <;>
 ·simp only [wA, Z1] at hs
  subst hs
  exact ⟨a.eval x, by simp [execOp, wA], r.look _ x⟩
theorem Ic (r : Rel T0 B σ a w X h) {o : Oper} {c x y : Operand} {v : V} (wA : o.op = .pick c x y) (hs : Z1 P σ o.op o.type v) :
  ∃ val, (execOp a.eval o).run P w = .ok (.value val) w /\ XW (Tof T0 X) h σ.ob w v val := by
 simp only [wA, Z1] at hs
 obtain ⟨bc, p, q, hg, hc, hp, hq, mo, gB, rfl⟩ := hs
 have he := yG (r.arg (P := P) o.type c hc hg)
 cases bc with
 | true =>
  have hx := yG (r.arg (P := P) o.type x (hp rfl) (mo rfl))
  exact ⟨.bool p, by simp [execOp, wA, he, asBool, hx], .bool _⟩
 | false =>
  have hy := yG (r.arg (P := P) o.type y (hq rfl) (gB rfl))
  exact ⟨.bool q, by simp [execOp, wA, he, asBool, hy], .bool _⟩
theorem z6 (op : BinOp) (T : TypeId) (x y : Operand) {v u : Value} (hv : ∀ cs, v ≠ .agg cs) (hn : v ≠ .nilIface) : (eqGuard op T x y v u).run P w = .ok () w := by
 unfold eqGuard
 cases op <;> simp <;> (split <;> first | exact absurd rfl hn | exact absurd rfl (hv _) | simp)
theorem Hy (r : Rel T0 B σ a w X h) {o : Oper} {op : BinOp} {T T' : TypeId} {x y : Operand} {v : V} (wA : o.op = .binOp op T x y T') (hs : Z1 P σ o.op o.type v) :
  ∃ val, (execOp a.eval o).run P w = .ok (.value val) w /\ XW (Tof T0 X) h σ.ob w v val := by
 simp only [wA, Z1] at hs
 obtain ⟨sL, sM, hs⟩ := hs
 have hx := r.arg (P := P) T x rfl sL
 have hy := r.arg (P := P) T y rfl sM
 unfold IC at hs
 split at hs
 ·rename_i k m k' n heq uu
  rw [heq] at hx; rw [uu] at hy
  have ex := WV hx
  have ey := WV hy
  obtain ⟨d, rfl, val, hr, hd⟩ := Is (P := P) (t := T) hs.1 hs.2 w
  refine ⟨val, ?_, hd _ _⟩
  simp only [execOp, wA, ex, ey, Sem.run_bind, z6 op T x y (v := .int k m) (u := .int k' n) (by simp) (by simp), Result.andThen_ok, hr, Sem.run_pure]
 ·rename_i m n heq uu
  rw [heq] at hx; rw [uu] at hy
  have ex := VT hx
  have ey := VT hy
  obtain ⟨d, rfl, val, hr, hd⟩ := HB (P := P) (t := T) hs w
  refine ⟨val, ?_, hd _ _⟩
  simp only [execOp, wA, ex, ey, Sem.run_bind, z6 op T x y (v := .string m) (u := .string n) (by simp) (by simp), Result.andThen_ok, hr, Sem.run_pure]
 ·rename_i m n heq uu
  rw [heq] at hx; rw [uu] at hy
  have ex := yG hx
  have ey := yG hy
  obtain ⟨d, rfl, val, hr, hd⟩ := L0 (P := P) (t := T) hs.1 hs.2 w
  refine ⟨val, ?_, hd _ _⟩
  simp only [execOp, wA, ex, ey, Sem.run_bind, z6 op T x y (v := .bool m) (u := .bool n) (by simp) (by simp), Result.andThen_ok, hr, Sem.run_pure]
 ·rename_i xs ys heq uu
  rw [heq] at hx; rw [uu] at hy
  obtain ⟨wb, q, hq, hs⟩ := hs
  obtain ⟨h1, h2, h3⟩ := GO (P := P) wb hq hx hy op x y w
  rcases hs with ⟨rfl, rfl⟩ | ⟨rfl, rfl⟩
  ·exact ⟨.bool q, by simp only [execOp, wA, Sem.run_bind, h1, Result.andThen_ok, h2, Sem.run_pure], .bool _⟩
  ·exact ⟨.bool (!q), by simp only [execOp, wA, Sem.run_bind, h1, Result.andThen_ok, h3, Sem.run_pure], .bool _⟩
 ·exact hs.elim
theorem FO (r : Rel T0 B σ a w X h) {o : Oper} {op : UnOp} {T : TypeId} {x : Operand} {v : V} (wA : o.op = .unOp op T x) (hs : Z1 P σ o.op o.type v) :
  ∃ val, (execOp a.eval o).run P w = .ok (.value val) w /\ XW (Tof T0 X) h σ.ob w v val := by
 simp only [wA, Z1] at hs
 obtain ⟨hg, hs⟩ := hs
 have hx := r.arg (P := P) 0 x rfl hg
 split at hs
 ·rename_i b heq
  rw [heq] at hx
  subst hs
  have he := yG hx
  exact ⟨.bool (!b), by simp [execOp, wA, he, Op.unary], .bool _⟩
 ·rename_i k n heq
  rw [heq] at hx
  subst hs
  have he := WV hx
  exact ⟨.int k (k.wrap (-n)), by simp [execOp, wA, he, Op.unary, Op.intArith], .int _ _⟩
 ·exact hs.elim
theorem O4 (r : Rel T0 B σ a w X h) {o : Oper} {S T : TypeId} {x : Operand} {v : V} (wA : o.op = .convert S T x) (hS : (P.underlying S).isSome = true) (hs : Z1 P σ o.op o.type v) :
  ∃ val, (execOp a.eval o).run P w = .ok (.value val) w /\ XW (Tof T0 X) h σ.ob w v val := by
 simp only [wA, Z1] at hs
 obtain ⟨hg, _, hs⟩ := hs
 have hx := r.arg (P := P) 0 x rfl hg
 split at hs
 ·rename_i k' n heq
  rw [heq] at hx
  obtain ⟨k, hk, rfl⟩ := hs
  have he := WV hx
  obtain ⟨d, hd⟩ := Option.isSome_iff_exists.1 hS
  exact ⟨.int k (k.wrap n), by simp [execOp, wA, he, convert, run_underlying hd, run_underlying (Pc hk), Conv.intToInt], .int _ _⟩
 ·exact hs.elim
theorem Of (r : Rel T0 B σ a w X h) {o : Oper} {x : Operand} {i : Nat} {v : V} (wA : o.op = .extract x i) (hs : Z1 P σ o.op o.type v) :
  ∃ val, (execOp a.eval o).run P w = .ok (.value val) w /\ XW (Tof T0 X) h σ.ob w v val := by
 simp only [wA, Z1] at hs
 obtain ⟨hg, hs⟩ := hs
 have hx := r.arg (P := P) 0 x rfl hg
 split at hs
 ·rename_i xs heq
  rw [heq] at hx
  obtain ⟨vs, he, wG⟩ := hx
  obtain ⟨val, uW, hr⟩ := wG.get i v hs.1
  have : vs[i]? = some val := by simpa using uW
  exact ⟨val, by simp [execOp, wA, he, Instr.extract, this], hr.up⟩
 ·exact hs.elim
theorem LR (r : Rel T0 B σ a w X h) {o : Oper} {c : Call} {v : V} (wA : o.op = .call c) (hs : Z1 P σ o.op o.type v) :
  ∃ val, (execOp a.eval o).run P w = .ok (.value val) w /\ XW (Tof T0 X) h σ.ob w v val := by
 simp only [wA, Z1] at hs
 obtain ⟨callee, args, argTypes⟩ := c
 simp only at hs
 split at hs
 ·rename_i x t ha ht
  obtain rfl : args = #[x] := by apply Array.toList_inj.1; simpa using ha
  obtain rfl : argTypes = #[t] := by apply Array.toList_inj.1; simpa using ht
  obtain ⟨hg, hs⟩ := hs
  have hx := r.arg (P := P) t x rfl hg
  split at hs
  ·rename_i s heq
   rw [heq] at hx
   obtain ⟨wa, rfl⟩ := hs
   have he := VT hx
   exact ⟨.int .i64 s.size, by simp [execOp, wA, resolve, invoke, builtin, he, Builtin.len_, run_underlying (zK wa), goInt], .int _ _⟩
  ·rename_i size rows heq
   rw [heq] at hx
   obtain ⟨wa, rfl⟩ := hs
   obtain ⟨ti, hu, _, _⟩ := Y8 wa
   obtain ⟨base, cap, he, _, _⟩ := HJ (show Rd _ _ _ _ from hx)
   exact ⟨.int .i64 rows.length, by simp [execOp, wA, resolve, invoke, builtin, he, Builtin.len_, run_underlying hu, goInt], .int _ _⟩
  ·rename_i size heq
   rw [heq] at hx
   obtain ⟨wa, rfl⟩ := hs
   obtain ⟨ti, hu, _, _⟩ := Y8 wa
   have he : a.eval x = .slice none 0 0 := hx
   exact ⟨.int .i64 0, by simp [execOp, wA, resolve, invoke, builtin, he, Builtin.len_, run_underlying hu, goInt], .int _ _⟩
  ·rename_i u j lo len heq
   rw [heq] at hx
   obtain ⟨wa, ho, rfl⟩ := hs
   obtain ⟨ti, hu, _, _⟩ := Y8 wa
   have rG : ∃ base cap, a.eval x = .slice base len cap := by
    rcases ho with ⟨q, size, rows, ho⟩ | ⟨size, rows, ho⟩
    ·obtain ⟨_, _, _, base, cap, he, _, _, _, _⟩ := hx.2.1 _ _ _ ho
     exact ⟨base, cap, he⟩
    ·obtain ⟨_, _, _, base, cap, he, _, _, _, _⟩ := hx.2.2 _ _ ho
     exact ⟨base, cap, he⟩
   obtain ⟨base, cap, he⟩ := rG
   exact ⟨.int .i64 len, by simp [execOp, wA, resolve, invoke, builtin, he, Builtin.len_, run_underlying hu, goInt], .int _ _⟩
  ·rename_i u j i c heq
   rw [heq] at hx
   obtain ⟨wa, size, rows, n, s, ho, hi, wM, rfl⟩ := hs
   obtain ⟨ti, hu, _, _⟩ := Y8 wa
   obtain ⟨v0, S, hn, wL⟩ := r.nest ho hi wM
   have pO : a.eval x = _ := hx.2 _ _ ho
   rw [hn] at pO
   have he : ∃ base cap, a.eval x = .slice base s.length cap := by
    rw [pO]
    cases wL with
    | sl v size rows S e xs Sk tH hz hb hl hk hs hd =>
     rcases tH.2 with ⟨rfl, h0⟩ | ⟨g, cap, cur, rfl, _⟩
     ·exact ⟨none, 0, by rw [h0]⟩
     ·exact ⟨_, cap, rfl⟩
   obtain ⟨base, cap, he⟩ := he
   exact ⟨.int .i64 s.length, by simp [execOp, wA, resolve, invoke, builtin, he, Builtin.len_, run_underlying hu, goInt], .int _ _⟩
  ·exact hs.elim
 ·rename_i x y ha
  obtain rfl : args = #[x, y] := by apply Array.toList_inj.1; simpa using ha
  obtain ⟨k, m, n, hx, hy, rfl⟩ := hs
  have ex := KW r hx
  have ey := KW r hy
  exact ⟨.int k (if n > m then n else m), by simp [execOp, wA, resolve, invoke, builtin, ex, ey, Builtin.max_, Builtin.max2], .int _ _⟩
 ·rename_i x y ha
  obtain rfl : args = #[x, y] := by apply Array.toList_inj.1; simpa using ha
  obtain ⟨k, m, n, hx, hy, rfl⟩ := hs
  have ex := KW r hx
  have ey := KW r hy
  exact ⟨.int k (if n < m then n else m), by simp [execOp, wA, resolve, invoke, builtin, ex, ey, Builtin.min_, Builtin.min2], .int _ _⟩
 ·exact hs.elim
theorem RO (r : Rel T0 B σ a w X h) {o : Oper} {v : V} (hs : Z1 P σ o.op o.type v) :
  ∃ val, (execOp a.eval o).run P w = .ok (.value val) w /\ XW (Tof T0 X) h σ.ob w v val := by
 cases wA : o.op with
 | move x => exact Pw r (.inl wA) hs
 | assign x => exact Pw r (.inr wA) hs
 | pick c x y => exact Ic r wA hs
 | load T x => exact IU r wA hs
 | fieldAddr T x f => exact RU r wA hs
 | nilCheck x => exact OZ r wA hs
 | indexAddr T x i => exact R3 r wA hs
 | index T x i => exact IK r wA hs
 | field T x f => exact LL r wA hs
 | slice T x lo hi m =>
  cases m with
  | none => exact LJ r wA hs
  | some m => rw [wA] at hs; exact hs.elim
 | binOp op T x y T' => exact Hy r wA hs
 | unOp op T x => exact FO r wA hs
 | convert S T x => rw [wA] at hs; exact O4 r wA hs.2.1 (by rw [wA]; exact hs)
 | extract x i => exact Of r wA hs
 | call c => exact LR r wA hs
 | build T ps => exact LD r wA hs
 | _ => rw [wA] at hs; exact hs.elim
end
end Go.Vm
namespace Go.Vm
def At.ref (d : Nat) : At -> Bool
 | .sref t _ _ _ => t == d
 | .ptr t _ _ _ => t == d
 | .bptr t _ => t == d
 | .fn _ t => t == d
 | .tref t _ _ _ _ => t == d
 | _ => false
def Zw (d : Nat) : List At -> Bool
 | [] => false
 | x :: xs => x.ref d || Zw d xs
def V.Tw (d : Nat) : V -> Bool
 | .one x => x.ref d
 | .agg xs => Zw d xs
 | _ => false
def kh (d : Nat) : List V -> Bool
 | [] => false
 | x :: xs => x.Tw d || kh d xs
def V.ref (d : Nat) : V -> Bool
 | .tup xs => kh d xs
 | .cnd _ x => x.Tw d || (match x with | .tup xs => kh d xs | _ => false)
 | .one x => x.ref d
 | .agg xs => Zw d xs
 | .fix _ x => x.Tw d || (match x with | .tup xs => kh d xs | _ => false)
 | .any => false
def YH (d : Nat) : List Ob -> Bool
 | [] => false
 | .box cells :: os => Zw d cells || YH d os
 | .lit _ rows :: os => Zw d rows.flatten || YH d os
 | _ :: os => YH d os
def JU (d : Nat) : Nat -> St -> Bool
 | _, [] => true
 | k, e :: σ => (k == d || (!e.1.ref d && !YH d e.2)) && JU d (k + 1) σ
def St.fresh (σ : St) (d : Nat) : Bool := decide (d < σ.length) && JU d 0 σ
theorem Jv {d : Nat} : ∀ {σ : St} {k : Nat}, JU d k σ = true -> ∀ t e, σ[t]? = some e -> k + t ≠ d -> e.1.ref d = false /\ YH d e.2 = false
 | [], _, _, t, e, he, _ => by simp at he
 | e0 :: σ, k, hf, t, e, he, wC => by
  simp only [JU, Bool.and_eq_true, Bool.or_eq_true, beq_iff_eq, Bool.not_eq_true'] at hf
  cases t with
  | zero =>
   simp at he; subst he
   rcases hf.1 with h | h
   ·omega
   ·exact h
  | succ t => exact Jv hf.2 t e (by simpa using he) (by omega)
theorem St.Hr {σ : St} {d : Nat} (hf : σ.fresh d = true) (t : Nat) (wC : t ≠ d) : (σ.get t).ref d = false := by
 simp only [St.fresh, Bool.and_eq_true] at hf
 unfold St.get
 cases he : σ[t]? with
 | none => rfl
 | some e => exact (Jv hf.2 t e he (by omega)).1
theorem Nl {d : Nat} : ∀ {os : List Ob}, YH d os = false -> ∀ j cells, YB os j = .box cells -> Zw d cells = false
 | [], _, j, cells, h => by simp [YB] at h
 | o :: os, hr, j, cells, h => by
  cases j with
  | zero =>
   simp [YB] at h; subst h
   simp [YH] at hr; exact hr.1
  | succ j =>
   have : YB os j = .box cells := by simpa [YB] using h
   refine Nl (os := os) ?_ j cells this
   cases o <;> simp_all [YH]
theorem Pp {d : Nat} : ∀ {os : List Ob}, YH d os = false -> ∀ j size rows, YB os j = .lit size rows -> Zw d rows.flatten = false
 | [], _, j, _, _, h => by simp [YB] at h
 | o :: os, hr, j, size, rows, h => by
  cases j with
  | zero =>
   simp [YB] at h; subst h
   simp [YH] at hr; exact hr.1
  | succ j =>
   have : YB os j = .lit size rows := by simpa [YB] using h
   refine Pp (os := os) ?_ j size rows this
   cases o <;> simp_all [YH]
theorem St.GH {σ : St} {d : Nat} (hf : σ.fresh d = true) (t j : Nat) (wC : t ≠ d) (size : Nat) (rows : List (List At)) (ho : σ.ob t j = .lit size rows) : Zw d rows.flatten = false := by
 simp only [St.fresh, Bool.and_eq_true] at hf
 unfold St.ob at ho
 cases he : σ[t]? with
 | none => rw [he] at ho; cases ho
 | some e => rw [he] at ho; exact Pp (Jv hf.2 t e he (by omega)).2 j size rows ho
theorem St.Gw {σ : St} {d : Nat} (hf : σ.fresh d = true) (t j : Nat) (wC : t ≠ d) (cells : List At) (ho : σ.ob t j = .box cells) : Zw d cells = false := by
 simp only [St.fresh, Bool.and_eq_true] at hf
 unfold St.ob at ho
 cases he : σ[t]? with
 | none => rw [he] at ho; cases ho
 | some e => rw [he] at ho; exact Nl (Jv hf.2 t e he (by omega)).2 j cells ho
theorem St.Jr {σ : St} {d : Nat} (hf : σ.fresh d = true) : d < σ.length := by
 simp only [St.fresh, Bool.and_eq_true, decide_eq_true_eq] at hf; exact hf.1
def Cpt (h h' : Nat -> Nat -> Hd) (ob vn : Nat -> Nat -> Ob) (t j : Nat) : Prop :=
 (∀ q size rows, vn t j = .arr q size rows -> h' t j = h t j /\ ∃ wR, ob t j = .arr q size wR /\ wR.length = rows.length) /\
 (∀ size rows, vn t j = .lit size rows -> h' t j = h t j /\ ∃ wR, ob t j = .lit size wR /\ wR.length = rows.length) /\
 (∀ cells, vn t j = .box cells -> h' t j = h t j /\ ∃ vP, ob t j = .box vP)
theorem Cpt.same {h h' : Nat -> Nat -> Hd} {ob vn : Nat -> Nat -> Ob} {t j : Nat} (hh : h' t j = h t j) (ho : vn t j = ob t j) : Cpt h h' ob vn t j :=
 ⟨fun q size rows e => ⟨hh, rows, by rw [<- ho]; exact e, rfl⟩, fun size rows e => ⟨hh, rows, by rw [<- ho]; exact e, rfl⟩, fun cells e => ⟨hh, cells, by rw [<- ho]; exact e⟩⟩
section
variable {T T' : CS} {h h' : Nat -> Nat -> Hd} {ob vn : Nat -> Nat -> Ob} {w w' : World} {d : Nat}
theorem Zr.carry (hT : ∀ b k v, T b k -> w.cell? ⟨b, k, none⟩ = some v -> w'.cell? ⟨b, k, none⟩ = some v /\ T' b k) (hc : ∀ t j, t ≠ d -> Cpt h h' ob vn t j)
  {x : At} {v : Value} (hx : x.ref d = false) (r : Zr T h ob w x v) : Zr T' h' vn w' x v := by
 cases x with
 | any => exact r
 | d x => exact Rd.mono hT r
 | nil s => exact r
 | sref t j lo len =>
  have ht : t ≠ d := by simpa [At.ref] using hx
  refine ⟨r.1, fun q size rows ho => ?_, fun size rows ho => ?_⟩
  ·obtain ⟨hh, wR, vA, hl⟩ := (hc t j ht).1 q size rows ho
   rw [hh, <- hl]; exact r.2.1 q size wR vA
  ·obtain ⟨hh, wR, vA, hl⟩ := (hc t j ht).2.1 size rows ho
   rw [hh, <- hl]; exact r.2.2 size wR vA
 | ptr t j i c =>
  have ht : t ≠ d := by simpa [At.ref] using hx
  refine ⟨r.1, fun q size rows ho => ?_⟩
  obtain ⟨hh, wR, vA, hl⟩ := (hc t j ht).1 q size rows ho
  rw [hh]; exact r.2 q size wR vA
 | bptr t c =>
  have ht : t ≠ d := by simpa [At.ref] using hx
  refine ⟨r.1, fun cells ho => ?_⟩
  obtain ⟨hh, vP, vA⟩ := (hc t 0 ht).2.2 cells ho
  rw [hh]; exact r.2 vP vA
 | fn f t =>
  have ht : t ≠ d := by simpa [At.ref] using hx
  refine ⟨r.1, fun cells ho => ?_⟩
  obtain ⟨hh, vP, vA⟩ := (hc t 0 ht).2.2 cells ho
  rw [hh]; exact r.2 vP vA
 | tref t j i c o =>
  have ht : t ≠ d := by simpa [At.ref] using hx
  refine ⟨r.1, fun size rows ho => ?_⟩
  obtain ⟨hh, wR, vA, hl⟩ := (hc t j ht).1 true size rows ho
  rw [hh]; exact r.2 size wR vA
 | rptr rr c =>
  obtain ⟨b, off, g, e, hk⟩ := r
  exact ⟨b, off, g, e, fun k d hd => ⟨(hT _ _ _ (hk k d hd).2.1 (hk k d hd).1).1, (hT _ _ _ (hk k d hd).2.1 (hk k d hd).1).2, Rd.mono hT (hk k d hd).2.2⟩⟩
theorem qL (hT : ∀ b k v, T b k -> w.cell? ⟨b, k, none⟩ = some v -> w'.cell? ⟨b, k, none⟩ = some v /\ T' b k) (hc : ∀ t j, t ≠ d -> Cpt h h' ob vn t j)
  {xs : List At} {vs : List Value} (hx : Zw d xs = false) (r : Zg (Zr T h ob w) xs vs) : Zg (Zr T' h' vn w') xs vs := by
 induction r with
 | nil => exact .nil
 | cons r _ ih =>
  simp only [Zw, Bool.or_eq_false_iff] at hx
  exact .cons (Zr.carry hT hc hx.1 r) (ih hx.2)
theorem QV.carry (hT : ∀ b k v, T b k -> w.cell? ⟨b, k, none⟩ = some v -> w'.cell? ⟨b, k, none⟩ = some v /\ T' b k) (hc : ∀ t j, t ≠ d -> Cpt h h' ob vn t j)
  {x : V} {v : Value} (hx : x.Tw d = false) (r : QV T h ob w x v) : QV T' h' vn w' x v := by
 cases x with
 | any => exact r
 | one x => exact Zr.carry hT hc hx r
 | agg xs => obtain ⟨cs, e, r⟩ := r; exact ⟨cs, e, qL hT hc hx r⟩
 | tup xs => exact r.elim
 | cnd g x => exact r.elim
 | fix u x => exact r.elim
theorem XW.carry (hT : ∀ b k v, T b k -> w.cell? ⟨b, k, none⟩ = some v -> w'.cell? ⟨b, k, none⟩ = some v /\ T' b k) (hc : ∀ t j, t ≠ d -> Cpt h h' ob vn t j)
  {x : V} {v : Value} (hx : x.ref d = false) (r : XW T h ob w x v) : XW T' h' vn w' x v := by
 cases x with
 | any => exact r
 | one x => exact Zr.carry hT hc hx r
 | agg xs => obtain ⟨cs, e, r⟩ := r; exact ⟨cs, e, qL hT hc hx r⟩
 | tup xs =>
  obtain ⟨vs, e, r⟩ := r
  refine ⟨vs, e, ?_⟩
  clear e
  generalize vs.toList = vl at r
  simp only [V.ref] at hx
  induction r with
  | nil => exact .nil
  | cons r _ ih =>
   simp only [kh, Bool.or_eq_false_iff] at hx
   exact .cons (QV.carry hT hc hx.1 r) (ih hx.2)
 | cnd g x =>
  simp only [V.ref, Bool.or_eq_false_iff] at hx
  exact ⟨fun hg => QV.carry hT hc hx.1 (r.1 hg), r.2⟩
 | fix u x =>
  simp only [V.ref, Bool.or_eq_false_iff] at hx
  exact ⟨r.1, QV.carry hT hc hx.1 r.2⟩
end
section
variable {P : Program} {T0 : CS} {B : Nat -> Prop} {σ : St} {a : Act} {w w' : World} {X X' : Nat -> Prop} {h : Nat -> Nat -> Hd}
theorem Rel.Tlt (r : Rel T0 B σ a w X h) {b k : Nat} (hb : Tof T0 X b k) : b < w.heap.size := by
 rcases hb with hb | hb
 ·exact r.hB b (r.hT b k hb)
 ·exact (r.hX b hb).2
theorem Kw {e : TypeId} {size n : Nat} {v : Value} {xs : List Value} (hb : ∀ b, blk v = some b -> w'.heap[b]? = w.heap[b]?) (ho : w.ownsRow 0 e size v n xs) : w'.ownsRow 0 e size v n xs := by
 refine ⟨ho.1, ?_⟩
 rcases ho.2 with hn | ⟨g, cap, cur, rfl, h0, hg, rest⟩
 ·exact .inl hn
 ·exact .inr ⟨g, cap, cur, rfl, h0, by rw [hb g rfl]; exact hg, rest⟩
theorem Own.SP {v : Value} {d : D} {S : Nat -> Prop} (hb : ∀ b, S b -> w'.heap[b]? = w.heap[b]?) (ho : Own w v d S) : Own w' v d S := by
 induction ho with
 | int k n S => exact .int k n S
 | bool b S => exact .bool b S
 | str s S => exact .str s S
 | unk v h S => exact .unk v h S
 | sl v size rows S e xs Sk ho hz wW hl hk hs hd ih =>
  exact .sl v size rows S e xs Sk (Kw (fun b h => hb b (wW b h)) ho) hz wW hl (fun k x d hx wQ => ih k x d hx wQ (fun b h => hb b (hs k b h).1)) hs hd
theorem Own.mono {v : Value} {d : D} {S S' : Nat -> Prop} (hS : ∀ b, S b -> S' b) (ho : Own w v d S) : Own w v d S' := by
 cases ho with
 | int k n S => exact .int k n S'
 | bool b S => exact .bool b S'
 | str s S => exact .str s S'
 | unk v h S => exact .unk v h S'
 | sl v size rows S e xs Sk ho hz wW hl hk hs hd => exact .sl v size rows S' e xs Sk ho hz (fun b h => hS b (wW b h)) hl hk (fun k b h => ⟨hS b (hs k b h).1, (hs k b h).2⟩) hd
theorem QU.SP {xs : List Value} {ds : List D} {S : Nat -> Prop} (hb : ∀ b, S b -> w'.heap[b]? = w.heap[b]?) (ho : QU w xs ds S) : QU w' xs ds S := by
 obtain ⟨hl, Sk, h1, h2, h3⟩ := ho
 exact ⟨hl, Sk, fun k x d hx hd => (h1 k x d hx hd).SP (fun b h => hb b (h2 k b h)), h2, h3⟩
theorem X6.SP {T T' : CS} {h h' : Nat -> Nat -> Hd} {ob vn : Nat -> Nat -> Ob} {d : Nat} {hd : Hd} {o : Ob}
  (hT : ∀ b k v, T b k -> w.cell? ⟨b, k, none⟩ = some v -> w'.cell? ⟨b, k, none⟩ = some v /\ T' b k) (hc : ∀ t j, t ≠ d -> Cpt h h' ob vn t j)
  (vN : o ≠ .none -> ∀ b, blk hd.v = some b -> hd.u b) (hb : o ≠ .none -> ∀ b, hd.u b -> w'.heap[b]? = w.heap[b]?) (hr : YH d [o] = false) (r : X6 T h ob w hd o) : X6 T' h' vn w' hd o := by
 cases o with
 | none => trivial
 | box cells =>
  obtain ⟨b, cs, e, hv, hh, wG⟩ := r
  simp only [YH, Bool.or_false] at hr
  exact ⟨b, cs, e, hv, by rw [hb (by simp) b (vN (by simp) b (by rw [hv]; rfl))]; exact hh, qL hT hc hr wG⟩
 | arr q size rows =>
  have hk : ∀ {e : TypeId} {n : Nat} {xs : List Value}, w.ownsRow 0 e size hd.v n xs -> w'.ownsRow 0 e size hd.v n xs := fun ho => Kw (fun b h => hb (by simp) b (vN (by simp) b h)) ho
  cases q with
  | false =>
   obtain ⟨e, xs, ho, hz, wG⟩ := r
   exact ⟨e, xs, hk ho, hz, wG.imp fun _ _ => Rd.mono hT⟩
  | true =>
   obtain ⟨e, xs, ho, hz, wG, hn⟩ := r
   exact ⟨e, xs, hk ho, hz, wG.SP (fun b h => hb (by simp) b h.1), hn⟩
 | lit size rows =>
  obtain ⟨e, xs, ho, hz, wG⟩ := r
  simp only [YH, Bool.or_false] at hr
  exact ⟨e, xs, Kw (fun b h => hb (by simp) b (vN (by simp) b h)) ho, hz, qL hT hc hr wG⟩
theorem St.Hn {σ : St} {d : Nat} (hf : σ.fresh d = true) (t j : Nat) (wC : t ≠ d) : YH d [σ.ob t j] = false := by
 cases ho : σ.ob t j with
 | none => rfl
 | box cells => simp [YH, St.Gw hf t j wC cells ho]
 | arr q size rows => rfl
 | lit size rows => simp only [YH, St.GH hf t j wC size rows ho, Bool.or_false]
theorem Rel.F8 (r : Rel T0 B σ a w X h) {d : Nat} (hf : σ.fresh d = true) (M : Nat -> Prop) (vK : w.heap.size <= w'.heap.size) (hg : ∀ k, k < w.heap.size -> ¬ M k -> w'.heap[k]? = w.heap[k]?)
  (hm : ∀ b, M b -> ¬ B b /\ ¬ X b /\ ∀ t j, t ≠ d -> σ.ob t j ≠ .none -> ¬ (h t j).u b) (hX : ∀ b, X b -> X' b) (sy : ∀ b, X' b -> X b \/ (w.heap.size <= b /\ b < w'.heap.size))
  (v : V) (val : Value) (os : List Ob) (hd : Nat -> Hd)
  (hv : XW (Tof T0 X') (fun t j => if t = d then hd j else h t j) (σ.new d v os).ob w' v val)
  (nC : ∀ j, X6 (Tof T0 X') (fun t j => if t = d then hd j else h t j) (σ.new d v os).ob w' (hd j) (YB os j))
  (vN : ∀ j b, YB os j ≠ .none -> blk (hd j).v = some b -> (hd j).u b)
  (wL : ∀ j b, YB os j ≠ .none -> (hd j).u b -> (w.heap.size <= b \/ M b) /\ ¬ X' b /\ b < w'.heap.size)
  (rE : ∀ j j' b, YB os j ≠ .none -> YB os j' ≠ .none -> (hd j).u b -> (hd j').u b -> j = j') :
  Rel T0 B (σ.new d v os) (a.put (some d) val) w' X' (fun t j => if t = d then hd j else h t j) := by
 have wN := St.Jr hf
 have gF : ∀ b k, Tof T0 X b k -> ¬ M b := by
  intro b k hb mI
  rcases hb with hb | hb
  ·exact (hm b mI).1 (r.hT b k hb)
  ·exact (hm b mI).2.1 hb
 have hT : ∀ b k v, Tof T0 X b k -> w.cell? ⟨b, k, none⟩ = some v -> w'.cell? ⟨b, k, none⟩ = some v /\ Tof T0 X' b k := by
  intro b k v hb wM
  refine ⟨?_, hb.imp id (hX b)⟩
  rw [World.cell?_of_block (hg b (r.Tlt hb) (gF b k hb))]; exact wM
 have hc : ∀ t j, t ≠ d -> Cpt h (fun t j => if t = d then hd j else h t j) σ.ob (σ.new d v os).ob t j := by
  intro t j wC
  have he : (σ.new d v os).ob t j = σ.ob t j := by rw [St.X7, if_neg (fun hh => wC hh.1)]
  exact Cpt.same (by simp [wC]) he
 refine ⟨by simp [Act.put, r.size, St.yy], r.defers, fun b hb => Nat.lt_of_lt_of_le (r.hB b hb) vK, fun b hb => ?_, r.hT, fun t ht => ?_, fun t j => ?_, fun t j b ho hb => ?_, fun t j b ho hb => ?_, fun t j t' j' b ho wX hb wW => ?_⟩
 ·rcases sy b hb with hb | hb
  ·have := r.hX b hb; exact ⟨this.1, by omega⟩
  ·exact ⟨fun uD => by have := r.hB b uD; omega, hb.2⟩
 ·rw [St.yy] at ht
  rw [St.xp]
  by_cases wQ : t = d
  ·subst wQ
   simp only [wN, and_self, if_true]
   have : (a.tmps.setIfInBounds t val).getD t undef = val := by simp [r.size, wN]
   simp only [Act.put, this]; exact hv
  ·rw [if_neg (fun hh => wQ hh.1)]
   have : (a.tmps.setIfInBounds d val).getD t undef = a.tmps.getD t undef := by simp [Array.getElem?_setIfInBounds_ne (Ne.symm wQ)]
   simp only [Act.put, this]
   exact XW.carry hT hc (St.Hr hf t wQ) (r.slot t ht)
 ·rw [St.X7]
  by_cases wQ : t = d
  ·subst wQ
   simp only [wN, and_self, if_true]; exact nC j
  ·have wC : ¬ (t = d /\ d < σ.length) := fun hh => wQ hh.1
   rw [if_neg wC]
   simp only [if_neg wQ]
   exact X6.SP hT hc (fun ho b => r.ub t j b ho) (fun ho b hu => hg b (r.own t j b ho hu).2.2 (fun mI => (hm b mI).2.2 t j wQ ho hu)) (St.Hn hf t j wQ) (r.obj t j)
 ·rw [St.X7] at ho
  by_cases wQ : t = d
  ·subst wQ
   simp only [wN, and_self, if_true] at ho hb ⊢
   exact vN j b ho hb
  ·rw [if_neg (fun hh => wQ hh.1)] at ho
   simp only [wQ, if_false] at hb ⊢
   exact r.ub t j b ho hb
 ·rw [St.X7] at ho
  by_cases wQ : t = d
  ·subst wQ
   simp only [wN, and_self, if_true] at ho hb
   have h1 := wL j b ho hb
   refine ⟨?_, h1.2.1, h1.2.2⟩
   rcases h1.1 with h2 | h2
   ·exact fun uD => by have := r.hB b uD; omega
   ·exact (hm b h2).1
  ·rw [if_neg (fun hh => wQ hh.1)] at ho
   simp only [wQ, if_false] at hb
   have := r.own t j b ho hb
   refine ⟨this.1, fun hx => ?_, by omega⟩
   rcases sy b hx with hx | hx
   ·exact this.2.1 hx
   ·omega
 ·rw [St.X7] at ho wX
  by_cases hd1 : t = d
  ·by_cases th : t' = d
   ·subst hd1; subst th
    simp only [wN, and_self, if_true] at ho hb wX wW
    exact ⟨rfl, rE j j' b ho wX hb wW⟩
   ·subst hd1
    simp only [wN, and_self, if_true] at ho hb
    rw [if_neg (fun hh => th hh.1)] at wX
    simp only [th, if_false] at wW
    have h1 := wL j b ho hb
    have h2 := r.own t' j' b wX wW
    rcases h1.1 with h3 | h3
    ·omega
    ·exact absurd wW ((hm b h3).2.2 t' j' th wX)
  ·by_cases th : t' = d
   ·subst th
    simp only [wN, and_self, if_true] at wX wW
    rw [if_neg (fun hh => hd1 hh.1)] at ho
    simp only [hd1, if_false] at hb
    have h1 := wL j' b wX wW
    have h2 := r.own t j b ho hb
    rcases h1.1 with h3 | h3
    ·omega
    ·exact absurd hb ((hm b h3).2.2 t j hd1 ho)
   ·rw [if_neg (fun hh => hd1 hh.1)] at ho
    rw [if_neg (fun hh => th hh.1)] at wX
    simp only [hd1, th, if_false] at hb wW
    exact r.inj t j t' j' b ho wX hb wW
theorem Rel.new (r : Rel T0 B σ a w X h) {d : Nat} (hf : σ.fresh d = true) (hg : w.grownBy w' none) (hX : ∀ b, X b -> X' b) (sy : ∀ b, X' b -> X b \/ (w.heap.size <= b /\ b < w'.heap.size))
  (v : V) (val : Value) (os : List Ob) (hd : Nat -> Hd)
  (hv : XW (Tof T0 X') (fun t j => if t = d then hd j else h t j) (σ.new d v os).ob w' v val)
  (nC : ∀ j, X6 (Tof T0 X') (fun t j => if t = d then hd j else h t j) (σ.new d v os).ob w' (hd j) (YB os j))
  (vN : ∀ j b, YB os j ≠ .none -> blk (hd j).v = some b -> (hd j).u b)
  (wL : ∀ j b, YB os j ≠ .none -> (hd j).u b -> w.heap.size <= b /\ ¬ X' b /\ b < w'.heap.size)
  (rE : ∀ j j' b, YB os j ≠ .none -> YB os j' ≠ .none -> (hd j).u b -> (hd j').u b -> j = j') :
  Rel T0 B (σ.new d v os) (a.put (some d) val) w' X' (fun t j => if t = d then hd j else h t j) :=
 r.F8 hf (fun _ => False) hg.size (fun k hk _ => hg.block k hk (by simp)) (fun _ hh => hh.elim) hX sy v val os hd hv nC vN (fun j b h1 h2 => ⟨.inl (wL j b h1 h2).1, (wL j b h1 h2).2⟩) rE
end
end Go.Vm
namespace Go.Vm
open Go.RowKit
def JI (v : Value) (cs : List Value) : Prop := (∃ c, cs = [c] /\ v = c /\ c.oneCell' = true) \/ (cs.length ≠ 1 /\ v = .agg cs.toArray)
def Vr : List Value -> Value
 | [v] => v
 | vs => .tuple vs.toArray
def X0 (T : CS) (w : World) (v : Value) : D -> Prop
 | .sl size rows => ∃ e xs, w.ownsRow 0 e size v rows.length xs /\ (∀ r ∈ rows, r.length = size) /\ Zg (Rd T w) xs rows.flatten
 | d => Rd T w v d
def Ki (own : Bool) (T : CS) (w : World) (v : Value) (d : D) : Prop := if own then X0 T w v d else Rd T w v d
def kJ (P : Program) (f : FuncId) : Bool :=
 match P.funcs[f]? with
 | some fn => fn.body.isSome && fn.name != "runtime.NumGoroutine"
 | none => false
def DF (B N : Nat) (Y : Nat -> Prop) (cs : List Value) (ds : List D) : Prop :=
 (∀ (i : Nat) (c : Value) (d : D) (b : Nat), cs[i]? = some c -> ds[i]? = some d -> d.scalar = false -> blk c = some b -> B <= b /\ b < N /\ ¬ Y b) /\
 (∀ (i j : Nat) (c c' : Value) (d d' : D) (b : Nat), cs[i]? = some c -> ds[i]? = some d -> cs[j]? = some c' -> ds[j]? = some d' -> d.scalar = false -> d'.scalar = false -> blk c = some b -> blk c' = some b -> i = j)
def DW (own : Bool) (T : CS) (w : World) (res : List (List D)) (e : Ending) (w' : World) : Prop :=
 ∃ (vs : List Value) (wc : List (List Value)) (Y : Nat -> Prop), e = .returned (Vr vs) /\ Below w.heap.size w w' /\ (∀ b, Y b -> w.heap.size <= b /\ b < w'.heap.size) /\
  Zg JI vs wc /\ Zg (fun cs row => Zg (Ki own (Tof T Y) w') cs row) wc res /\ (own = true -> DF w.heap.size w'.heap.size Y wc.flatten res.flatten)
def Xk (P : Program) (f : FuncId) (own : Bool) (args res : List (List D)) : Prop :=
 kJ P f = true /\ ∀ (T : CS) (w : World) (wq : List Value), (∀ b k, T b k -> b < w.heap.size) -> Zg (fun v row => ∃ cs, JI v cs /\ Zg (Rd T w) cs row) wq args ->
  Calls P f wq.toArray w (DW own T w res)
def vOf : List At -> V
 | [x] => .one x
 | xs => .agg xs
def QJ (t : Nat) : Nat -> List D -> List At
 | _, [] => []
 | k, .sl _ rows :: ds => .sref t k 0 rows.length :: QJ t (k + 1) ds
 | k, d :: ds => .d d :: QJ t (k + 1) ds
def zI : List D -> List Ob
 | [] => []
 | .sl size rows :: ds => .arr false size rows :: zI ds
 | _ :: ds => .none :: zI ds
def NQ (t : Nat) : Nat -> List (List D) -> List V
 | _, [] => []
 | k, r :: rs => vOf (QJ t k r) :: NQ t (k + r.length) rs
def xZ (t : Nat) : List (List D) -> V
 | [r] => vOf (QJ t 0 r)
 | rs => .tup (NQ t 0 rs)
def Kx : List (List D) -> V
 | [r] => vOf (r.map .d)
 | rs => .tup (rs.map fun r => vOf (r.map .d))
def JN (σ : St) : At -> Option D
 | .d x => some x
 | .nil s => some (.sl s [])
 | .sref t j lo len => (match σ.ob t j with | .arr _ size rows => some (.sl size (cut rows lo len)) | _ => none)
 | _ => none
def rowOf (σ : St) : List At -> Option (List D)
 | [] => some []
 | x :: xs => (match JN σ x, rowOf σ xs with | some d, some ds => some (d :: ds) | _, _ => none)
def V.Qe (σ : St) : V -> Option (List D)
 | .one x => rowOf σ [x]
 | .agg [_] => none
 | .agg xs => rowOf σ xs
 | _ => none
def XP (P : Program) (σ : St) : List Operand -> List TypeId -> List (List D) -> Prop
 | [], _, rs => rs = []
 | x :: xs, t :: ts, rs => gOf (look P σ t x) = true /\ ∃ r rest, (unc (look P σ t x)).Qe σ = some r /\ XP P σ xs ts rest /\ rs = r :: rest
 | _ :: _, [], _ => False
def At.MQ : At -> Bool
 | .sref _ _ _ _ => false
 | .tref _ _ _ _ _ => false
 | _ => true
def Ql : List At -> Bool
 | [] => true
 | x :: xs => x.MQ && Ql xs
def Z5 (P : Program) (σ : St) : List Operand -> List TypeId -> Bool
 | x :: xs, t :: ts => Ql (unc (look P σ t x)).cells && Z5 P σ xs ts
 | _, _ => true
section
variable {P : Program} {T0 : CS} {B : Nat -> Prop} {σ : St} {a : Act} {w w' : World} {X X' : Nat -> Prop} {h : Nat -> Nat -> Hd}
theorem Rel.grow (r : Rel T0 B σ a w X h) (hg : w.grownBy w' none) (hX : ∀ b, X b -> X' b) (sy : ∀ b, X' b -> X b \/ (w.heap.size <= b /\ b < w'.heap.size)) : Rel T0 B σ a w' X' h := by
 have hT : ∀ b k v, Tof T0 X b k -> w.cell? ⟨b, k, none⟩ = some v -> w'.cell? ⟨b, k, none⟩ = some v /\ Tof T0 X' b k := by
  intro b k v hb wM
  refine ⟨?_, hb.imp id (hX b)⟩
  rw [World.cell?_of_block (hg.block b (r.Tlt hb) (by simp))]; exact wM
 have hB : w.heap.size <= w'.heap.size := hg.size
 refine ⟨r.size, r.defers, fun b hb => Nat.lt_of_lt_of_le (r.hB b hb) hB, fun b hb => ?_, r.hT, fun t ht => XW.mono hT (r.slot t ht), fun t j => ?_, r.ub, fun t j b ho hb => ?_, r.inj⟩
 ·rcases sy b hb with hb | hb
  ·have := r.hX b hb; exact ⟨this.1, by omega⟩
  ·exact ⟨fun uD => by have := r.hB b uD; omega, hb.2⟩
 ·have h0 := r.obj t j
  have hk : σ.ob t j ≠ .none -> ∀ b, (h t j).u b -> w'.heap[b]? = w.heap[b]? := fun ho b hu => hg.block b (r.own t j b ho hu).2.2 (by simp)
  have wY := r.ub t j
  cases ho : σ.ob t j with
  | none => trivial
  | box cells =>
   rw [ho] at h0 hk wY
   obtain ⟨b, cs, e, hv, hh, wG⟩ := h0
   exact ⟨b, cs, e, hv, by rw [hk (by simp) b (wY b (by simp) (by rw [hv]; rfl))]; exact hh, wG.imp fun _ _ => Zr.mono hT⟩
  | arr q size rows =>
   rw [ho] at h0 hk wY
   cases q with
   | false =>
    obtain ⟨e, xs, uX, hz, wG⟩ := h0
    exact ⟨e, xs, Kw (fun b hb => hk (by simp) b (wY b (by simp) hb)) uX, hz, wG.imp fun _ _ => Rd.mono hT⟩
   | true =>
    obtain ⟨e, xs, uX, hz, wG, hn⟩ := h0
    exact ⟨e, xs, Kw (fun b hb => hk (by simp) b (wY b (by simp) hb)) uX, hz, wG.SP (fun b hb => hk (by simp) b hb.1), hn⟩
  | lit size rows =>
   rw [ho] at h0 hk wY
   obtain ⟨e, xs, uX, hz, wG⟩ := h0
   exact ⟨e, xs, Kw (fun b hb => hk (by simp) b (wY b (by simp) hb)) uX, hz, wG.imp fun _ _ => Zr.mono hT⟩
 ·have := r.own t j b ho hb
  refine ⟨this.1, fun hx => ?_, by omega⟩
  rcases sy b hx with hx | hx
  ·exact this.2.1 hx
  ·omega
def Uq (T0 : CS) (X : Nat -> Prop) (h : Nat -> Nat -> Hd) (σ : St) : CS := fun b k => Tof T0 X b k \/ ∃ t j q size rows, σ.ob t j = .arr q size rows /\ (h t j).u b
theorem Rel.MZ (r : Rel T0 B σ a w X h) {b k : Nat} (hb : Uq T0 X h σ b k) : b < w.heap.size := by
 rcases hb with hb | ⟨t, j, q, size, rows, ho, hb⟩
 ·exact r.Tlt hb
 ·exact (r.own t j b (by rw [ho]; simp) hb).2.2
theorem HL {T : CS} {w : World} {e : TypeId} {size : Nat} {v : Value} {rows : List (List D)} {xs : List Value} (ho : w.ownsRow 0 e size v rows.length xs) (hz : ∀ r ∈ rows, r.length = size) (hT : ∀ b k, blk v = some b -> T b k)
  (wG : Zg (Rd T w) xs rows.flatten) : Rd T w v (.sl size rows) := by
 rcases ho.2 with ⟨rfl, hn⟩ | ⟨g, cap, cur, rfl, _, hh, v9, uE, uB, uv⟩
 ·have : rows = [] := List.eq_nil_of_length_eq_zero hn
  subst this; exact .nil _
 ·refine .sl ⟨g, 0, none⟩ _ cap size rows (fun k => (xs[k]?).getD undef) rfl v9 uE hz (fun _ => rfl) (fun k d hd => ?_) (fun k d hd => ?_)
  ·obtain ⟨u, hu, _⟩ := wG.get' k d hd
   have wN : k < rows.length * size := by
    have := (List.getElem?_eq_some_iff.1 hd).1
    rw [Z8 rows size hz] at this; exact this
   rw [hu]
   refine ⟨?_, hT g _ rfl⟩
   simp only [Nat.zero_add]
   refine Jw hh _ _ ?_
   rw [<- uv, List.getElem?_take, if_pos wN] at hu
   exact hu
  ·obtain ⟨u, hu, hr⟩ := wG.get' k d hd
   rw [hu]; exact hr
theorem Own.rd {T : CS} {w : World} {v : Value} {d : D} {S : Nat -> Prop} (ho : Own w v d S) (hT : ∀ b k, S b -> T b k) : Rd T w v d := by
 induction ho with
 | int k n S => exact .int k n
 | bool b S => exact .bool b
 | str s S => exact .str s
 | unk v h S => exact .unk v h
 | sl v size rows S e xs Sk ho hz wW hl hk hs hd ih =>
  exact HL ho hz (fun b k hb => hT b k (wW b hb)) (Zg.J2 hl (fun k x d hx wQ => ih k x d hx wQ (fun b k' hb => hT b k' (hs k b hb).1)))
theorem QU.rd {T : CS} {w : World} {xs : List Value} {ds : List D} {S : Nat -> Prop} (ho : QU w xs ds S) (hT : ∀ b k, S b -> T b k) : Zg (Rd T w) xs ds := by
 obtain ⟨hl, Sk, h1, h2, h3⟩ := ho
 exact Zg.J2 hl (fun k x d hx hd => (h1 k x d hx hd).rd (fun b k' hb => hT b k' (h2 k b hb)))
theorem Rel.cells (r : Rel T0 B σ a w X h) {t j size : Nat} {q : Bool} {rows : List (List D)} (ho : σ.ob t j = .arr q size rows) :
  ∃ e xs, w.ownsRow 0 e size (h t j).v rows.length xs /\ (∀ r ∈ rows, r.length = size) /\ ∀ T : CS, (∀ b k, Tof T0 X b k -> T b k) -> (∀ b k, (h t j).u b -> T b k) -> Zg (Rd T w) xs rows.flatten := by
 have h0 := r.obj t j
 rw [ho] at h0
 cases q with
 | false =>
  obtain ⟨e, xs, uX, hz, wG⟩ := h0
  exact ⟨e, xs, uX, hz, fun T h1 _ => wG.imp fun _ _ => Rd.mono (fun b k v hb hc => ⟨hc, h1 b k hb⟩)⟩
 | true =>
  obtain ⟨e, xs, uX, hz, wG, hn⟩ := h0
  exact ⟨e, xs, uX, hz, fun T _ h2 => wG.rd (fun b k hb => h2 b k hb.1)⟩
theorem Rel.HV (r : Rel T0 B σ a w X h) {t j lo len size : Nat} {q : Bool} {rows : List (List D)} (ho : σ.ob t j = .arr q size rows) {v : Value} (hv : Zr (Tof T0 X) h σ.ob w (.sref t j lo len) v)
  (T : CS) (iE : ∀ b k, Tof T0 X b k -> T b k) (iF : ∀ b k, (h t j).u b -> T b k) : Rd T w v (.sl size (cut rows lo len)) := by
 obtain ⟨hle, uH, _, base, cap, rfl, vr, pL, po, hb⟩ := hv.2.1 q size rows ho
 obtain ⟨e, xs, ⟨hl, wL⟩, hz, pq⟩ := r.cells ho
 have wG := pq T iE iF
 have vN := r.ub t j
 have wk : (cut rows lo len).length = len := XO _ _ _ hle
 have uw : ∀ x ∈ cut rows lo len, x.length = size := fun x hx => hz x (List.mem_of_mem_drop (List.mem_of_mem_take hx))
 by_cases vO : 0 < len
 ·obtain ⟨b, tQ, hh, rfl⟩ := hb vO
  rcases wL with ⟨hn, _⟩ | ⟨g, r7, cur, tg, _, mq, v9, uE, uB, uv⟩
  ·rw [hh] at hn; cases hn
  ·rw [hh] at tg
   cases tg
   have key : ∀ k d, (cut rows lo len).flatten[k]? = some d -> ∃ u, w.cell? ⟨b, lo * size + k, none⟩ = some u /\ T b (lo * size + k) /\ Rd T w u d := by
    intro k d hd
    have wQ := zW rows size lo len hz k d hd
    obtain ⟨u, hu, hr⟩ := wG.get' _ _ wQ
    have wN : lo * size + k < rows.length * size := by
     have := (List.getElem?_eq_some_iff.1 wQ).1
     rw [Z8 rows size hz] at this; exact this
    refine ⟨u, Jw mq _ _ ?_, iF b _ (vN b (by rw [ho]; simp) (by rw [hh]; rfl)), hr⟩
    rw [<- uv, List.getElem?_take, if_pos wN] at hu
    exact hu
   refine .sl ⟨b, lo * size, none⟩ len cap size _ (fun k => (w.cell? ⟨b, lo * size + k, none⟩).getD undef) wk vr pL uw (fun _ => rfl) (fun k d hd => ?_) (fun k d hd => ?_)
   ·obtain ⟨u, hu, ht, _⟩ := key k d hd
    rw [hu]; exact ⟨rfl, ht⟩
   ·obtain ⟨u, hu, _, hr⟩ := key k d hd
    rw [hu]; exact hr
 ·have gG : len = 0 := by omega
  subst gG
  have ux : cut rows lo 0 = [] := by simp [cut]
  rw [ux]
  cases base with
  | none => have := po rfl; subst this; exact .nil _
  | some ad => exact .sl ad 0 cap size [] (fun _ => undef) rfl vr pL (by intro r hr; cases hr) (by simp) (by simp) (by simp)
end
end Go.Vm
namespace Go.Vm
open Go.RowKit
def D.MO : D -> Prop
 | .sl _ rows => ∀ r ∈ rows, ∀ d ∈ r, d.scalar = true
 | _ => True
def Qq (own : Bool) (res : List (List D)) : Prop := ∀ r ∈ res, ∀ d ∈ r, if own = true then d.MO else d.scalar = true
theorem Rd.scalar {T T' : CS} {w : World} {v : Value} {d : D} (hd : d.scalar = true) (r : Rd T w v d) : Rd T' w v d := by
 cases r with
 | int k n => exact .int k n
 | bool b => exact .bool b
 | str s => exact .str s
 | unk v h => exact .unk v h
 | nil => cases hd
 | sl => cases hd
theorem X0.flat {T T' : CS} {w : World} {v : Value} {d : D} (hd : d.MO) (r : X0 T w v d) : X0 T' w v d := by
 cases d with
 | sl size rows =>
  obtain ⟨e, xs, ho, hz, wG⟩ := r
  refine ⟨e, xs, ho, hz, ?_⟩
  refine Zg.J2 wG.length (fun i x d hx wQ => ?_)
  obtain ⟨d2, th, hr⟩ := wG.get i x hx
  rw [wQ] at th; cases th
  have hm : d ∈ rows.flatten := List.mem_of_getElem? wQ
  obtain ⟨r0, uo, hdr⟩ := List.mem_flatten.1 hm
  exact Rd.scalar (hd r0 uo d hdr) hr
 | int k n => exact Rd.scalar rfl r
 | bool b => exact Rd.scalar rfl r
 | str s => exact Rd.scalar rfl r
 | unk => exact Rd.scalar rfl r
theorem V9 {w : World} {e : TypeId} {size : Nat} {v : Value} {n : Nat} {xs : List Value} (ho : w.ownsRow 0 e size v n xs) : Gk v size n 0 n v := by
 refine ⟨by omega, fun _ _ => rfl, ?_, ?_⟩
 ·intro _
  rcases ho.2 with ⟨rfl, rfl⟩ | ⟨g, cap, cur, rfl, _⟩ <;> rfl
 rcases ho.2 with ⟨rfl, rfl⟩ | ⟨g, cap, cur, rfl, _, _, v9, uE, _, _⟩
 ·exact ⟨none, 0, rfl, by omega, by simp [maxLen], fun _ => rfl, fun hh => by omega⟩
 ·exact ⟨_, cap, rfl, v9, uE, (fun hh => by cases hh), fun _ => ⟨g, cap, rfl, by simp⟩⟩
theorem Ji {w : World} {e : TypeId} {size : Nat} {v : Value} {n : Nat} {xs : List Value} (ho : w.ownsRow 0 e size v n xs) : v.oneCell' = true := by
 rcases ho.2 with ⟨rfl, rfl⟩ | ⟨g, cap, cur, rfl, _⟩ <;> rfl
theorem X0.XG {T : CS} {w : World} {v : Value} {d : D} (r : X0 T w v d) : v.oneCell' = true := by
 cases d with
 | sl size rows => obtain ⟨e, xs, ho, _⟩ := r; exact Ji ho
 | int k n => exact Rd.XG r
 | bool b => exact Rd.XG r
 | str s => exact Rd.XG r
 | unk => exact Rd.XG r
theorem X0.rd {T T' : CS} {w : World} {v : Value} {d : D} (r : X0 T w v d) (h1 : ∀ b k, T b k -> T' b k) (h2 : d.scalar = false -> ∀ b k, blk v = some b -> T' b k) : Rd T' w v d := by
 cases d with
 | sl size rows =>
  obtain ⟨e, xs, ⟨hl, wL⟩, hz, wG⟩ := r
  rcases wL with ⟨rfl, hn⟩ | ⟨g, cap, cur, rfl, _, hh, v9, uE, uB, uv⟩
  ·have : rows = [] := List.eq_nil_of_length_eq_zero hn
   subst this; exact .nil _
  ·refine .sl ⟨g, 0, none⟩ _ cap size rows (fun k => (xs[k]?).getD undef) rfl v9 uE hz (fun _ => rfl) (fun k d hd => ?_) (fun k d hd => ?_)
   ·obtain ⟨u, hu, _⟩ := wG.get' k d hd
    have wN : k < rows.length * size := by
     have := (List.getElem?_eq_some_iff.1 hd).1
     rw [Z8 rows size hz] at this; exact this
    rw [hu]
    refine ⟨?_, h2 rfl g _ rfl⟩
    simp only [Nat.zero_add]
    refine Jw hh _ _ ?_
    rw [<- uv, List.getElem?_take, if_pos wN] at hu
    exact hu
   ·obtain ⟨u, hu, hr⟩ := wG.get' k d hd
    rw [hu]; exact Rd.mono (fun b k v hb hc => ⟨hc, h1 b k hb⟩) hr
 | int k n => exact Rd.scalar rfl r
 | bool b => exact Rd.scalar rfl r
 | str s => exact Rd.scalar rfl r
 | unk => exact Rd.scalar rfl r
section
variable {P : Program} {T0 : CS} {B : Nat -> Prop} {σ : St} {a : Act} {w w' : World} {X X' : Nat -> Prop} {h : Nat -> Nat -> Hd}
theorem Rel.JN (r : Rel T0 B σ a w X h) {x : At} {v : Value} {d : D} (hd : JN σ x = some d) (hv : Zr (Tof T0 X) h σ.ob w x v) (st : Bool) (wa : st = true -> x.MQ = true) :
  Rd (if st then Tof T0 X else Uq T0 X h σ) w v d := by
 cases x with
 | d x => simp [Vm.JN] at hd; subst hd; cases st <;> simp <;> first | exact hv | exact Rd.mono (fun b k v hb hc => ⟨hc, .inl hb⟩) hv
 | nil s => simp [Vm.JN] at hd; subst hd; cases hv; exact .nil _
 | sref t j lo len =>
  cases st with
  | true => have := wa rfl; simp [At.MQ] at this
  | false =>
   simp only [Vm.JN] at hd
   split at hd
   ·rename_i q size rows ho
    cases hd
    exact r.HV ho hv _ (fun b k hb => .inl hb) (fun b k hb => .inr ⟨t, j, _, size, rows, ho, hb⟩)
   ·cases hd
 | any => simp [Vm.JN] at hd
 | ptr => simp [Vm.JN] at hd
 | bptr => simp [Vm.JN] at hd
 | fn => simp [Vm.JN] at hd
 | rptr => simp [Vm.JN] at hd
 | tref => simp [Vm.JN] at hd
theorem Rel.rowOf (r : Rel T0 B σ a w X h) (st : Bool) : ∀ {xs : List At} {vs : List Value} {ds : List D}, rowOf σ xs = some ds -> Zg (Zr (Tof T0 X) h σ.ob w) xs vs -> (st = true -> Ql xs = true) ->
  Zg (Rd (if st then Tof T0 X else Uq T0 X h σ) w) vs ds
 | [], _, ds, hd, wG, _ => by cases wG; simp [Vm.rowOf] at hd; subst hd; exact .nil
 | x :: xs, _, ds, hd, wG, wa => by
  cases wG with
  | cons hx wG =>
   simp only [Vm.rowOf] at hd
   split at hd
   ·rename_i d sX h1 h2
    cases hd
    refine .cons (r.JN h1 hx st (fun hs => ?_)) (Rel.rowOf r st h2 wG (fun hs => ?_))
    ·have := wa hs; simp [Ql] at this; exact this.1
    ·have := wa hs; simp [Ql] at this; exact this.2
   ·cases hd
theorem Rel.Qe (r : Rel T0 B σ a w X h) (st : Bool) {v : V} {val : Value} {row : List D} (hr : v.Qe σ = some row) (hv : XW (Tof T0 X) h σ.ob w v val) (wa : st = true -> Ql v.cells = true) :
  ∃ cs, JI val cs /\ Zg (Rd (if st then Tof T0 X else Uq T0 X h σ) w) cs row := by
 cases v with
 | one x => exact ⟨[val], .inl ⟨val, rfl, rfl, Zr.XG (show Zr _ _ _ _ _ _ from hv)⟩, r.rowOf st (xs := [x]) hr (.cons hv .nil) wa⟩
 | agg xs =>
  obtain ⟨cs, rfl, wG⟩ := hv
  have hl := wG.length
  match xs, hr, wG, hl, wa with
  | [], hr, wG, hl, wa => exact ⟨cs.toList, .inr ⟨by rw [<- hl]; simp, by simp⟩, r.rowOf st hr wG wa⟩
  | [_], hr, _, _, _ => simp [V.Qe] at hr
  | x :: y :: xs, hr, wG, hl, wa => exact ⟨cs.toList, .inr ⟨by rw [<- hl]; simp, by simp⟩, r.rowOf st hr wG wa⟩
 | any => simp [V.Qe] at hr
 | tup xs => simp [V.Qe] at hr
 | cnd g x => simp [V.Qe] at hr
 | fix u x => simp [V.Qe] at hr
theorem Rel.XP (r : Rel T0 B σ a w X h) (st : Bool) : ∀ {xs : List Operand} {ts : List TypeId} {rs : List (List D)}, XP P σ xs ts rs -> (st = true -> Z5 P σ xs ts = true) ->
  Zg (fun v row => ∃ cs, JI v cs /\ Zg (Rd (if st then Tof T0 X else Uq T0 X h σ) w) cs row) (xs.map a.eval) rs
 | [], _, rs, hr, _ => by cases hr; exact .nil
 | x :: xs, [], rs, hr, _ => hr.elim
 | x :: xs, t :: ts, rs, hr, wa => by
  obtain ⟨hg, row, rest, h1, h2, rfl⟩ := hr
  refine .cons (r.Qe st h1 (r.arg t x rfl hg) (fun hs => ?_)) (Rel.XP r st h2 (fun hs => ?_))
  ·have := wa hs; simp [Z5] at this; exact this.1
  ·have := wa hs; simp [Z5] at this; exact this.2
theorem qU {o : Oper} {c : Call} {f : FuncId} (wA : o.op = .call c) (hc : c.callee = .value (.func f)) (hf : kJ P f = true) : (execOp a.eval o).run P w = .ok (.enter f (c.args.toList.map a.eval).toArray) w := by
 unfold kJ at hf
 split at hf
 ·rename_i fn oZ
  simp only [Bool.and_eq_true, bne_iff_ne, ne_eq] at hf
  obtain ⟨cd, hb⟩ := Option.isSome_iff_exists.1 hf.1
  obtain ⟨callee, args, tI⟩ := c
  simp only at hc; subst hc
  have hm : (args.toList.map a.eval).toArray = args.map a.eval := by apply Array.toList_inj.1; simp
  rw [hm]
  simp [execOp, wA, resolve, Act.eval, Deferred.ofValue, invoke, callFunc, oZ, hf.2, hb]
 ·cases hf
end
end Go.Vm
namespace Go.Vm
open Go.RowKit
section
variable {P : Program} {T0 : CS} {B : Nat -> Prop} {σ : St} {a : Act} {w w' : World} {X X' : Nat -> Prop} {h : Nat -> Nat -> Hd}
theorem Below.grownBy (hb : Below w.heap.size w w') : w.grownBy w' none := ⟨hb.os, hb.tape, hb.output, hb.size, fun k hk _ => hb.block k hk⟩
theorem R5 {T : CS} {ob : Nat -> Nat -> Ob} {xs : List At} {v : Value} {cs : List Value} (hf : JI v cs) (wG : Zg (Zr T h ob w) xs cs) : QV T h ob w (vOf xs) v := by
 have hl := wG.length
 rcases hf with ⟨c, rfl, rfl, h1⟩ | ⟨wC, rfl⟩
 ·cases wG with
  | cons hx wG => cases wG; exact hx
 ·match xs, wG, hl with
  | [], wG, _ => exact ⟨_, rfl, by simpa using wG⟩
  | [x], wG, hl => exact absurd hl.symm (by simpa using wC)
  | x :: y :: xs, wG, _ => exact ⟨_, rfl, by simpa using wG⟩
theorem qJ {T : CS} {ob : Nat -> Nat -> Ob} {cs : List Value} {row : List D} (wG : Zg (Rd T w) cs row) : Zg (Zr T h ob w) (row.map .d) cs := by
 induction wG with
 | nil => exact .nil
 | cons r _ ih => exact .cons r ih
theorem Iu {T : CS} {ob : Nat -> Nat -> Ob} {res : List (List D)} {vs : List Value} {wc : List (List Value)} (hf : Zg JI vs wc) (wG : Zg (fun cs row => Zg (Rd T w) cs row) wc res) :
  Zg (QV T h ob w) (res.map fun r => vOf (r.map .d)) vs := by
 induction hf generalizing res with
 | nil => cases wG; exact .nil
 | cons f _ ih => cases wG with
  | cons r wG => exact .cons (R5 f (qJ r)) (ih wG)
theorem NZ {T : CS} {ob : Nat -> Nat -> Ob} {res : List (List D)} {vs : List Value} {wc : List (List Value)} (hf : Zg JI vs wc) (wG : Zg (fun cs row => Zg (Rd T w) cs row) wc res) :
  XW T h ob w (Kx res) (Vr vs) := by
 have hl := Iu (h := h) (ob := ob) hf wG
 have h1 := hl.length
 match res, vs, hl, h1 with
 | [r], [v], hl, _ => cases hl with | cons x _ => exact x.up
 | [], [], hl, _ => exact ⟨_, rfl, by simpa using hl⟩
 | r :: r' :: rs, v :: v' :: vs, hl, _ => exact ⟨_, rfl, by simpa using hl⟩
 | [], v :: vs, _, h1 => simp at h1
 | [r], [], _, h1 => simp at h1
 | [r], v :: v' :: vs, _, h1 => simp at h1
 | r :: r' :: rs, [], _, h1 => simp at h1
 | r :: r' :: rs, [v], _, h1 => simp at h1
theorem Sg {α β : Type} {R S : α -> β -> Prop} {l : List (List α)} {m : List (List β)} (uN : ∀ (a : α) (b : β) (row : List β), row ∈ m -> b ∈ row -> R a b -> S a b) (wG : Zg (fun x y => Zg R x y) l m) : Zg (fun x y => Zg S x y) l m := by
 induction wG with
 | nil => exact .nil
 | @cons x y _ _ tA _ ih =>
  refine .cons ?_ (ih (fun a b row hr => uN a b row (by simp [hr])))
  have vH : ∀ b ∈ y, ∀ a, R a b -> S a b := fun b hb a hr => uN a b y (by simp) hb hr
  clear ih uN
  induction tA with
  | nil => exact .nil
  | cons r _ r5 => exact .cons (vH _ (by simp) _ r) (r5 (fun b hb => vH b (by simp [hb])))
theorem qF (r : Rel T0 B σ a w X h) {o : Oper} {c : Call} {f : FuncId} {d : Nat} {own : Bool} {rows res : List (List D)} (wA : o.op = .call c) (hc : c.callee = .value (.func f)) (hd : o.dst = some d)
  (wK : XP P σ c.args.toList c.argTypes.toList rows) (st : Bool) (wa : st = true -> Z5 P σ c.args.toList c.argTypes.toList = true) (vg : st = false -> Qq own res) (hs : Xk P f own rows res)
  {K : Act -> World -> Prop} {Q : Exit -> Act -> World -> Prop} (hK : ∀ a' w', QK T0 B (σ.put d (Kx res)) a' w' -> Y0 B w w' -> K a' w') : o.wp P a w K Q := by
 unfold Oper.wp
 rw [qU wA hc hs.1, Oper.upon_enter]
 refine (hs.2 (if st then Tof T0 X else Uq T0 X h σ) w _ (fun b k hb => ?_) (r.XP st wK wa)).mono ?_
 ·cases st
  ·exact r.MZ hb
  ·exact r.Tlt hb
 ·rintro e w' ⟨vs, wc, Y, rfl, vc, hY, wi, vw, rH⟩
  have sy : ∀ b, (X b \/ (w.heap.size <= b /\ b < w'.heap.size)) -> X b \/ (w.heap.size <= b /\ b < w'.heap.size) := fun b hb => hb
  have r2 := r.grow (X' := fun b => X b \/ (w.heap.size <= b /\ b < w'.heap.size)) (Below.grownBy vc) (fun b hb => .inl hb) sy
  have uS : Zg (fun cs row => Zg (Rd (Tof T0 fun b => X b \/ (w.heap.size <= b /\ b < w'.heap.size)) w') cs row) wc res := by
   have vH : ∀ (i : Nat) (c : Value) (d : D), wc.flatten[i]? = some c -> res.flatten[i]? = some d -> own = true -> d.scalar = false -> ∀ b, blk c = some b -> w.heap.size <= b /\ b < w'.heap.size := by
    intro i c d h1 h2 ho vV b hb
    have := (rH ho).1 i c d b h1 h2 vV hb
    exact ⟨this.1, this.2.1⟩
   have conv : ∀ (c : Value) (d : D), (∀ b, own = true -> d.scalar = false -> blk c = some b -> w.heap.size <= b /\ b < w'.heap.size) -> (st = false -> if own = true then d.MO else d.scalar = true) ->
     Ki own (Tof (if st then Tof T0 X else Uq T0 X h σ) Y) w' c d -> Rd (Tof T0 fun b => X b \/ (w.heap.size <= b /\ b < w'.heap.size)) w' c d := by
    intro c d vE rA hr
    cases own with
    | true =>
     have vR : X0 (Tof (if st then Tof T0 X else Uq T0 X h σ) Y) w' c d := by simpa [Ki] using hr
     cases st with
     | true =>
      refine X0.rd vR (fun b k hb => ?_) (fun vV b k hb => .inr (.inr (vE b rfl vV hb)))
      rcases hb with hb | hb
      ·rcases (show Tof T0 X b k from by simpa using hb) with hb | hb
       ·exact .inl hb
       ·exact .inr (.inl hb)
      ·exact .inr (.inr (hY b hb))
     | false =>
      exact X0.rd (X0.flat (T' := fun _ _ => False) (by simpa using rA rfl) vR) (fun b k hb => hb.elim) (fun vV b k hb => .inr (.inr (vE b rfl vV hb)))
    | false =>
     have vR : Rd (Tof (if st then Tof T0 X else Uq T0 X h σ) Y) w' c d := by simpa [Ki] using hr
     cases st with
     | true =>
      refine Rd.mono (fun b k v hb hc => ⟨hc, ?_⟩) vR
      rcases hb with hb | hb
      ·rcases (show Tof T0 X b k from by simpa using hb) with hb | hb
       ·exact .inl hb
       ·exact .inr (.inl hb)
      ·exact .inr (.inr (hY b hb))
     | false => exact Rd.scalar (by simpa using rA rfl) vR
   have go : ∀ (wc : List (List Value)) (res : List (List D)), Zg (fun cs row => Zg (Ki own (Tof (if st then Tof T0 X else Uq T0 X h σ) Y) w') cs row) wc res ->
     (∀ (i : Nat) (c : Value) (d : D), wc.flatten[i]? = some c -> res.flatten[i]? = some d -> own = true -> d.scalar = false -> ∀ b, blk c = some b -> w.heap.size <= b /\ b < w'.heap.size) ->
     (st = false -> Qq own res) -> Zg (fun cs row => Zg (Rd (Tof T0 fun b => X b \/ (w.heap.size <= b /\ b < w'.heap.size)) w') cs row) wc res := by
    intro wc res wG
    induction wG with
    | nil => intro _ _; exact .nil
    | @cons cs row mr mu we _ ih =>
     intro hm hf
     have hlen := we.length
     refine .cons (Zg.J2 hlen (fun i c d hc wQ => ?_)) (ih (fun i c d h1 h2 => ?_) (fun hs r hr => hf hs r (by simp [hr])))
     ·obtain ⟨d2, th, hr⟩ := we.get i c hc
      rw [wQ] at th; cases th
      refine conv c d (fun b ho vV hb => hm i c d ?_ ?_ ho vV b hb) (fun hs => hf hs row (by simp) d (List.mem_of_getElem? wQ)) hr
      ·rw [List.flatten_cons, List.getElem?_append_left (List.getElem?_eq_some_iff.1 hc).1]; exact hc
      ·rw [List.flatten_cons, List.getElem?_append_left (List.getElem?_eq_some_iff.1 wQ).1]; exact wQ
     ·refine hm (cs.length + i) c d ?_ ?_
      ·rw [List.flatten_cons, List.getElem?_append_right (by omega)]; simpa using h1
      ·rw [List.flatten_cons, List.getElem?_append_right (by omega), hlen]; simpa using h2
   exact go wc res vw vH vg
  rw [hd]
  exact hK _ _ ⟨_, _, r2.put d _ _ (NZ wi uS)⟩ (Y0.U8 vc r.hB)
end
end Go.Vm
namespace Go.Vm
open Go.RowKit
section
variable {P : Program} {T0 : CS} {B : Nat -> Prop} {σ : St} {a : Act} {w w' : World} {X X' : Nat -> Prop} {h : Nat -> Nat -> Hd}
theorem WZ : ∀ (ds : List D) (k : Nat), YB (zI ds) k = (match ds[k]? with | some (.sl size rows) => .arr false size rows | _ => .none)
 | [], k => by simp [zI, YB]
 | d :: ds, 0 => by cases d <;> simp [zI, YB]
 | d :: ds, k + 1 => by
  have := WZ ds k
  cases d <;> simpa [zI, YB] using this
def y6 (T : CS) (w : World) (v : Value) : D -> Prop
 | .sl size rows => ∃ e xs, w.ownsRow 0 e size v rows.length xs
 | d => Rd T w v d
theorem X0.top {T : CS} {v : Value} {d : D} (r : X0 T w v d) : y6 T w v d := by
 cases d with
 | sl size rows => obtain ⟨e, xs, ho, _⟩ := r; exact ⟨e, xs, ho⟩
 | int k n => exact r
 | bool b => exact r
 | str s => exact r
 | unk => exact r
theorem y6.XG {T : CS} {v : Value} {d : D} (r : y6 T w v d) : v.oneCell' = true := by
 cases d with
 | sl size rows => obtain ⟨e, xs, ho⟩ := r; exact Ji ho
 | int k n => exact Rd.XG r
 | bool b => exact Rd.XG r
 | str s => exact Rd.XG r
 | unk => exact Rd.XG r
theorem WW {T : CS} {ob : Nat -> Nat -> Ob} {t : Nat} : ∀ {ds : List D} {cs : List Value} {k : Nat}, Zg (y6 T w) cs ds ->
  (∀ i size rows, ds[i]? = some (.sl size rows) -> ∃ q, ob t (k + i) = .arr q size rows) -> (∀ i c, cs[i]? = some c -> (h t (k + i)).v = c) -> Zg (Zr T h ob w) (QJ t k ds) cs
 | [], _, k, wG, _, _ => by cases wG; exact .nil
 | d :: ds, _, k, wG, ho, hh => by
  cases wG with
  | @cons c _ cs _ hc wG =>
   have ih := WW (k := k + 1) wG (fun i size rows hi => by have := ho (i + 1) size rows (by simpa using hi); rw [show k + 1 + i = k + (i + 1) by omega]; exact this)
    (fun i c' wu => by have := hh (i + 1) c' (by simpa using wu); rw [show k + 1 + i = k + (i + 1) by omega]; exact this)
   cases d with
   | sl size rows =>
    obtain ⟨q0, h0⟩ := ho 0 size rows (by simp)
    have h1 := hh 0 c (by simp)
    rw [Nat.add_zero] at h0 h1
    refine .cons ⟨y6.XG hc, fun q' wZ wT wX => ?_, fun wZ wT wX => by rw [h0] at wX; cases wX⟩ ih
    rw [h0] at wX; cases wX
    obtain ⟨e, xs, wL⟩ := hc
    rw [h1]; exact V9 wL
   | int k' n => exact .cons hc ih
   | bool b => exact .cons hc ih
   | str s => exact .cons hc ih
   | unk => exact .cons hc ih
theorem GC {T : CS} {ob : Nat -> Nat -> Ob} {t : Nat} {vs : List Value} {wc : List (List Value)} (hf : Zg JI vs wc) : ∀ {res : List (List D)} {k : Nat}, Zg (fun cs row => Zg (y6 T w) cs row) wc res ->
  (∀ i size rows, res.flatten[i]? = some (.sl size rows) -> ∃ q, ob t (k + i) = .arr q size rows) -> (∀ i c, wc.flatten[i]? = some c -> (h t (k + i)).v = c) -> Zg (QV T h ob w) (NQ t k res) vs := by
 induction hf with
 | nil => intro res k wG _ _; cases wG; exact .nil
 | @cons v cs fL mr f _ ih =>
  intro res k wG ho hh
  cases wG with
  | @cons _ row _ mu r wG =>
   have hlen := r.length
   refine .cons (R5 f (WW r (fun i size rows hi => ho i size rows ?_) (fun i c hc => hh i c ?_))) (ih wG (fun i size rows hi => ?_) (fun i c hc => ?_))
   ·rw [List.flatten_cons, List.getElem?_append_left (List.getElem?_eq_some_iff.1 hi).1]; exact hi
   ·rw [List.flatten_cons, List.getElem?_append_left (List.getElem?_eq_some_iff.1 hc).1]; exact hc
   ·have := ho (row.length + i) size rows (by rw [List.flatten_cons, List.getElem?_append_right (by omega)]; simpa using hi)
    rw [Nat.add_assoc]; exact this
   ·have := hh (row.length + i) c (by rw [List.flatten_cons, List.getElem?_append_right (by omega), <- hlen]; simpa using hc)
    rw [Nat.add_assoc]; exact this
theorem OQ {T : CS} {ob : Nat -> Nat -> Ob} {t : Nat} {vs : List Value} {wc : List (List Value)} {res : List (List D)} (hf : Zg JI vs wc) (wG : Zg (fun cs row => Zg (y6 T w) cs row) wc res)
  (ho : ∀ i size rows, res.flatten[i]? = some (.sl size rows) -> ∃ q, ob t i = .arr q size rows) (hh : ∀ i c, wc.flatten[i]? = some c -> (h t i).v = c) : XW T h ob w (xZ t res) (Vr vs) := by
 have hl := GC (k := 0) hf wG (by simpa using ho) (by simpa using hh)
 have h1 : res.length = vs.length := by rw [hf.length, wG.length]
 match res, vs, hl, h1 with
 | [r], [v], hl, _ => cases hl with | cons x _ => exact x.up
 | [], [], hl, _ => exact ⟨_, rfl, by simpa using hl⟩
 | r :: r' :: rs, v :: v' :: vs, hl, _ => exact ⟨_, rfl, by simpa using hl⟩
 | [], v :: vs, _, h1 => simp at h1
 | [r], [], _, h1 => simp at h1
 | [r], v :: v' :: vs, _, h1 => simp at h1
 | r :: r' :: rs, [], _, h1 => simp at h1
 | r :: r' :: rs, [v], _, h1 => simp at h1
theorem Kk {α β : Type} {R : α -> β -> Prop} {l : List (List α)} {m : List (List β)} (wG : Zg (fun x y => Zg R x y) l m) : Zg R l.flatten m.flatten := by
 induction wG with
 | nil => exact .nil
 | cons r _ ih => rw [List.flatten_cons, List.flatten_cons]; exact r.append ih
theorem US (r : Rel T0 B σ a w X h) {o : Oper} {c : Call} {f : FuncId} {d : Nat} {rows res : List (List D)} (wA : o.op = .call c) (hc : c.callee = .value (.func f)) (hd : o.dst = some d) (vG : σ.fresh d = true)
  (wK : XP P σ c.args.toList c.argTypes.toList rows) (st : Bool) (wa : st = true -> Z5 P σ c.args.toList c.argTypes.toList = true) (vg : st = false -> Qq true res) (hs : Xk P f true rows res)
  {K : Act -> World -> Prop} {Q : Exit -> Act -> World -> Prop} (hK : ∀ a' w', QK T0 B (σ.new d (xZ d res) (zI res.flatten)) a' w' -> Y0 B w w' -> K a' w') : o.wp P a w K Q := by
 have wN := St.Jr vG
 unfold Oper.wp
 rw [qU wA hc hs.1, Oper.upon_enter]
 refine (hs.2 (if st then Tof T0 X else Uq T0 X h σ) w _ (fun b k hb => ?_) (r.XP st wK wa)).mono ?_
 ·cases st
  ·exact r.MZ hb
  ·exact r.Tlt hb
 ·rintro e w' ⟨vs, wc, Y, rfl, vc, hY, wi, vw, rH⟩
  have rH := rH rfl
  have uS : Zg (fun cs row => Zg (X0 (Tof T0 fun b => X b \/ Y b) w') cs row) wc res := by
   refine Sg (fun c d row we hdr hr => ?_) vw
   have vR : X0 (Tof (if st then Tof T0 X else Uq T0 X h σ) Y) w' c d := by simpa [Ki] using hr
   cases st with
   | true =>
    have hT : ∀ b k, Tof (if true = true then Tof T0 X else Uq T0 X h σ) Y b k -> Tof T0 (fun b => X b \/ Y b) b k := by
     intro b k hb
     rcases hb with hb | hb
     ·rcases (show Tof T0 X b k from by simpa using hb) with hb | hb
      ·exact .inl hb
      ·exact .inr (.inl hb)
     ·exact .inr (.inr hb)
    cases d with
    | sl size rows =>
     obtain ⟨e, xs, ho, hz, wG⟩ := vR
     exact ⟨e, xs, ho, hz, wG.imp fun _ _ => Rd.mono (fun b k v hb hc => ⟨hc, hT b k hb⟩)⟩
    | int k n => exact Rd.scalar rfl vR
    | bool b => exact Rd.scalar rfl vR
    | str s => exact Rd.scalar rfl vR
    | unk => exact Rd.scalar rfl vR
   | false => exact X0.flat (by simpa using vg rfl row we d hdr) vR
  have vh := Kk uS
  rw [hd]
  refine hK _ _ ⟨fun b => X b \/ Y b, fun t j => if t = d then Hd.of ((wc.flatten[j]?).getD undef) else h t j, ?_⟩ (Y0.U8 vc r.hB)
  have wM : ∀ (j size : Nat) (rows : List (List D)), res.flatten[j]? = some (D.sl size rows) -> ∃ c, wc.flatten[j]? = some c /\ X0 (Tof T0 fun b => X b \/ Y b) w' c (D.sl size rows) := fun j size rows hj => vh.get' j _ hj
  have wY : ∀ j, (σ.new d (xZ d res) (zI res.flatten)).ob d j = YB (zI res.flatten) j := fun j => by rw [St.X7]; simp [wN]
  have pt : ∀ j, YB (zI res.flatten) j ≠ .none -> ∃ size rows, res.flatten[j]? = some (D.sl size rows) := by
   intro j wC
   rw [WZ] at wC
   split at wC
   ·rename_i size rows hj; exact ⟨size, rows, hj⟩
   ·exact absurd rfl wC
  refine r.new vG (Below.grownBy vc) (fun b hb => .inl hb) (fun b hb => hb.imp id (fun hy => hY b hy)) (xZ d res) (Vr vs) (zI res.flatten) (fun j => Hd.of ((wc.flatten[j]?).getD undef)) ?_ (fun j => ?_) (fun j b _ hb => hb) (fun j b wC hb => ?_) (fun j j' b wC wz hb wW => ?_)
  ·refine OQ wi (Sg (fun _ _ _ _ _ hr => X0.top hr) uS) (fun i size rows hi => ⟨false, ?_⟩) (fun i c hi => by simp [hi, Hd.of])
   rw [wY, WZ, hi]
  ·rw [WZ]
   split
   ·rename_i size rows hj
    obtain ⟨c, wu, wL⟩ := wM j size rows hj
    obtain ⟨e, xs, ho, hz, wG⟩ := wL
    exact ⟨e, xs, by rw [wu]; exact ho, hz, wG⟩
   ·trivial
  ·obtain ⟨size, rows, hj⟩ := pt j wC
   obtain ⟨c, wu, _⟩ := wM j size rows hj
   have wW : blk c = some b := by simpa [Hd.of, wu] using hb
   have := rH.1 j c _ b wu hj rfl wW
   refine ⟨this.1, ?_, this.2.1⟩
   rintro (hx | hy)
   ·have := r.hX b hx; omega
   ·exact this.2.2 hy
  ·obtain ⟨size, rows, hj⟩ := pt j wC
   obtain ⟨wZ, wT, uY⟩ := pt j' wz
   obtain ⟨c, wu, _⟩ := wM j size rows hj
   obtain ⟨c2, tv, _⟩ := wM j' wZ wT uY
   exact rH.2 j j' c c2 _ _ b wu hj tv uY rfl rfl (by simpa [Hd.of, wu] using hb) (by simpa [Hd.of, tv] using wW)
end
end Go.Vm
namespace Go.Vm
open Go.RowKit
section
variable {P : Program} {T0 : CS} {B : Nat -> Prop} {σ : St} {a : Act} {w w' : World} {X X' : Nat -> Prop} {h : Nat -> Nat -> Hd}
theorem Y0.kM {B : Nat -> Prop} (hg : w.grownBy w' none) (hB : ∀ b, B b -> b < w.heap.size) : Y0 B w w' := ⟨hg.os, hg.tape, hg.output, hg.size, fun k hk => hg.block k (hB k hk) (by simp)⟩
theorem Rel.FY (r : Rel T0 B σ a w X h) {d : Nat} (hf : σ.fresh d = true) (cs : Array Value) (T : TypeId) (xs : List At) (hx : Zw d xs = false) (wG : Zg (Zr (Tof T0 X) h σ.ob w) xs cs.toList) :
  QK T0 B (σ.new d (.one (.bptr d 0)) [.box xs]) (a.put (some d) (.pointer (some ⟨w.heap.size, 0, none⟩))) (w.alloc (.cells cs T)) /\ Y0 B w (w.alloc (.cells cs T)) := by
 have hg := World.grownBy_alloc w (.cells cs T) none
 have wN := St.Jr hf
 have hT : ∀ b k v, Tof T0 X b k -> w.cell? ⟨b, k, none⟩ = some v -> (w.alloc (.cells cs T)).cell? ⟨b, k, none⟩ = some v /\ Tof T0 X b k := by
  intro b k v hb wM
  refine ⟨?_, hb⟩
  rw [World.cell?_of_block (hg.block b (r.Tlt hb) (by simp))]; exact wM
 refine ⟨⟨X, fun t j => if t = d then Hd.of (.pointer (some ⟨w.heap.size, 0, none⟩)) else h t j, ?_⟩, Y0.kM hg r.hB⟩
 have vU : (σ.new d (.one (.bptr d 0)) [.box xs]).ob d 0 = .box xs := by rw [St.X7]; simp [wN, YB]
 have hc : ∀ t j, t ≠ d -> Cpt h (fun t j => if t = d then Hd.of (.pointer (some ⟨w.heap.size, 0, none⟩)) else h t j) σ.ob (σ.new d (.one (.bptr d 0)) [.box xs]).ob t j := by
  intro t j wC
  have he : (σ.new d (.one (.bptr d 0)) [.box xs]).ob t j = σ.ob t j := by rw [St.X7, if_neg (fun hh => wC hh.1)]
  exact Cpt.same (by simp [wC]) he
 refine r.new hf hg (fun _ hb => hb) (fun _ hb => .inl hb) _ _ [.box xs] (fun _ => Hd.of (.pointer (some ⟨w.heap.size, 0, none⟩))) ?_ (fun j => ?_) (fun j b _ hb => hb) (fun j b _ hb => ?_) (fun j j' b wC wz _ _ => ?_)
 ·exact ⟨rfl, fun cells _ => ⟨w.heap.size, by simp [Hd.of], rfl⟩⟩
 ·cases j with
  | zero =>
   refine ⟨w.heap.size, cs, T, rfl, ?_, qL hT hc hx wG⟩
   exact heap_alloc_new w _
  | succ j => simp [YB, X6]
 ·simp [Hd.of, blk] at hb; subst hb
  refine ⟨Nat.le_refl _, fun tO => ?_, by simp⟩
  have := (r.hX _ tO).2; omega
 ·have : ∀ j, YB [Ob.box xs] j ≠ .none -> j = 0 := by
   intro j hj
   cases j with
   | zero => rfl
   | succ j => simp [YB] at hj
  rw [this j wC, this j' wz]
theorem Rel.Gr (r : Rel T0 B σ a w X h) {d : Nat} (hf : σ.fresh d = true) (hg : w.grownBy w' none) (v : Value) {size : Nat} {rows : List (List D)}
  (ho : X0 (Tof T0 X) w' v (.sl size rows)) (hb : ∀ b, blk v = some b -> w.heap.size <= b /\ b < w'.heap.size) :
  QK T0 B (σ.new d (.one (.sref d 0 0 rows.length)) [.arr false size rows]) (a.put (some d) v) w' /\ Y0 B w w' := by
 have wN := St.Jr hf
 refine ⟨⟨X, fun t j => if t = d then Hd.of v else h t j, ?_⟩, Y0.kM hg r.hB⟩
 have vU : (σ.new d (.one (.sref d 0 0 rows.length)) [.arr false size rows]).ob d 0 = .arr false size rows := by rw [St.X7]; simp [wN, YB]
 obtain ⟨e, xs, wL, hz, wG⟩ := ho
 refine r.new hf hg (fun _ hb => hb) (fun _ hb => .inl hb) _ _ [.arr false size rows] (fun _ => Hd.of v) ?_ (fun j => ?_) (fun j b _ hb => hb) (fun j b _ wW => ?_) (fun j j' b wC wz _ _ => ?_)
 ·refine ⟨Ji wL, fun q' wZ wT wX => ?_, fun wZ wT wX => by rw [vU] at wX; cases wX⟩
  rw [vU] at wX; cases wX
  simp only [if_true]
  exact V9 wL
 ·cases j with
  | zero => exact ⟨e, xs, wL, hz, wG⟩
  | succ j => simp [YB, X6]
 ·have := hb b wW
  refine ⟨this.1, fun tO => ?_, this.2⟩
  have := (r.hX _ tO).2; omega
 ·have : ∀ j, YB [Ob.arr false size rows] j ≠ .none -> j = 0 := by
   intro j hj
   cases j with
   | zero => rfl
   | succ j => simp [YB] at hj
  rw [this j wC, this j' wz]
theorem Rel.Fi (r : Rel T0 B σ a w X h) {d : Nat} (hf : σ.fresh d = true) (hg : w.grownBy w' none) (v : Value) {e : TypeId} {size : Nat} {rows : List (List D)} {xs : List Value}
  (wL : w'.ownsRow 0 e size v rows.length xs) (hz : ∀ r ∈ rows, r.length = size) (wG : QU w' xs rows.flatten (fun _ => False)) (hb : ∀ b, blk v = some b -> w.heap.size <= b /\ b < w'.heap.size) :
  QK T0 B (σ.new d (.one (.sref d 0 0 rows.length)) [.arr true size rows]) (a.put (some d) v) w' /\ Y0 B w w' := by
 have wN := St.Jr hf
 refine ⟨⟨X, fun t j => if t = d then ⟨v, fun k => (xs[k]?).getD undef, fun b => blk v = some b⟩ else h t j, ?_⟩, Y0.kM hg r.hB⟩
 have vU : (σ.new d (.one (.sref d 0 0 rows.length)) [.arr true size rows]).ob d 0 = .arr true size rows := by rw [St.X7]; simp [wN, YB]
 refine r.new hf hg (fun _ hb => hb) (fun _ hb => .inl hb) _ _ [.arr true size rows] (fun _ => ⟨v, fun k => (xs[k]?).getD undef, fun b => blk v = some b⟩) ?_ (fun j => ?_) (fun j b _ hb => hb) (fun j b _ wW => ?_) (fun j j' b wC wz _ _ => ?_)
 ·refine ⟨Ji wL, fun q' wZ wT wX => ?_, fun wZ wT wX => by rw [vU] at wX; cases wX⟩
  rw [vU] at wX; cases wX
  simp only [if_true]
  exact V9 wL
 ·cases j with
  | zero =>
   obtain ⟨hl, Sk, h1, h2, h3⟩ := wG
   exact ⟨e, xs, wL, hz, ⟨hl, Sk, h1, fun k b hk => (h2 k b hk).elim, h3⟩, fun k x d hx _ _ => by simp [hx]⟩
  | succ j => simp [YB, X6]
 ·have := hb b wW
  refine ⟨this.1, fun tO => ?_, this.2⟩
  have := (r.hX _ tO).2; omega
 ·have : ∀ j, YB [Ob.arr true size rows] j ≠ .none -> j = 0 := by
   intro j hj
   cases j with
   | zero => rfl
   | succ j => simp [YB] at hj
  rw [this j wC, this j' wz]
theorem Ly (r : Rel T0 B σ a w X h) {o : Oper} {T : TypeId} {d : Nat} {row : List At} (wA : o.op = .alloc T) (hd : o.dst = some d) (hf : σ.fresh d = true) (hz : XH P T = true) (uP : xG P 12 T = some row) (we : Zw d row = false)
  {K : Act -> World -> Prop} {Q : Exit -> Act -> World -> Prop} (hK : ∀ a' w', QK T0 B (σ.new d (.one (.bptr d 0)) [.box row]) a' w' -> Y0 B w w' -> K a' w') : o.wp P a w K Q := by
 obtain ⟨i, z, hi, mn, vK, wG⟩ := OM hz uP
 have wV : (execOp a.eval o).run P w = .ok (.value (.pointer (some ⟨w.heap.size, 0, none⟩))) (w.alloc (.cells z.cells T)) := by
  simp [execOp, wA, Instr.alloc, zeroValue, typeInfo, hi, mn, newVar, newRow]
 unfold Oper.wp
 rw [wV, Oper.upon_value, hd]
 have := r.FY hf z.cells T row we (wG _ _ _ _)
 exact hK _ _ this.1 this.2
theorem H4 (r : Rel T0 B σ a w X h) {o : Oper} {T : TypeId} {x : Operand} {d : Nat} (wA : o.op = .box T x) (hd : o.dst = some d) (hf : σ.fresh d = true) (hg : gOf (look P σ T x) = true) (vg : (unc (look P σ T x)).flat = true) (we : Zw d (unc (look P σ T x)).cells = false)
  {K : Act -> World -> Prop} {Q : Exit -> Act -> World -> Prop} (hK : ∀ a' w', QK T0 B (σ.new d (.one (.bptr d 0)) [.box (unc (look P σ T x)).cells]) a' w' -> Y0 B w w' -> K a' w') : o.wp P a w K Q := by
 have wG := qP vg (r.arg (P := P) T x rfl hg)
 have wV : (execOp a.eval o).run P w = .ok (.value (.pointer (some ⟨w.heap.size, 0, none⟩))) (w.alloc (.cells (a.eval x).cells T)) := by
  simp [execOp, wA, Instr.box, newVar, newRow]
 unfold Oper.wp
 rw [wV, Oper.upon_value, hd]
 have := r.FY hf (a.eval x).cells T _ we wG
 exact hK _ _ this.1 this.2
end
end Go.Vm
