/- An abstract machine GP the model of Go, by value, and that it is sound: part Va. No condition. -/
import Derived.WalkKit
import Derived.Below
namespace Go.Vm
inductive D where
 | int (k : IntKind) (n : Int)
 | bool (b : Bool)
 | str (s : ByteArray)
 | sl (size : Nat) (rows : List (List D))
 | unk
 deriving Inhabited
def D.scalar : D -> Bool
 | .sl _ _ => false
 | _ => true
abbrev CS := Nat -> Nat -> Prop
inductive Rd (T : CS) (w : World) : Value -> D -> Prop
 | int (k : IntKind) (n : Int) : Rd T w (.int k n) (.int k n)
 | bool (b : Bool) : Rd T w (.bool b) (.bool b)
 | str (s : ByteArray) : Rd T w (.string s) (.str s)
 | unk (v : Value) (h : v.oneCell' = true) : Rd T w v .unk
 | nil (size : Nat) : Rd T w (.slice none 0 0) (.sl size [])
 | sl (a : Addr) (len cap size : Nat) (rows : List (List D)) (g : Nat -> Value)
   (hl : rows.length = len) (hc : len <= cap) (hm : cap <= maxLen) (hz : ∀ r ∈ rows, r.length = size) (hs : rows.flatten ≠ [] -> a.spot = none)
   (hg : ∀ k d, rows.flatten[k]? = some d -> w.cell? ⟨a.block, a.off + k, none⟩ = some (g k) /\ T a.block (a.off + k))
   (hr : ∀ k d, rows.flatten[k]? = some d -> Rd T w (g k) d) : Rd T w (.slice (some a) len cap) (.sl size rows)
theorem Rd.mono {T T' : CS} {w w' : World} (hT : ∀ b k v, T b k -> w.cell? ⟨b, k, none⟩ = some v -> w'.cell? ⟨b, k, none⟩ = some v /\ T' b k)
  {v : Value} {d : D} (h : Rd T w v d) : Rd T' w' v d := by
 induction h with
 | int k n => exact .int k n
 | bool b => exact .bool b
 | str s => exact .str s
 | unk v h => exact .unk v h
 | nil s => exact .nil s
 | sl a len cap size rows g hl hc hm hz hs hg hr ih =>
  exact .sl a len cap size rows g hl hc hm hz hs (fun k d hk => hT _ _ _ (hg k d hk).2 (hg k d hk).1) (fun k d hk => ih k d hk)
theorem Rd.X4 {T : CS} {w : World} {v : Value} {d : D} (h : Rd T w v d) : v.oneCell' = true := by
 cases h <;> first | rfl | assumption
inductive At where
 | any
 | d (x : D)
 | nil (size : Nat)
 | sref (t j lo len : Nat)
 | ptr (t j i c : Nat)
 | bptr (t c : Nat)
 | fn (f t : Nat)
 | rptr (r : List D) (c : Nat)
 | tref (t j i c : Nat) (o : Option Nat)
 deriving Inhabited
inductive V where
 | any
 | one (x : At)
 | agg (xs : List At)
 | tup (xs : List V)
 | cnd (g : Bool) (x : V)
 | fix (v : Value) (x : V)
 deriving Inhabited
inductive Ob where
 | none
 | box (cells : List At)
 | arr (q : Bool) (size : Nat) (rows : List (List D))
 | lit (size : Nat) (rows : List (List At))
 deriving Inhabited
structure Hd where
 v : Value
 n : Nat -> Value
 u : Nat -> Prop
abbrev Ent := V × List Ob
abbrev St := List Ent
def St.get (σ : St) (t : Nat) : V := match σ[t]? with | some e => e.1 | none => .any
def Yp (os : List Ob) (j : Nat) : Ob := match os[j]? with | some o => o | none => .none
def St.ob (σ : St) (t j : Nat) : Ob := match σ[t]? with | some e => Yp e.2 j | none => .none
def St.put : St -> Nat -> V -> St
 | [], _, _ => []
 | e :: σ, 0, v => (v, e.2) :: σ
 | e :: σ, t + 1, v => e :: St.put σ t v
def St.Z5 : St -> Nat -> Nat -> Ob -> St
 | [], _, _, _ => []
 | e :: σ, 0, j, o => (e.1, e.2.set j o) :: σ
 | e :: σ, t + 1, j, o => e :: St.Z5 σ t j o
def St.new : St -> Nat -> V -> List Ob -> St
 | [], _, _, _ => []
 | _ :: σ, 0, v, os => (v, os) :: σ
 | e :: σ, t + 1, v, os => e :: St.new σ t v os
theorem St.Jk (σ : St) (t : Nat) (v : V) : (σ.put t v).length = σ.length := by
 induction σ generalizing t with
 | nil => rfl
 | cons e σ ih => cases t <;> simp [St.put, ih]
theorem St.X7 (σ : St) (t j : Nat) (o : Ob) : (σ.Z5 t j o).length = σ.length := by
 induction σ generalizing t with
 | nil => rfl
 | cons e σ ih => cases t <;> simp [St.Z5, ih]
theorem St.Sr (σ : St) (t : Nat) (v : V) (os : List Ob) : (σ.new t v os).length = σ.length := by
 induction σ generalizing t with
 | nil => rfl
 | cons e σ ih => cases t <;> simp [St.new, ih]
theorem St.yb (σ : St) (t : Nat) (v : V) (u : Nat) : (σ.put t v).get u = if u = t /\ t < σ.length then v else σ.get u := by
 induction σ generalizing t u with
 | nil => simp [St.put, St.get]
 | cons e σ ih =>
  cases t with
  | zero => cases u <;> simp [St.put, St.get]
  | succ t => cases u with
   | zero => simp [St.put, St.get]
   | succ u => have := ih t u; simp only [St.get, St.put] at this ⊢; simpa using this
theorem St.JW (σ : St) (t : Nat) (v : V) : (σ.put t v).ob = σ.ob := by
 funext u j
 induction σ generalizing t u with
 | nil => simp [St.put, St.ob]
 | cons e σ ih =>
  cases t with
  | zero => cases u <;> simp [St.put, St.ob]
  | succ t => cases u with
   | zero => simp [St.put, St.ob]
   | succ u => have := ih t u; simp only [St.ob, St.put] at this ⊢; simpa using this
theorem St.QP (σ : St) (t j : Nat) (o : Ob) (u : Nat) : (σ.Z5 t j o).get u = σ.get u := by
 induction σ generalizing t u with
 | nil => simp [St.Z5, St.get]
 | cons e σ ih =>
  cases t with
  | zero => cases u <;> simp [St.Z5, St.get]
  | succ t => cases u with
   | zero => simp [St.Z5, St.get]
   | succ u => have := ih t u; simp only [St.get, St.Z5] at this ⊢; simpa using this
theorem wi (os : List Ob) (j : Nat) (o : Ob) (i : Nat) : Yp (os.set j o) i = if i = j /\ j < os.length then o else Yp os i := by
 unfold Yp
 rw [List.getElem?_set]
 by_cases h : j = i
 ·subst h
  by_cases h2 : j < os.length
  ·simp [h2]
  ·simp [h2]
 ·simp [h, Ne.symm h]
theorem St.JV (σ : St) (t j : Nat) (o : Ob) (u i : Nat) (hl : σ.ob t j ≠ .none) : (σ.Z5 t j o).ob u i = if u = t /\ i = j then o else σ.ob u i := by
 induction σ generalizing t u with
 | nil => simp [St.ob] at hl
 | cons e σ ih =>
  cases t with
  | zero =>
   have hj : j < e.2.length := by
    simp only [St.ob, List.getElem?_cons_zero, Yp] at hl
    rcases Nat.lt_or_ge j e.2.length with h | h
    ·exact h
    ·simp [List.getElem?_eq_none h] at hl
   cases u with
   | zero => simp [St.Z5, St.ob, wi, hj]
   | succ u => simp [St.Z5, St.ob]
  | succ t => cases u with
   | zero => simp [St.Z5, St.ob]
   | succ u =>
    have := ih t u (by simpa [St.ob] using hl)
    simp only [St.ob, St.Z5] at this ⊢; simpa using this
theorem St.SP (σ : St) (t : Nat) (v : V) (os : List Ob) (u : Nat) : (σ.new t v os).get u = if u = t /\ t < σ.length then v else σ.get u := by
 induction σ generalizing t u with
 | nil => simp [St.new, St.get]
 | cons e σ ih =>
  cases t with
  | zero => cases u <;> simp [St.new, St.get]
  | succ t => cases u with
   | zero => simp [St.new, St.get]
   | succ u => have := ih t u; simp only [St.get, St.new] at this ⊢; simpa using this
theorem St.zF (σ : St) (t : Nat) (v : V) (os : List Ob) (u j : Nat) : (σ.new t v os).ob u j = if u = t /\ t < σ.length then Yp os j else σ.ob u j := by
 induction σ generalizing t u with
 | nil => simp [St.new, St.ob]
 | cons e σ ih =>
  cases t with
  | zero => cases u <;> simp [St.new, St.ob]
  | succ t => cases u with
   | zero => simp [St.new, St.ob]
   | succ u => have := ih t u; simp only [St.ob, St.new] at this ⊢; simpa using this
def CQ (h : Value) (len : Nat) : Value := match h with | .slice b _ c => .slice b len c | v => v
def rO (h : Value) (size n lo len : Nat) (v : Value) : Prop :=
 lo + len <= n /\ (len = n -> lo = 0 -> v = h) /\ (lo = 0 -> v = CQ h len) /\ ∃ base cap, v = .slice base len cap /\ len <= cap /\ cap <= maxLen /\ (base = none -> cap = 0) /\ (0 < len -> ∃ b ek, h = .slice (some ⟨b, 0, none⟩) n ek /\ base = some ⟨b, lo * size, none⟩)
def lL : Option Nat -> Value -> Value -> Prop
 | none, x, v => v = x
 | some k, x, v => ∃ b n cap, x = .slice (some ⟨b, 0, none⟩) n cap /\ v = .pointer (some ⟨b, k, none⟩)
def YI (T : CS) (h : Nat -> Nat -> Hd) (ob : Nat -> Nat -> Ob) (w : World) : At -> Value -> Prop
 | .any, v => v.oneCell' = true
 | .d x, v => Rd T w v x
 | .nil _, v => v = .slice none 0 0
 | .sref t j lo len, v => v.oneCell' = true /\ (∀ q size rows, ob t j = .arr q size rows -> rO (h t j).v size rows.length lo len v) /\ (∀ size rows, ob t j = .lit size rows -> rO (h t j).v size rows.length lo len v)
 | .ptr t j i c, v => v.oneCell' = true /\ (∀ q size rows, ob t j = .arr q size rows -> ∃ b n cap, (h t j).v = .slice (some ⟨b, 0, none⟩) n cap /\ v = .pointer (some ⟨b, i * size + c, none⟩))
 | .bptr t c, v => v.oneCell' = true /\ ∀ cells, ob t 0 = .box cells -> ∃ b, (h t 0).v = .pointer (some ⟨b, 0, none⟩) /\ v = .pointer (some ⟨b, c, none⟩)
 | .fn f t, v => v.oneCell' = true /\ ∀ cells, ob t 0 = .box cells -> ∃ b, (h t 0).v = .pointer (some ⟨b, 0, none⟩) /\ v = .func (.func f) #[] #[.pointer (some ⟨b, 0, none⟩)]
 | .rptr r c, v => ∃ b off, ∃ g : Nat -> Value, v = .pointer (some ⟨b, off + c, none⟩) /\ ∀ k d, r[k]? = some d -> w.cell? ⟨b, off + k, none⟩ = some (g k) /\ T b (off + k) /\ Rd T w (g k) d
 | .tref t j i c o, v => v.oneCell' = true /\ ∀ size rows, ob t j = .arr true size rows -> lL o ((h t j).n (i * size + c)) v
theorem YI.X4 {T : CS} {h : Nat -> Nat -> Hd} {ob : Nat -> Nat -> Ob} {w : World} {x : At} {v : Value} (r : YI T h ob w x v) : v.oneCell' = true := by
 cases x with
 | any => exact r
 | d x => exact Rd.X4 r
 | nil s => cases r; rfl
 | sref => exact r.1
 | ptr => exact r.1
 | bptr => exact r.1
 | fn => exact r.1
 | tref => exact r.1
 | rptr r' c => obtain ⟨b, off, g, rfl, _⟩ := r; rfl
inductive Z6 {α β : Type} (R : α -> β -> Prop) : List α -> List β -> Prop
 | nil : Z6 R [] []
 | cons {a b l m} : R a b -> Z6 R l m -> Z6 R (a :: l) (b :: m)
theorem Z6.imp {α β : Type} {R S : α -> β -> Prop} (h : ∀ a b, R a b -> S a b) {l : List α} {m : List β} (x : Z6 R l m) : Z6 S l m := by
 induction x with
 | nil => exact .nil
 | cons r _ ih => exact .cons (h _ _ r) ih
theorem Z6.length {α β : Type} {R : α -> β -> Prop} {l : List α} {m : List β} (x : Z6 R l m) : l.length = m.length := by
 induction x with
 | nil => rfl
 | cons r _ ih => simp [ih]
theorem Z6.get {α β : Type} {R : α -> β -> Prop} {l : List α} {m : List β} (x : Z6 R l m) : ∀ (i : Nat) (a : α), l[i]? = some a -> ∃ b, m[i]? = some b /\ R a b := by
 induction x with
 | nil => intro i a h; simp at h
 | cons r _ ih =>
  intro i a h
  cases i with
  | zero => simp at h; subst h; exact ⟨_, by simp, r⟩
  | succ i => simpa using ih i a (by simpa using h)
theorem Z6.get' {α β : Type} {R : α -> β -> Prop} {l : List α} {m : List β} (x : Z6 R l m) : ∀ (i : Nat) (b : β), m[i]? = some b -> ∃ a, l[i]? = some a /\ R a b := by
 induction x with
 | nil => intro i a h; simp at h
 | cons r _ ih =>
  intro i a h
  cases i with
  | zero => simp at h; subst h; exact ⟨_, by simp, r⟩
  | succ i => simpa using ih i a (by simpa using h)
theorem Z6.kA {α β : Type} {R : α -> β -> Prop} {l : List α} {m : List β} (hl : l.length = m.length) (h : ∀ (i : Nat) (a : α) (b : β), l[i]? = some a -> m[i]? = some b -> R a b) : Z6 R l m := by
 induction l generalizing m with
 | nil => cases m with
  | nil => exact .nil
  | cons b m => simp at hl
 | cons a l ih => cases m with
  | nil => simp at hl
  | cons b m => exact .cons (h 0 a b (by simp) (by simp)) (ih (by simpa using hl) (fun i a b ha hb => h (i + 1) a b (by simpa using ha) (by simpa using hb)))
theorem Z6.append {α β : Type} {R : α -> β -> Prop} {l l' : List α} {m m' : List β} (x : Z6 R l m) (y : Z6 R l' m') : Z6 R (l ++ l') (m ++ m') := by
 induction x with
 | nil => exact y
 | cons r _ ih => exact .cons r ih
theorem Z6.take {α β : Type} {R : α -> β -> Prop} {l : List α} {m : List β} (x : Z6 R l m) (n : Nat) : Z6 R (l.take n) (m.take n) := by
 induction x generalizing n with
 | nil => simpa using Z6.nil
 | cons r _ ih => cases n with
  | zero => simpa using Z6.nil
  | succ n => simpa using Z6.cons r (ih n)
theorem Z6.drop {α β : Type} {R : α -> β -> Prop} {l : List α} {m : List β} (x : Z6 R l m) (n : Nat) : Z6 R (l.drop n) (m.drop n) := by
 induction x generalizing n with
 | nil => simpa using Z6.nil
 | cons r x ih => cases n with
  | zero => simpa using Z6.cons r x
  | succ n => simpa using ih n
theorem Z6.set {α β : Type} {R : α -> β -> Prop} {l : List α} {m : List β} (x : Z6 R l m) (i : Nat) {a : α} {b : β} (r : R a b) : Z6 R (l.set i a) (m.set i b) := by
 induction x generalizing i with
 | nil => simpa using Z6.nil
 | cons r' x ih => cases i with
  | zero => simpa using Z6.cons r x
  | succ i => simpa using Z6.cons r' (ih i)
theorem Z6.mem {α β : Type} {R : α -> β -> Prop} {l : List α} {m : List β} (x : Z6 R l m) {b : β} (h : b ∈ m) : ∃ a, a ∈ l /\ R a b := by
 obtain ⟨i, hi⟩ := List.mem_iff_getElem?.1 h
 obtain ⟨a, ha, r⟩ := x.get' i b hi
 exact ⟨a, List.mem_of_getElem? ha, r⟩
def K4 (T : CS) (h : Nat -> Nat -> Hd) (ob : Nat -> Nat -> Ob) (w : World) : V -> Value -> Prop
 | .any, _ => True
 | .one x, v => YI T h ob w x v
 | .agg xs, v => ∃ cs : Array Value, v = .agg cs /\ Z6 (YI T h ob w) xs cs.toList
 | .tup _, _ => False
 | .cnd _ _, _ => False
 | .fix _ _, _ => False
def JN (T : CS) (h : Nat -> Nat -> Hd) (ob : Nat -> Nat -> Ob) (w : World) : V -> Value -> Prop
 | .tup xs, v => ∃ vs : Array Value, v = .tuple vs /\ Z6 (K4 T h ob w) xs vs.toList
 | .cnd g x, v => (g = true -> K4 T h ob w x v) /\ (g = false -> v = undef)
 | .any, _ => True
 | .one x, v => YI T h ob w x v
 | .agg xs, v => K4 T h ob w (.agg xs) v
 | .fix u x, v => v = u /\ K4 T h ob w x v
theorem K4.up {T : CS} {h : Nat -> Nat -> Hd} {ob : Nat -> Nat -> Ob} {w : World} {x : V} {v : Value} (r : K4 T h ob w x v) : JN T h ob w x v := by
 cases x <;> first | exact r | exact r.elim
def blk : Value -> Option Nat
 | .slice (some a) _ _ => some a.block
 | .pointer (some a) => some a.block
 | _ => none
def Hd.of (v : Value) : Hd := ⟨v, fun _ => undef, fun b => blk v = some b⟩
inductive Own (w : World) : Value -> D -> (Nat -> Prop) -> Prop
 | int (k : IntKind) (n : Int) (S : Nat -> Prop) : Own w (.int k n) (.int k n) S
 | bool (b : Bool) (S : Nat -> Prop) : Own w (.bool b) (.bool b) S
 | str (s : ByteArray) (S : Nat -> Prop) : Own w (.string s) (.str s) S
 | unk (v : Value) (h : v.oneCell' = true) (S : Nat -> Prop) : Own w v .unk S
 | sl (v : Value) (size : Nat) (rows : List (List D)) (S : Nat -> Prop) (e : TypeId) (xs : List Value) (Sk : Nat -> Nat -> Prop) (ho : w.ownsRow 0 e size v rows.length xs) (hz : ∀ r ∈ rows, r.length = size)
   (hb : ∀ b, blk v = some b -> S b) (hl : xs.length = rows.flatten.length) (hk : ∀ k x d, xs[k]? = some x -> rows.flatten[k]? = some d -> Own w x d (Sk k))
   (hs : ∀ k b, Sk k b -> S b /\ blk v ≠ some b) (hd : ∀ i j b, Sk i b -> Sk j b -> i = j) : Own w v (.sl size rows) S
def Jx (w : World) (xs : List Value) (ds : List D) (S : Nat -> Prop) : Prop :=
 xs.length = ds.length /\ ∃ Sk : Nat -> Nat -> Prop, (∀ k x d, xs[k]? = some x -> ds[k]? = some d -> Own w x d (Sk k)) /\ (∀ k b, Sk k b -> S b) /\ (∀ i j b, Sk i b -> Sk j b -> i = j)
def zV (T : CS) (h : Nat -> Nat -> Hd) (ob : Nat -> Nat -> Ob) (w : World) (hd : Hd) : Ob -> Prop
 | .none => True
 | .box cells => ∃ b cs e, hd.v = .pointer (some ⟨b, 0, none⟩) /\ w.heap[b]? = some (.cells cs e (0, 0)) /\ Z6 (YI T h ob w) cells cs.toList
 | .arr false size rows => ∃ e xs, w.ownsRow 0 e size hd.v rows.length xs /\ (∀ r ∈ rows, r.length = size) /\ Z6 (Rd T w) xs rows.flatten
 | .arr true size rows => ∃ e xs, w.ownsRow 0 e size hd.v rows.length xs /\ (∀ r ∈ rows, r.length = size) /\ Jx w xs rows.flatten (fun b => hd.u b /\ blk hd.v ≠ some b) /\ (∀ k x d, xs[k]? = some x -> rows.flatten[k]? = some d -> d.scalar = false -> hd.n k = x)
 | .lit size rows => ∃ e xs, w.ownsRow 0 e size hd.v rows.length xs /\ (∀ r ∈ rows, r.length = size) /\ Z6 (YI T h ob w) rows.flatten xs
def Tof (T0 : CS) (X : Nat -> Prop) : CS := fun b k => T0 b k \/ X b
structure XB (B : Nat -> Prop) (w w' : World) : Prop where
 os : w'.os = w.os
 tape : w'.tape = w.tape
 output : w'.output = w.output
 size : w.heap.size <= w'.heap.size
 block : ∀ k, B k -> w'.heap[k]? = w.heap[k]?
theorem XB.refl (B : Nat -> Prop) (w : World) : XB B w w := ⟨rfl, rfl, rfl, Nat.le_refl _, fun _ _ => rfl⟩
theorem XB.trans {B : Nat -> Prop} {a b c : World} (h : XB B a b) (k : XB B b c) : XB B a c :=
 ⟨k.os.trans h.os, k.tape.trans h.tape, k.output.trans h.output, Nat.le_trans h.size k.size, fun i hi => (k.block i hi).trans (h.block i hi)⟩
theorem XB.Fo {B : Nat -> Prop} {w w' : World} (h : RowKit.Below w.heap.size w w') (hB : ∀ b, B b -> b < w.heap.size) : XB B w w' := ⟨h.os, h.tape, h.output, h.size, fun k hk => h.block k (hB k hk)⟩
structure Rel (T0 : CS) (B : Nat -> Prop) (σ : St) (a : Act) (w : World) (X : Nat -> Prop) (h : Nat -> Nat -> Hd) : Prop where
 size : a.tmps.size = σ.length
 defers : a.defers = []
 hB : ∀ b, B b -> b < w.heap.size
 hX : ∀ b, X b -> ¬ B b /\ b < w.heap.size
 hT : ∀ b k, T0 b k -> B b
 slot : ∀ t, t < σ.length -> JN (Tof T0 X) h σ.ob w (σ.get t) (a.tmps.getD t undef)
 obj : ∀ t j, zV (Tof T0 X) h σ.ob w (h t j) (σ.ob t j)
 ub : ∀ t j b, σ.ob t j ≠ .none -> blk (h t j).v = some b -> (h t j).u b
 own : ∀ t j b, σ.ob t j ≠ .none -> (h t j).u b -> ¬ B b /\ ¬ X b /\ b < w.heap.size
 inj : ∀ t j t' j' b, σ.ob t j ≠ .none -> σ.ob t' j' ≠ .none -> (h t j).u b -> (h t' j').u b -> t = t' /\ j = j'
def K6 (T0 : CS) (B : Nat -> Prop) (σ : St) (a : Act) (w : World) : Prop := ∃ X h, Rel T0 B σ a w X h
theorem Rel.s9 {T0 : CS} {B : Nat -> Prop} {σ : St} {a : Act} {w : World} {X : Nat -> Prop} {h : Nat -> Nat -> Hd} (r : Rel T0 B σ a w X h) {t j b : Nat} (ho : σ.ob t j ≠ .none) (hb : blk (h t j).v = some b) : ¬ B b /\ ¬ X b /\ b < w.heap.size :=
 r.own t j b ho (r.ub t j b ho hb)
section
variable {T T' : CS} {h h' : Nat -> Nat -> Hd} {ob fG : Nat -> Nat -> Ob} {w w' : World}
theorem YI.mono (hT : ∀ b k v, T b k -> w.cell? ⟨b, k, none⟩ = some v -> w'.cell? ⟨b, k, none⟩ = some v /\ T' b k) {x : At} {v : Value}
  (r : YI T h ob w x v) : YI T' h ob w' x v := by
 cases x with
 | any => exact r
 | d x => exact Rd.mono hT r
 | nil s => exact r
 | sref t j lo len => exact r
 | ptr t j i c => exact r
 | bptr t c => exact r
 | fn f t => exact r
 | tref t j i c o => exact r
 | rptr rr c =>
  obtain ⟨b, off, g, e, hk⟩ := r
  exact ⟨b, off, g, e, fun k d hd => ⟨(hT _ _ _ (hk k d hd).2.1 (hk k d hd).1).1, (hT _ _ _ (hk k d hd).2.1 (hk k d hd).1).2, Rd.mono hT (hk k d hd).2.2⟩⟩
theorem K4.mono (hT : ∀ b k v, T b k -> w.cell? ⟨b, k, none⟩ = some v -> w'.cell? ⟨b, k, none⟩ = some v /\ T' b k) {x : V} {v : Value}
  (r : K4 T h ob w x v) : K4 T' h ob w' x v := by
 cases x with
 | any => exact r
 | one x => exact YI.mono hT r
 | agg xs => obtain ⟨cs, e, r⟩ := r; exact ⟨cs, e, r.imp fun _ _ => YI.mono hT⟩
 | tup xs => exact r.elim
 | cnd g x => exact r.elim
 | fix u x => exact r.elim
theorem JN.mono (hT : ∀ b k v, T b k -> w.cell? ⟨b, k, none⟩ = some v -> w'.cell? ⟨b, k, none⟩ = some v /\ T' b k) {x : V} {v : Value}
  (r : JN T h ob w x v) : JN T' h ob w' x v := by
 cases x with
 | any => exact r
 | one x => exact YI.mono hT r
 | agg xs => exact K4.mono (x := .agg xs) hT r
 | tup xs => obtain ⟨vs, e, r⟩ := r; exact ⟨vs, e, r.imp fun _ _ => K4.mono hT⟩
 | cnd g x => exact ⟨fun hg => K4.mono hT (r.1 hg), r.2⟩
 | fix u x => exact ⟨r.1, K4.mono hT r.2⟩
end
end Go.Vm
namespace Go.Vm
def unc : V -> V
 | .cnd _ x => x
 | .fix _ x => x
 | x => x
def gOf : V -> Bool
 | .cnd g _ => g
 | _ => true
def ZQ (P : Program) (t : TypeId) : TypeId :=
 match P.underlying t with
 | some (.slice e) => e
 | some (.array _ e) => e
 | _ => 0
def XK (P : Program) (t : TypeId) : Bool :=
 match P.underlying t with
 | some (.slice e) => (P.info? e).isSome
 | _ => false
def AD (P : Program) (t : TypeId) : Option Nat :=
 match P.underlying t with
 | some (.array n e) => if (P.info? e).isSome then some n else none
 | _ => none
def TW (P : Program) (t : TypeId) : Bool :=
 match P.underlying t with
 | some (.struct _) | some (.array _ _) => true
 | _ => false
def qf (P : Program) (t : TypeId) : Bool :=
 (P.underlying t).isSome && (P.info? t).isSome && (TW P t || P.cellsOf t == 1)
def Qp (P : Program) (t : TypeId) (f : Nat) : Nat :=
 match P.underlying t with
 | some (.struct fs) => (match fs[f]? with | some fd => fd.offset | none => 0)
 | _ => 0
def xy (P : Program) (t : TypeId) (f : Nat) : TypeId :=
 match P.underlying t with
 | some (.struct fs) => (match fs[f]? with | some fd => fd.type | none => 0)
 | _ => 0
def kM (P : Program) (t : TypeId) (f : Nat) : Bool :=
 match P.underlying t with
 | some (.struct fs) => (match fs[f]? with | some fd => (P.info? fd.type).isSome && decide (P.cellsOf fd.type ≠ 0) | none => false)
 | _ => false
def uF (P : Program) (t : TypeId) : Option IntKind :=
 match P.underlying t with
 | some (.int k) => some k
 | _ => none
def U0 (P : Program) (t : TypeId) : Bool :=
 match P.underlying t with
 | some .string => true
 | _ => false
def L9 (P : Program) (t : TypeId) : Bool :=
 match P.underlying t with
 | some .bool => true
 | _ => false
def cst (P : Program) (ty : TypeId) : Value -> V
 | .int k n => .one (.d (.int k n))
 | .bool b => .one (.d (.bool b))
 | .string s => .one (.d (.str s))
 | .slice none 0 0 => .one (.nil (P.cellsOf (ZQ P ty)))
 | _ => .any
def look (P : Program) (σ : St) (ty : TypeId) : Operand -> V
 | .tmp t => σ.get t
 | .const v => cst P ty v
 | _ => .any
section
variable {P : Program} {T0 : CS} {B : Nat -> Prop} {σ : St} {a : Act} {w : World} {X : Nat -> Prop} {h : Nat -> Nat -> Hd}
theorem Rel.get (r : Rel T0 B σ a w X h) (t : Nat) : JN (Tof T0 X) h σ.ob w (σ.get t) (a.tmps.getD t undef) := by
 rcases Nat.lt_or_ge t σ.length with hl | hl
 ·exact r.slot t hl
 ·simp [St.get, List.getElem?_eq_none hl, JN]
theorem oK (T : CS) (h : Nat -> Nat -> Hd) (ob : Nat -> Nat -> Ob) (w : World) (ty : TypeId) (v : Value) : JN T h ob w (cst P ty v) v := by
 unfold cst
 split
 ·exact .int _ _
 ·exact .bool _
 ·exact .str _
 ·rfl
 ·trivial
theorem Rel.look (r : Rel T0 B σ a w X h) (ty : TypeId) (x : Operand) : JN (Tof T0 X) h σ.ob w (look P σ ty x) (a.eval x) := by
 cases x with
 | tmp t => exact r.get t
 | const v => exact oK _ _ _ _ _ _
 | global g => trivial
 | func f => trivial
theorem JN.unc {T : CS} {h : Nat -> Nat -> Hd} {ob : Nat -> Nat -> Ob} {w : World} {x : V} {v : Value} (r : JN T h ob w x v) (hg : gOf x = true) : JN T h ob w (unc x) v := by
 cases x with
 | cnd g x => exact K4.up (r.1 hg)
 | fix u x => exact K4.up r.2
 | _ => exact r
theorem Rel.arg (r : Rel T0 B σ a w X h) (ty : TypeId) (x : Operand) {v : V} (he : Vm.unc (Vm.look P σ ty x) = v) (hg : gOf (Vm.look P σ ty x) = true) : JN (Tof T0 X) h σ.ob w v (a.eval x) := by
 subst he
 exact (r.look ty x).unc hg
theorem Rel.put (r : Rel T0 B σ a w X h) (d : Nat) (v : V) (val : Value) (hv : JN (Tof T0 X) h σ.ob w v val) : Rel T0 B (σ.put d v) (a.put (some d) val) w X h := by
 refine ⟨by simp [Act.put, r.size, St.Jk], r.defers, r.hB, r.hX, r.hT, fun t ht => ?_, fun t j => ?_, fun t j b => ?_, fun t j b => ?_, fun t j t' j' b => ?_⟩
 ·rw [St.JW, St.yb]
  rw [St.Jk] at ht
  by_cases hd : t = d /\ d < σ.length
  ·obtain ⟨rfl, hl⟩ := hd
   simp only [hl, and_self, if_true]
   have : (a.tmps.setIfInBounds t val).getD t undef = val := by simp [r.size, hl]
   simp only [Act.put, this]; exact hv
  ·rw [if_neg hd]
   have iU : d ≠ t := fun e => hd ⟨e.symm, e ▸ ht⟩
   have : (a.tmps.setIfInBounds d val).getD t undef = a.tmps.getD t undef := by simp [Array.getElem?_setIfInBounds_ne iU]
   simp only [Act.put, this]; exact r.slot t ht
 ·rw [St.JW]; exact r.obj t j
 ·rw [St.JW]; exact r.ub t j b
 ·rw [St.JW]; exact r.own t j b
 ·rw [St.JW]; exact r.inj t j t' j' b
end
def ldV (P : Program) (T : TypeId) (xs : List At) : V := if TW P T then .agg xs else (match xs with | [x] => .one x | _ => .any)
def nP (k : IntKind) (x y : Int) : Int := k.wrap (BitVec.ofInt k.bits x &&& BitVec.ofInt k.bits y).toNat
def iOr (k : IntKind) (x y : Int) : Int := k.wrap (BitVec.ofInt k.bits x ||| BitVec.ofInt k.bits y).toNat
def nB (k : IntKind) (x y : Int) : Int := k.wrap (BitVec.ofInt k.bits x ^^^ BitVec.ofInt k.bits y).toNat
def EJ (op : BinOp) (k : IntKind) (x y : Int) (v : V) : Prop :=
 match op with
 | .eql => v = .one (.d (.bool (x == y)))
 | .neq => v = .one (.d (.bool (x != y)))
 | .lss => v = .one (.d (.bool (decide (x < y))))
 | .leq => v = .one (.d (.bool (decide (x <= y))))
 | .gtr => v = .one (.d (.bool (decide (x > y))))
 | .geq => v = .one (.d (.bool (decide (x >= y))))
 | .add => v = .one (.d (.int k (k.wrap (x + y))))
 | .sub => v = .one (.d (.int k (k.wrap (x - y))))
 | .mul => v = .one (.d (.int k (k.wrap (x * y))))
 | .quo => y ≠ 0 /\ v = .one (.d (.int k (k.wrap (x.tdiv y))))
 | .rem => y ≠ 0 /\ v = .one (.d (.int k (x.tmod y)))
 | .and => v = .one (.d (.int k (nP k x y)))
 | .or => v = .one (.d (.int k (iOr k x y)))
 | .xor => v = .one (.d (.int k (nB k x y)))
 | .shl => 0 <= y /\ v = .one (.d (.int k (k.wrap (x * 2 ^ (min y.toNat k.bits)))))
 | .shr => 0 <= y /\ v = .one (.d (.int k (x.fdiv (2 ^ (min y.toNat k.bits)))))
 | _ => False
def GB (op : BinOp) (x y : ByteArray) (v : V) : Prop :=
 match op with
 | .add => ((x.size + y.size : Nat) : Int) <= 9223372036854775807 /\ v = .one (.d (.str (x ++ y)))
 | .eql => v = .one (.d (.bool (decide (x = y))))
 | .neq => v = .one (.d (.bool (!decide (x = y))))
 | _ => False
def NQ (op : BinOp) (x y : Bool) (v : V) : Prop :=
 match op with
 | .eql => v = .one (.d (.bool (x == y)))
 | .neq => v = .one (.d (.bool (!(x == y))))
 | _ => False
theorem vx {P : Program} {op : BinOp} {k : IntKind} {x y : Int} {v : V} {t : TypeId} {kk : IntKind} (hk : (op = .shl \/ op = .shr) \/ kk = k) (hb : EJ op k x y v) (w : World) :
  ∃ d, v = .one (.d d) /\ ∃ val, (binOp op t (.int k x) (.int kk y)).run P w = .ok val w /\ ∀ T w', Rd T w' val d := by
 cases op <;> simp only [EJ] at hb
 case shl => obtain ⟨h0, rfl⟩ := hb; exact ⟨_, rfl, _, by simp [binOp, Op.shift, Int.not_lt.2 h0], fun _ _ => .int _ _⟩
 case shr => obtain ⟨h0, rfl⟩ := hb; exact ⟨_, rfl, _, by simp [binOp, Op.shift, Int.not_lt.2 h0], fun _ _ => .int _ _⟩
 all_goals (have hkk : kk = k := by rcases hk with (hk | hk) | hk <;> first | exact hk | cases hk)
 all_goals subst hkk
 case quo => obtain ⟨h0, rfl⟩ := hb; exact ⟨_, rfl, _, by simp [binOp, Op.intDiv, h0], fun _ _ => .int _ _⟩
 case rem => obtain ⟨h0, rfl⟩ := hb; exact ⟨_, rfl, _, by simp [binOp, Op.intDiv, h0], fun _ _ => .int _ _⟩
 case add => subst hb; exact ⟨_, rfl, _, by simp [binOp, Op.intArith], fun _ _ => .int _ _⟩
 case sub => subst hb; exact ⟨_, rfl, _, by simp [binOp, Op.intArith], fun _ _ => .int _ _⟩
 case mul => subst hb; exact ⟨_, rfl, _, by simp [binOp, Op.intArith], fun _ _ => .int _ _⟩
 case and => subst hb; exact ⟨_, rfl, _, by simp [binOp, Op.intBits, nP], fun _ _ => .int _ _⟩
 case or => subst hb; exact ⟨_, rfl, _, by simp [binOp, Op.intBits, iOr], fun _ _ => .int _ _⟩
 case xor => subst hb; exact ⟨_, rfl, _, by simp [binOp, Op.intBits, nB], fun _ _ => .int _ _⟩
 all_goals (subst hb; exact ⟨_, rfl, .bool _, by simp only [binOp, Op.intCmp, ne_eq, not_true_eq_false, if_false]; rfl, fun _ _ => .bool _⟩)
theorem uJ (x y : ByteArray) : (x.toList == y.toList) = decide (x = y) := by
 rw [ByteArray.toList_eq, ByteArray.toList_eq, Bool.eq_iff_iff]
 simp only [beq_iff_eq, decide_eq_true_eq]
 constructor
 ·intro hh; cases x; cases y; simp_all
 ·rintro rfl; rfl
theorem vc {P : Program} {op : BinOp} {x y : ByteArray} {v : V} {t : TypeId} (hb : GB op x y v) (w : World) :
  ∃ d, v = .one (.d d) /\ ∃ val, (binOp op t (.string x) (.string y)).run P w = .ok val w /\ ∀ T w', Rd T w' val d := by
 cases op <;> simp only [GB] at hb
 case add => obtain ⟨h0, rfl⟩ := hb; exact ⟨_, rfl, _, by simp only [binOp, Op.stringOp]; rw [if_neg (by simp [IntKind.max, IntKind.signed, IntKind.bits]; omega)]; rfl, fun _ _ => .str _⟩
 case eql => subst hb; exact ⟨_, rfl, .bool _, by simp only [binOp, Op.stringOp, uJ]; rfl, fun _ _ => .bool _⟩
 case neq => subst hb; exact ⟨_, rfl, .bool _, by simp only [binOp, Op.stringOp, uJ]; rfl, fun _ _ => .bool _⟩
theorem run_equalIn_bool {P : Program} {t : TypeId} (hu : P.underlying t = some .bool) (d : Nat) (x y : Bool) (w : World) : (Op.equalIn (d + 1) t (.bool x) (.bool y)).run P w = .ok (x == y) w := by
 simp [Op.equalIn, run_underlying hu]
theorem Ar {P : Program} {op : BinOp} {x y : Bool} {v : V} {t : TypeId} (ht : L9 P t = true) (hb : NQ op x y v) (w : World) :
  ∃ d, v = .one (.d d) /\ ∃ val, (binOp op t (.bool x) (.bool y)).run P w = .ok val w /\ ∀ T w', Rd T w' val d := by
 have hu : P.underlying t = some .bool := by
  unfold L9 at ht; split at ht <;> first | assumption | cases ht
 cases op <;> simp only [NQ] at hb
 case eql => subst hb; exact ⟨_, rfl, _, by simp only [binOp, Op.equal, Op.maxDepth, Sem.run_bind, run_equalIn_bool hu 9999, Result.andThen_ok, Sem.run_pure], fun _ _ => .bool _⟩
 case neq => subst hb; exact ⟨_, rfl, _, by simp only [binOp, Op.equal, Op.maxDepth, Sem.run_bind, run_equalIn_bool hu 9999, Result.andThen_ok, Sem.run_pure], fun _ _ => .bool _⟩
end Go.Vm
namespace Go.Vm
def UI (P : Program) (σ : St) (x : Operand) (k : IntKind) (n : Int) : Prop := gOf (look P σ 0 x) = true /\ unc (look P σ 0 x) = .one (.d (.int k n))
def bnd (P : Program) (σ : St) (g4 : Nat) : Option Operand -> Nat -> Prop
 | none, n => n = g4
 | some x, n => ∃ k i, gOf (look P σ 0 x) = true /\ unc (look P σ 0 x) = .one (.d (.int k i)) /\ 0 <= i /\ n = i.toNat
def cut {α : Type} (xs : List α) (off n : Nat) : List α := (xs.drop off).take n
def kQ (P : Program) : Nat -> TypeId -> Option (List At)
 | 0, _ => none
 | n + 1, t =>
  match P.underlying t with
  | some .bool => some [.d (.bool false)]
  | some (.int k) => some [.d (.int k 0)]
  | some .string => some [.d (.str ⟨#[]⟩)]
  | some (.slice e) => some [.nil (P.cellsOf e)]
  | some (.struct fs) => (fs.toList.mapM (fun f => kQ P n f.type)).map List.flatten
  | some (.array m e) => (kQ P n e).map (fun r => (List.replicate m r).flatten)
  | _ => none
def zAt : At -> Value -> Bool
 | .d (.bool b), .bool b' => b == b'
 | .d (.int k n), .int k' n' => k == k' && n == n'
 | .d (.str s), .string s' => s.data.toList == s'.data.toList
 | .nil _, .slice none 0 0 => true
 | _, _ => false
def tJ : List At -> List Value -> Bool
 | [], [] => true
 | x :: xs, v :: vs => zAt x v && tJ xs vs
 | _, _ => false
def QK (P : Program) (t : TypeId) : Bool :=
 match kQ P 12 t, P.info? t with
 | some row, some i => (match i.zero with | some z => tJ row z.cells.toList && i.size == row.length | none => false)
 | _, _ => false
theorem pZ {x : At} {v : Value} (hz : zAt x v = true) (T : CS) (h : Nat -> Nat -> Hd) (ob : Nat -> Nat -> Ob) (w : World) : YI T h ob w x v := by
 unfold zAt at hz
 split at hz
 ·simp at hz; subst hz; exact .bool _
 ·simp at hz; obtain ⟨rfl, rfl⟩ := hz; exact .int _ _
 ·rename_i s s'
  simp at hz
  have : s = s' := by cases s; cases s'; simp_all
  subst this; exact .str _
 ·rfl
 ·cases hz
theorem sv {xs : List At} {vs : List Value} (hz : tJ xs vs = true) (T : CS) (h : Nat -> Nat -> Hd) (ob : Nat -> Nat -> Ob) (w : World) : Z6 (YI T h ob w) xs vs := by
 induction xs generalizing vs with
 | nil => cases vs with
  | nil => exact .nil
  | cons v vs => simp [tJ] at hz
 | cons x xs ih => cases vs with
  | nil => simp [tJ] at hz
  | cons v vs => simp [tJ] at hz; exact .cons (pZ hz.1 _ _ _ _) (ih hz.2)
theorem G9 {P : Program} {t : TypeId} {row : List At} (hz : QK P t = true) (hr : kQ P 12 t = some row) :
  ∃ i z, P.info? t = some i /\ i.zero = some z /\ i.size = row.length /\ (∀ T h ob w, Z6 (YI T h ob w) row z.cells.toList) := by
 unfold QK at hz
 rw [hr] at hz
 split at hz
 ·rename_i gJ i gL hi
  cases gL
  split at hz
  ·rename_i z ei
   simp at hz
   exact ⟨i, z, hi, ei, hz.2, fun T h ob w => sv hz.1 T h ob w⟩
  ·cases hz
 ·cases hz
def V.cells : V -> List At
 | .one c => [c]
 | .agg xs => xs
 | _ => []
def V.flat : V -> Bool
 | .one _ => true
 | .agg _ => true
 | _ => false
def place {α : Type} (r : List α) (off : Nat) (xs : List α) : List α := r.take off ++ xs ++ r.drop (off + xs.length)
def Re (P : Program) (T : TypeId) (i : Nat) : Nat := match P.underlying T with | some (.array _ e) => i * P.cellsOf e | _ => Qp P T i
def bTy (P : Program) (T : TypeId) (i : Nat) : TypeId := match P.underlying T with | some (.array _ e) => e | _ => xy P T i
def bOk (P : Program) (T : TypeId) (i : Nat) : Bool := match P.underlying T with
 | some (.array _ e) => (P.info? e).isSome
 | some (.struct fs) => fs.all (fun f => (P.info? f.type).isSome) && decide (i < fs.size)
 | _ => false
def U5 (P : Program) (σ : St) (T : TypeId) : List (Nat × Operand) -> List At -> List At -> Prop
 | [], r, out => out = r
 | (i, x) :: ps, r, out => bOk P T i = true /\ gOf (look P σ (bTy P T i) x) = true /\ (unc (look P σ (bTy P T i) x)).flat = true /\
   (unc (look P σ (bTy P T i) x)).cells.length = P.cellsOf (bTy P T i) /\ Re P T i + P.cellsOf (bTy P T i) <= r.length /\
   U5 P σ T ps (place r (Re P T i) (unc (look P σ (bTy P T i) x)).cells) out
def AS (P : Program) (t : TypeId) : Bool := match P.underlying t with | some .bool => true | some (.int _) => true | some .string => true | _ => false
def SN (P : Program) : List Field -> Nat -> Bool
 | [], _ => true
 | f :: fs, i => decide (f.name ≠ "_") && f.offset == i && AS P f.type && SN P fs (i + 1)
def TQ (P : Program) (t : TypeId) : Bool := match P.underlying t with
 | some (.struct fs) => !P.stoodInHeld t && !P.eqGuardType P.depth t && SN P fs.toList 0
 | _ => false
def sa (P : Program) (t : TypeId) : At -> At -> Option Bool
 | .d (.int k a), .d (.int k' b) => if k = k' /\ (uF P t).isSome then some (a == b) else none
 | .d (.bool a), .d (.bool b) => if L9 P t then some (a == b) else none
 | .d (.str a), .d (.str b) => if U0 P t then some (decide (a = b)) else none
 | _, _ => none
def j7 (P : Program) : List Field -> List At -> List At -> Option Bool
 | [], _, _ => some true
 | f :: fs, x :: xs, y :: ys => (match sa P f.type x y, j7 P fs xs ys with | some p, some q => some (p && q) | _, _ => none)
 | _, _, _ => none
def vL (P : Program) (op : BinOp) (T : TypeId) (x y v : V) : Prop :=
 match x, y with
 | .one (.d (.int k m)), .one (.d (.int k' n)) => ((op = .shl \/ op = .shr) \/ k' = k) /\ EJ op k m n v
 | .one (.d (.str m)), .one (.d (.str n)) => GB op m n v
 | .one (.d (.bool m)), .one (.d (.bool n)) => L9 P T = true /\ NQ op m n v
 | .agg xs, .agg ys => TQ P T = true /\ ∃ q, j7 P (P.fieldsOf T).toList xs ys = some q /\ ((op = .eql /\ v = .one (.d (.bool q))) \/ (op = .neq /\ v = .one (.d (.bool (!q)))))
 | _, _ => False
def Wt (t j i : Nat) : Nat -> List D -> List At
 | _, [] => []
 | c, x :: xs => (match x with | .sl _ _ => .tref t j i c none | x => .d x) :: Wt t j i (c + 1) xs
def Sl (q : Bool) (t j i c : Nat) (xs : List D) : List At := match q with | true => Wt t j i c xs | false => xs.map .d
def Yg (P : Program) (σ : St) (op : Op) (ty : TypeId) (v : V) : Prop :=
 match op with
 | .move x => v = look P σ ty x
 | .assign x => v = look P σ ty x
 | .pick c a b => ∃ bc p q, gOf (look P σ ty c) = true /\ unc (look P σ ty c) = .one (.d (.bool bc)) /\ (bc = true -> unc (look P σ ty a) = .one (.d (.bool p))) /\ (bc = false -> unc (look P σ ty b) = .one (.d (.bool q))) /\
   (bc = true -> gOf (look P σ ty a) = true) /\ (bc = false -> gOf (look P σ ty b) = true) /\ v = .one (.d (.bool (cond bc p q)))
 | .load T x => gOf (look P σ 0 x) = true /\ qf P T = true /\
   (match unc (look P σ 0 x) with
   | .one (.bptr t c) => ∃ cells, σ.ob t 0 = .box cells /\ c + P.cellsOf T <= cells.length /\ v = ldV P T (cut cells c (P.cellsOf T))
   | .one (.ptr t j i c) => ∃ q size rows, σ.ob t j = .arr q size rows /\ i < rows.length /\ c + P.cellsOf T <= size /\ v = ldV P T (Sl q t j i c (cut (rows.getD i []) c (P.cellsOf T)))
   | .one (.rptr r c) => c + P.cellsOf T <= r.length /\ v = ldV P T ((cut r c (P.cellsOf T)).map .d)
   | _ => False)
 | .fieldAddr T x f => gOf (look P σ 0 x) = true /\ kM P T f = true /\
   (match unc (look P σ 0 x) with
   | .one (.bptr t c) => (∃ cells, σ.ob t 0 = .box cells) /\ v = .one (.bptr t (c + Qp P T f))
   | .one (.ptr t j i c) => (∃ q size rows, σ.ob t j = .arr q size rows) /\ v = .one (.ptr t j i (c + Qp P T f))
   | .one (.rptr r c) => v = .one (.rptr r (c + Qp P T f))
   | .one (.tref t j i c (some k)) => (∃ size rows, σ.ob t j = .arr true size rows) /\ v = .one (.tref t j i c (some (k + Qp P T f)))
   | _ => False)
 | .nilCheck x => gOf (look P σ 0 x) = true /\
   (match unc (look P σ 0 x) with
   | .one (.bptr t c) => (∃ cells, σ.ob t 0 = .box cells) /\ v = .one (.bptr t c)
   | _ => False)
 | .indexAddr T x ix => ∃ k i, UI P σ ix k i /\ 0 <= i /\ gOf (look P σ 0 x) = true /\
   (match unc (look P σ 0 x) with
   | .one (.d (.sl size rows)) => XK P T = true /\ size = P.cellsOf (ZQ P T) /\ 0 < size /\ i < (rows.length : Int) /\ v = .one (.rptr (rows.getD i.toNat []) 0)
   | .one (.sref t j lo len) => XK P T = true /\ 0 < P.cellsOf (ZQ P T) /\ (∃ q rows, σ.ob t j = .arr q (P.cellsOf (ZQ P T)) rows) /\ i < (len : Int) /\ v = .one (.ptr t j (lo + i.toNat) 0)
   | .one (.bptr t c) => (∃ cells, σ.ob t 0 = .box cells) /\ (∃ n, AD P T = some n /\ 1 < n /\ i < (n : Int)) /\ v = .one (.bptr t (c + i.toNat * P.cellsOf (ZQ P T)))
   | .one (.tref t j m c none) => XK P T = true /\ 0 < P.cellsOf (ZQ P T) /\ (∃ size rows s, σ.ob t j = .arr true size rows /\ m < rows.length /\ (rows.getD m [])[c]? = some (.sl (P.cellsOf (ZQ P T)) s) /\ i < (s.length : Int)) /\ v = .one (.tref t j m c (some (i.toNat * P.cellsOf (ZQ P T))))
   | _ => False)
 | .index T x ix => ∃ k i, UI P σ ix k i /\ 0 <= i /\ gOf (look P σ 0 x) = true /\
   (match unc (look P σ 0 x) with
   | .one (.d (.str s)) => U0 P T = true /\ i < (s.size : Int) /\ v = .one (.d (.int .u8 (s.data.toList.getD i.toNat 0).toNat))
   | .agg xs => (∃ n, AD P T = some n /\ i < (n : Int)) /\ qf P (ZQ P T) = true /\ i.toNat * P.cellsOf (ZQ P T) + P.cellsOf (ZQ P T) <= xs.length /\ v = ldV P (ZQ P T) (cut xs (i.toNat * P.cellsOf (ZQ P T)) (P.cellsOf (ZQ P T)))
   | _ => False)
 | .slice T x lo hi none => gOf (look P σ 0 x) = true /\
   (match unc (look P σ 0 x) with
   | .one (.d (.str s)) => U0 P T = true /\ ∃ l h, bnd P σ 0 lo l /\ bnd P σ s.size hi h /\ l <= h /\ h <= s.size /\ v = .one (.d (.str (s.extract l h)))
   | .one (.d (.sl size rows)) => XK P T = true /\ size = P.cellsOf (ZQ P T) /\ ∃ l h, bnd P σ 0 lo l /\ bnd P σ rows.length hi h /\ l <= h /\ h <= rows.length /\ v = .one (.d (.sl size (cut rows l (h - l))))
   | .one (.sref t j o len) => XK P T = true /\ (∃ q rows, σ.ob t j = .arr q (P.cellsOf (ZQ P T)) rows) /\ ∃ l h, bnd P σ 0 lo l /\ bnd P σ len hi h /\ l <= h /\ h <= len /\ v = .one (.sref t j (o + l) (h - l))
   | _ => False)
 | .binOp op T x y _ => gOf (look P σ T x) = true /\ gOf (look P σ T y) = true /\
   vL P op T (unc (look P σ T x)) (unc (look P σ T y)) v
 | .unOp op _ x => gOf (look P σ 0 x) = true /\
   (match op, unc (look P σ 0 x) with
   | .not, .one (.d (.bool b)) => v = .one (.d (.bool (!b)))
   | .neg, .one (.d (.int k n)) => v = .one (.d (.int k (k.wrap (-n))))
   | _, _ => False)
 | .convert S T x => gOf (look P σ 0 x) = true /\ (P.underlying S).isSome = true /\
   (match unc (look P σ 0 x) with
   | .one (.d (.int _ n)) => ∃ k, uF P T = some k /\ v = .one (.d (.int k (k.wrap n)))
   | _ => False)
 | .extract x i => gOf (look P σ 0 x) = true /\
   (match unc (look P σ 0 x) with
   | .tup xs => xs[i]? = some v /\ v.flat = true
   | _ => False)
 | .field T x f => gOf (look P σ 0 x) = true /\ kM P T f = true /\ qf P (xy P T f) = true /\
   (match unc (look P σ 0 x) with
   | .agg xs => Qp P T f + P.cellsOf (xy P T f) <= xs.length /\ v = ldV P (xy P T f) (cut xs (Qp P T f) (P.cellsOf (xy P T f)))
   | _ => False)
 | .build T parts => QK P T = true /\ TW P T = true /\ ∃ z out, kQ P 12 T = some z /\ U5 P σ T parts.toList z out /\ v = .agg out
 | .call c =>
   (match c.callee, c.args.toList, c.argTypes.toList with
   | .builtin .len, [x], [t] => gOf (look P σ t x) = true /\
     (match unc (look P σ t x) with
     | .one (.d (.str s)) => U0 P t = true /\ v = .one (.d (.int .i64 s.size))
     | .one (.d (.sl _ rows)) => XK P t = true /\ v = .one (.d (.int .i64 rows.length))
     | .one (.nil _) => XK P t = true /\ v = .one (.d (.int .i64 0))
     | .one (.sref u j _ len) => XK P t = true /\ ((∃ q size rows, σ.ob u j = .arr q size rows) \/ ∃ size rows, σ.ob u j = .lit size rows) /\ v = .one (.d (.int .i64 len))
     | _ => False)
   | .builtin .max, [x, y], _ => ∃ k m n, UI P σ x k m /\ UI P σ y k n /\ v = .one (.d (.int k (if n > m then n else m)))
   | .builtin .min, [x, y], _ => ∃ k m n, UI P σ x k m /\ UI P σ y k n /\ v = .one (.d (.int k (if n < m then n else m)))
   | _, _, _ => False)
 | _ => False
end Go.Vm
namespace Go.Vm
section
variable {P : Program} {T0 : CS} {B : Nat -> Prop} {σ : St} {a : Act} {w : World} {X : Nat -> Prop} {h : Nat -> Nat -> Hd}
theorem xk (b off n : Nat) : (⟨b, off, none⟩ : Addr).add n = ⟨b, off + n, none⟩ := by
 unfold Addr.add; split <;> simp_all
theorem kZ {T : TypeId} (ht : qf P T = true) : ∃ d i, P.underlying T = some d /\ P.info? T = some i /\ i.size = P.cellsOf T /\ (TW P T = true \/ P.cellsOf T = 1) := by
 simp only [qf, Bool.and_eq_true, Bool.or_eq_true, beq_iff_eq] at ht
 obtain ⟨⟨h1, h2⟩, h3⟩ := ht
 obtain ⟨d, hd⟩ := Option.isSome_iff_exists.1 h1
 obtain ⟨i, hi⟩ := Option.isSome_iff_exists.1 h2
 exact ⟨d, i, hd, hi, by simp [Program.cellsOf, hi], h3⟩
theorem P6 {T : TypeId} {d : TypeDesc} (hd : P.underlying T = some d) (w : World) : (isAgg T).run P w = .ok (TW P T) w := by
 unfold isAgg TW
 rw [hd]
 simp only [Sem.run_bind, run_underlying hd, Result.andThen_ok]
 cases d <;> simp
theorem zC {T : TypeId} {i : TypeInfo} (hi : P.info? T = some i) (w : World) : (sizeOf T).run P w = .ok (P.cellsOf T) w := by
 simp [sizeOf, typeInfo, hi, Program.cellsOf]
theorem r7 {T : TypeId} (ht : qf P T = true) {b off : Nat} {cs : List Value} (hl : cs.length = P.cellsOf T) (hc : ∀ j v, cs[j]? = some v -> w.cell? ⟨b, off + j, none⟩ = some v) :
  ∃ val, (Instr.loadAt T (.pointer (some ⟨b, off, none⟩))).run P w = .ok val w /\ (TW P T = true -> val = .agg cs.toArray) /\ (TW P T = false -> cs = [val]) := by
 obtain ⟨d, i, hd, hi, gX, gT⟩ := kZ ht
 cases dT : TW P T with
 | true =>
  refine ⟨.agg cs.toArray, ?_, fun _ => rfl, (fun hh => by cases hh)⟩
  have := run_loadCells_list (P := P) w ⟨b, off, none⟩ cs (fun j v hv => by rw [xk]; exact hc j v hv)
  simp only [Instr.loadAt, Instr.sureAddr, loadVar, Sem.run_bind, Sem.run_pure, Result.andThen_ok, P6 hd, dT, if_true, zC hi, <- hl, this]
 | false =>
  rcases gT with gT | gT
  ·rw [dT] at gT; cases gT
  ·rw [gT] at hl
   obtain ⟨val, rfl⟩ := List.length_eq_one_iff.1 hl
   refine ⟨val, ?_, (fun hh => by cases hh), fun _ => rfl⟩
   have hc0 := hc 0 val (by simp)
   simp only [Nat.add_zero] at hc0
   simp [Instr.loadAt, Instr.sureAddr, loadVar, P6 hd, dT, load, Sem.run, hc0]
theorem uq {T : TypeId} (_ht : qf P T = true) {T' : CS} {ob : Nat -> Nat -> Ob} {xs : List At} {cs : List Value} {val : Value} (hx : Z6 (YI T' h ob w) xs cs)
  (h1 : TW P T = true -> val = .agg cs.toArray) (h2 : TW P T = false -> cs = [val]) : JN T' h ob w (ldV P T xs) val := by
 unfold ldV
 cases dT : TW P T with
 | true => simp only [if_true]; exact ⟨_, h1 dT, by simpa using hx⟩
 | false =>
  simp only [Bool.false_eq_true, if_false]
  rw [h2 dT] at hx
  cases hx with
  | cons r hx => cases hx; exact r
theorem Z6.cut {α β : Type} {R : α -> β -> Prop} {l : List α} {m : List β} (x : Z6 R l m) (o n : Nat) : Z6 R (Vm.cut l o n) (Vm.cut m o n) := (x.drop o).take n
theorem XG {α : Type} (l : List α) (o n : Nat) (hl : o + n <= l.length) : (cut l o n).length = n := by simp [cut]; omega
theorem yf {α : Type} (l : List α) (o n j : Nat) (v : α) (hv : (cut l o n)[j]? = some v) : l[o + j]? = some v := by
 simp only [cut, List.getElem?_take, List.getElem?_drop] at hv
 split at hv
 ·exact hv
 ·cases hv
theorem jQ {α : Type} : ∀ (rows : List (List α)) (size : Nat), (∀ r ∈ rows, r.length = size) -> ∀ (i : Nat) (r : List α), rows[i]? = some r -> ∀ (j : Nat) (d : α), r[j]? = some d -> rows.flatten[i * size + j]? = some d
 | [], _, _, i, r, hr, _, _, _ => by simp at hr
 | r0 :: rows, size, hz, 0, r, hr, j, d, hd => by
  simp at hr; subst hr
  have hj : j < r0.length := (List.getElem?_eq_some_iff.1 hd).1
  simp [List.getElem?_append_left hj, hd]
 | r0 :: rows, size, hz, i + 1, r, hr, j, d, hd => by
  have ih := jQ rows size (fun r hr => hz r (by simp [hr])) i r (by simpa using hr) j d hd
  have h0 : r0.length = size := hz r0 (by simp)
  rw [List.flatten_cons, List.getElem?_append_right (by rw [h0, Nat.add_mul]; omega), h0]
  have : (i + 1) * size + j - size = i * size + j := by rw [Nat.add_mul]; omega
  rw [this]; exact ih
theorem YQ {α : Type} (rows : List (List α)) (size : Nat) (hz : ∀ r ∈ rows, r.length = size) : rows.flatten.length = rows.length * size := by
 induction rows with
 | nil => simp
 | cons r rows ih => rw [List.flatten_cons, List.length_append, ih (fun r hr => hz r (by simp [hr])), hz r (by simp), List.length_cons, Nat.add_mul]; omega
theorem Rd.row {T : CS} {v : Value} {size : Nat} {rows : List (List D)} (r : Rd T w v (.sl size rows)) (i : Nat) (hi : i < rows.length) (gX : 0 < size) :
  ∃ a len cap, v = .slice (some a) len cap /\ len = rows.length /\ a.spot = none /\
   ∃ g : Nat -> Value, ∀ k d, (rows.getD i [])[k]? = some d -> w.cell? ⟨a.block, a.off + i * size + k, none⟩ = some (g k) /\ T a.block (a.off + i * size + k) /\ Rd T w (g k) d := by
 cases r with
 | nil => simp at hi
 | sl a len cap size rows g hl hc hm hz hs hg hr =>
  have hO : rows[i]? = some (rows.getD i []) := by simp [List.getD_eq_getElem?_getD, List.getElem?_eq_getElem hi]
  have iU : rows.flatten ≠ [] := by
   have hlen := YQ rows size hz
   have hp : 0 < rows.length * size := Nat.mul_pos (by omega) gX
   intro he
   have h0 : rows.flatten.length = 0 := by rw [he]; rfl
   omega
  refine ⟨a, len, cap, rfl, hl.symm, hs iU, fun k => g (i * size + k), fun k d hd => ?_⟩
  have hf := jQ rows size hz i _ hO k d hd
  have h1 := hg _ _ hf
  rw [Nat.add_assoc]
  exact ⟨h1.1, h1.2, hr _ _ hf⟩
theorem Ee {T : CS} {v : Value} {size : Nat} {rows : List (List D)} (r : Rd T w v (.sl size rows)) : ∀ x ∈ rows, x.length = size := by
 cases r with
 | nil => intro x hx; cases hx
 | sl a len cap size rows g hl hc hm hz hs hg hr => exact hz
theorem vp {T : CS} {v : Value} {size : Nat} {rows : List (List D)} (r : Rd T w v (.sl size rows)) : ∃ base cap, v = .slice base rows.length cap /\ rows.length <= cap /\ cap <= maxLen := by
 cases r with
 | nil => exact ⟨none, 0, rfl, by simp, by simp [maxLen]⟩
 | sl a len cap size rows g hl hc hm hz hs hg hr => exact ⟨some a, cap, by rw [hl], by omega, hm⟩
theorem QN {t : TypeId} (ht : XK P t = true) : ∃ i, P.underlying t = some (.slice (ZQ P t)) /\ P.info? (ZQ P t) = some i /\ i.size = P.cellsOf (ZQ P t) := by
 unfold XK at ht
 split at ht
 ·rename_i e he
  obtain ⟨i, hi⟩ := Option.isSome_iff_exists.1 ht
  have : ZQ P t = e := by simp [ZQ, he]
  rw [this]
  exact ⟨i, he, hi, by simp [Program.cellsOf, hi]⟩
 ·cases ht
theorem GA {t : TypeId} {n : Nat} (ht : AD P t = some n) : ∃ i, P.underlying t = some (.array n (ZQ P t)) /\ P.info? (ZQ P t) = some i /\ i.size = P.cellsOf (ZQ P t) := by
 unfold AD at ht
 split at ht
 ·rename_i m e he
  split at ht
  ·rename_i hh
   cases ht
   obtain ⟨i, hi⟩ := Option.isSome_iff_exists.1 hh
   have : ZQ P t = e := by simp [ZQ, he]
   rw [this]
   exact ⟨i, he, hi, by simp [Program.cellsOf, hi]⟩
  ·cases ht
 ·cases ht
theorem OX {t : TypeId} {f : Nat} (ht : kM P t f = true) : ∃ fs fd i, P.underlying t = some (.struct fs) /\ fs[f]? = some fd /\ fd.offset = Qp P t f /\ fd.type = xy P t f /\ P.info? fd.type = some i /\ i.size ≠ 0 := by
 unfold kM at ht
 split at ht
 ·rename_i fs he
  split at ht
  ·rename_i fd hf
   simp at ht
   obtain ⟨i, hi⟩ := Option.isSome_iff_exists.1 ht.1
   exact ⟨fs, fd, i, he, hf, by simp [Qp, he, hf], by simp [xy, he, hf], hi, by simpa [Program.cellsOf, hi] using ht.2⟩
  ·cases ht
 ·cases ht
theorem jJ {t : TypeId} (ht : U0 P t = true) : P.underlying t = some .string := by
 unfold U0 at ht; split at ht <;> first | assumption | cases ht
theorem Hu {t : TypeId} {k : IntKind} (ht : uF P t = some k) : P.underlying t = some (.int k) := by
 unfold uF at ht
 split at ht
 ·cases ht; assumption
 ·cases ht
theorem SJ {T : CS} {v : Value} {k : IntKind} {n : Int} (r : Rd T w v (.int k n)) : v = .int k n := by cases r; rfl
theorem jm {T : CS} {v : Value} {b : Bool} (r : Rd T w v (.bool b)) : v = .bool b := by cases r; rfl
theorem R2 {T : CS} {v : Value} {s : ByteArray} (r : Rd T w v (.str s)) : v = .string s := by cases r; rfl
theorem xd (r : Rel T0 B σ a w X h) {x : Operand} {k : IntKind} {n : Int} (hx : UI P σ x k n) : a.eval x = .int k n :=
 SJ (r.arg 0 x hx.2 hx.1)
end
end Go.Vm
namespace Go.Vm
section
variable {P : Program} {T0 : CS} {B : Nat -> Prop} {σ : St} {a : Act} {w : World} {X : Nat -> Prop} {h : Nat -> Nat -> Hd}
theorem Own.X4 {v : Value} {d : D} {S : Nat -> Prop} (h : Own w v d S) : v.oneCell' = true := by
 cases h with
 | int => rfl
 | bool => rfl
 | str => rfl
 | unk _ h => exact h
 | sl v size rows S e xs Sk ho hz hb hl hk hs hd => rcases ho.2 with ⟨rfl, _⟩ | ⟨g, cap, cur, rfl, _⟩ <;> rfl
theorem FI {t j i : Nat} : ∀ {xs : List D} {c k : Nat} {x : At}, (Wt t j i c xs)[k]? = some x -> ∃ d, xs[k]? = some d /\ x = (match d with | .sl _ _ => .tref t j i (c + k) none | d => .d d)
 | [], c, k, x, hx => by simp [Wt] at hx
 | d :: xs, c, 0, x, hx => by
  simp only [Wt, List.getElem?_cons_zero] at hx
  cases hx
  exact ⟨d, by simp, by cases d <;> simp⟩
 | d :: xs, c, k + 1, x, hx => by
  simp only [Wt, List.getElem?_cons_succ] at hx
  obtain ⟨d', ir, rfl⟩ := FI hx
  exact ⟨d', by simpa using ir, by cases d' <;> simp; omega⟩
theorem Oa {t j i : Nat} : ∀ (c : Nat) (xs : List D), (Wt t j i c xs).length = xs.length
 | _, [] => rfl
 | c, d :: xs => by simp [Wt, Oa (c + 1) xs]
theorem DW (q : Bool) (t j i c : Nat) (xs : List D) : (Sl q t j i c xs).length = xs.length := by
 cases q <;> simp [Sl, Oa]
theorem Rel.box (r : Rel T0 B σ a w X h) {t : Nat} {cells : List At} (ho : σ.ob t 0 = .box cells) {c : Nat} {v : Value} (hv : YI (Tof T0 X) h σ.ob w (.bptr t c) v) :
  ∃ b cs e, (h t 0).v = .pointer (some ⟨b, 0, none⟩) /\ v = .pointer (some ⟨b, c, none⟩) /\ w.heap[b]? = some (.cells cs e (0, 0)) /\ Z6 (YI (Tof T0 X) h σ.ob w) cells cs.toList := by
 obtain ⟨b, hb, rfl⟩ := hv.2 cells ho
 have hH := r.obj t 0
 rw [ho] at hH
 obtain ⟨b', cs, e, ig, hh, iV⟩ := hH
 rw [hb] at ig
 cases ig
 exact ⟨b, cs, e, hb, rfl, hh, iV⟩
theorem yG {b : Nat} {cs : Array Value} {e : TypeId} {f : Nat × Nat} (hh : w.heap[b]? = some (.cells cs e f)) (k : Nat) (v : Value) (hv : cs.toList[k]? = some v) : w.cell? ⟨b, k, none⟩ = some v := by
 simp only [World.cell?, hh]
 simpa using hv
theorem Rel.arr (r : Rel T0 B σ a w X h) {t j : Nat} {q : Bool} {size : Nat} {rows : List (List D)} (ho : σ.ob t j = .arr q size rows) {i c : Nat} {v : Value} (hv : YI (Tof T0 X) h σ.ob w (.ptr t j i c) v) :
  ∃ b cap cur e xs, (h t j).v = .slice (some ⟨b, 0, none⟩) rows.length cap /\ v = .pointer (some ⟨b, i * size + c, none⟩) /\ w.heap[b]? = some (.cells cur e (0, 0)) /\ rows.length <= cap /\ cap <= maxLen /\ cur.size = cap * size /\
   cur.toList.take (rows.length * size) = xs /\ (∀ r ∈ rows, r.length = size) /\ xs.length = rows.flatten.length /\ (q = false -> Z6 (Rd (Tof T0 X) w) xs rows.flatten) /\
   (q = true -> Jx w xs rows.flatten (fun b => (h t j).u b /\ blk (h t j).v ≠ some b) /\ ∀ k x d, xs[k]? = some x -> rows.flatten[k]? = some d -> d.scalar = false -> (h t j).n k = x) := by
 obtain ⟨b, n, cap, hb, rfl⟩ := hv.2 q size rows ho
 have hH := r.obj t j
 rw [ho] at hH
 cases q with
 | false =>
  obtain ⟨e, xs, iX, hz, iV⟩ := hH
  rcases iX.2 with ⟨h0, _⟩ | ⟨g, cL, cur, hg, _, hh, hle, fU, fK, fo⟩
  ·rw [hb] at h0; cases h0
  ·rw [hb] at hg
   cases hg
   exact ⟨b, cap, cur, e, xs, hb, rfl, hh, hle, fU, fK, fo, hz, iV.length, fun _ => iV, fun hh => by cases hh⟩
 | true =>
  obtain ⟨e, xs, iX, hz, iV, hn⟩ := hH
  rcases iX.2 with ⟨h0, _⟩ | ⟨g, cL, cur, hg, _, hh, hle, fU, fK, fo⟩
  ·rw [hb] at h0; cases h0
  ·rw [hb] at hg
   cases hg
   exact ⟨b, cap, cur, e, xs, hb, rfl, hh, hle, fU, fK, fo, hz, iV.1, (fun hh => by cases hh), fun _ => ⟨iV, hn⟩⟩
theorem uA (r : Rel T0 B σ a w X h) {o : Oper} {T : TypeId} {x : Operand} {v : V} (iS : o.op = .load T x) (hs : Yg P σ o.op o.type v) :
  ∃ val, (execOp a.eval o).run P w = .ok (.value val) w /\ JN (Tof T0 X) h σ.ob w v val := by
 simp only [iS, Yg] at hs
 obtain ⟨hg, eO, hs⟩ := hs
 have hx := r.arg (P := P) 0 x rfl hg
 have key : ∀ (b off : Nat) (xs : List At) (cs : List Value), a.eval x = .pointer (some ⟨b, off, none⟩) -> v = ldV P T xs -> cs.length = P.cellsOf T ->
   (∀ j u, cs[j]? = some u -> w.cell? ⟨b, off + j, none⟩ = some u) -> Z6 (YI (Tof T0 X) h σ.ob w) xs cs -> ∃ val, (execOp a.eval o).run P w = .ok (.value val) w /\ JN (Tof T0 X) h σ.ob w v val := by
  intro b off xs cs he hv hl hc iV
  obtain ⟨val, hr, h1, h2⟩ := r7 (P := P) eO hl hc
  refine ⟨val, ?_, ?_⟩
  ·simp only [execOp, iS, he, Sem.run_bind, hr, Result.andThen_ok, Sem.run_pure]
  ·rw [hv]; exact uq eO iV h1 h2
 split at hs
 ·rename_i t c heq
  rw [heq] at hx
  obtain ⟨cells, ho, hle, hv⟩ := hs
  obtain ⟨b, cs, e, hb, he, hh, iV⟩ := r.box ho hx
  have hlen := iV.length
  refine key b c _ (cut cs.toList c (P.cellsOf T)) he hv (XG _ _ _ (by omega)) (fun j u hu => yG hh _ _ (yf _ _ _ _ _ hu)) (iV.cut _ _)
 ·rename_i t j i c heq
  rw [heq] at hx
  obtain ⟨q, size, rows, ho, hi, hle, hv⟩ := hs
  obtain ⟨b, cap, cur, e, xs, hb, he, hh, gy, fU, fK, fo, hz, ag, iV, iX⟩ := r.arr ho hx
  have hO : rows[i]? = some (rows.getD i []) := by simp [List.getD_eq_getElem?_getD, List.getElem?_eq_getElem hi]
  have er : (rows.getD i []).length = size := hz _ (List.mem_of_getElem? hO)
  have g5 := YQ rows size hz
  have hmul : i * size + size <= rows.length * size := by rw [<- Nat.succ_mul]; exact Nat.mul_le_mul_right _ hi
  have db : ∀ k d', (cut (rows.getD i []) c (P.cellsOf T))[k]? = some d' -> rows.flatten[i * size + c + k]? = some d' := by
   intro k d' ir
   have h2 := jQ rows size hz i _ hO (c + k) d' (yf _ _ _ _ _ ir)
   rw [show i * size + c + k = i * size + (c + k) by omega]; exact h2
  refine key b (i * size + c) _ (cut xs (i * size + c) (P.cellsOf T)) he hv (XG _ _ _ (by omega)) (fun j u hu => ?_) ?_
  ·have h1 := yf _ _ _ _ _ hu
   refine yG hh _ _ ?_
   rw [<- fo, List.getElem?_take] at h1
   split at h1
   ·exact h1
   ·cases h1
  ·refine Z6.kA (by rw [XG _ _ _ (by omega), DW, XG _ _ _ (by omega)]) (fun k x u hx hu => ?_)
   have h1 := yf _ _ _ _ _ hu
   cases q with
   | false =>
    obtain ⟨d, hd, hr⟩ := (iV rfl).get _ _ h1
    simp only [Sl] at hx
    rw [List.getElem?_map] at hx
    cases ir : (cut (rows.getD i []) c (P.cellsOf T))[k]? with
    | none => rw [ir] at hx; cases hx
    | some d' =>
     rw [ir] at hx
     cases hx
     rw [db k d' ir] at hd
     cases hd
     exact hr
   | true =>
    obtain ⟨⟨_, Sk, iX, _, _⟩, hn⟩ := iX rfl
    simp only [Sl] at hx
    obtain ⟨d', ir, rfl⟩ := FI hx
    have hD := iX _ _ _ h1 (db k d' ir)
    cases d' with
    | sl s rs =>
     refine ⟨hD.X4, fun hJ iW eR => ?_⟩
     rw [ho] at eR; cases eR
     show _ = _
     rw [<- hn _ _ _ h1 (db k _ ir) rfl, Nat.add_assoc]
    | int k n => cases hD; exact .int _ _
    | bool b => cases hD; exact .bool _
    | str s => cases hD; exact .str _
    | unk => exact .unk _ hD.X4
 ·rename_i rr c heq
  rw [heq] at hx
  obtain ⟨hle, hv⟩ := hs
  obtain ⟨b, off, g, he, hk⟩ := hx
  refine key b (off + c) _ ((List.range (P.cellsOf T)).map fun j => g (c + j)) he hv (by simp) (fun j u hu => ?_) ?_
  ·rw [List.getElem?_map] at hu
   rcases Nat.lt_or_ge j (P.cellsOf T) with hj | hj
   ·rw [List.getElem?_range hj] at hu
    cases hu
    have hd := hk (c + j) (rr[c + j]'(by omega)) (List.getElem?_eq_getElem _)
    rw [Nat.add_assoc]; exact hd.1
   ·rw [List.getElem?_eq_none (by simpa using hj)] at hu; cases hu
  ·refine Z6.kA (by rw [List.length_map, XG _ _ _ (by omega)]; simp) (fun k x u hx hu => ?_)
   rw [List.getElem?_map] at hx hu
   cases ir : (cut rr c (P.cellsOf T))[k]? with
   | none => rw [ir] at hx; cases hx
   | some d' =>
    rw [ir] at hx
    cases hx
    have hkl : k < P.cellsOf T := by have := (List.getElem?_eq_some_iff.1 ir).1; rw [XG _ _ _ (by omega)] at this; exact this
    rw [List.getElem?_range hkl] at hu
    cases hu
    exact (hk (c + k) d' (yf _ _ _ _ _ ir)).2.2
 ·exact hs.elim
theorem US {T : TypeId} {f : Nat} (hf : kM P T f = true) (b off : Nat) : (Instr.fieldAt T (.pointer (some ⟨b, off, none⟩)) f).run P w = .ok (.pointer (some ⟨b, off + Qp P T f, none⟩)) w := by
 obtain ⟨fs, fd, i, hu, hfd, cj, eO, hi, iU⟩ := OX hf
 have hZ : P.cellsOf fd.type ≠ 0 := by simpa [Program.cellsOf, hi] using iU
 simp [Instr.fieldAt, run_underlying hu, hfd, Instr.sureAddr, fieldPlace, zC hi, hZ, xk, cj]
theorem HJ (r : Rel T0 B σ a w X h) {o : Oper} {T : TypeId} {x : Operand} {f : Nat} {v : V} (iS : o.op = .fieldAddr T x f) (hs : Yg P σ o.op o.type v) :
  ∃ val, (execOp a.eval o).run P w = .ok (.value val) w /\ JN (Tof T0 X) h σ.ob w v val := by
 simp only [iS, Yg] at hs
 obtain ⟨hg, hf, hs⟩ := hs
 have hx := r.arg (P := P) 0 x rfl hg
 split at hs
 ·rename_i t c heq
  rw [heq] at hx
  obtain ⟨⟨cells, ho⟩, rfl⟩ := hs
  obtain ⟨b, hb, he⟩ := hx.2 cells ho
  refine ⟨.pointer (some ⟨b, c + Qp P T f, none⟩), by simp only [execOp, iS, he, Sem.run_bind, US hf, Result.andThen_ok, Sem.run_pure], rfl, fun im _ => ⟨b, hb, rfl⟩⟩
 ·rename_i t j i c heq
  rw [heq] at hx
  obtain ⟨⟨q, size, rows, ho⟩, rfl⟩ := hs
  obtain ⟨b, n, cap, hb, he⟩ := hx.2 q size rows ho
  refine ⟨.pointer (some ⟨b, i * size + c + Qp P T f, none⟩), by simp only [execOp, iS, he, Sem.run_bind, US hf, Result.andThen_ok, Sem.run_pure], rfl, fun q' hJ iW hD => ?_⟩
  rw [ho] at hD
  cases hD
  exact ⟨b, n, cap, hb, by rw [Nat.add_assoc]⟩
 ·rename_i rr c heq
  rw [heq] at hx
  subst hs
  obtain ⟨b, off, g, he, hk⟩ := hx
  exact ⟨.pointer (some ⟨b, off + c + Qp P T f, none⟩), by simp only [execOp, iS, he, Sem.run_bind, US hf, Result.andThen_ok, Sem.run_pure], b, off, g, by rw [Nat.add_assoc], hk⟩
 ·rename_i t j i c k heq
  rw [heq] at hx
  obtain ⟨⟨size, rows, ho⟩, rfl⟩ := hs
  obtain ⟨b, n, cap, hb, he⟩ := hx.2 size rows ho
  refine ⟨.pointer (some ⟨b, k + Qp P T f, none⟩), by simp only [execOp, iS, he, Sem.run_bind, US hf, Result.andThen_ok, Sem.run_pure], rfl, fun hJ iW hD => ?_⟩
  rw [ho] at hD
  cases hD
  exact ⟨b, n, cap, hb, rfl⟩
 ·exact hs.elim
theorem FM (r : Rel T0 B σ a w X h) {o : Oper} {x : Operand} {v : V} (iS : o.op = .nilCheck x) (hs : Yg P σ o.op o.type v) :
  ∃ val, (execOp a.eval o).run P w = .ok (.value val) w /\ JN (Tof T0 X) h σ.ob w v val := by
 simp only [iS, Yg] at hs
 obtain ⟨hg, hs⟩ := hs
 have hx := r.arg (P := P) 0 x rfl hg
 split at hs
 ·rename_i t c heq
  rw [heq] at hx
  obtain ⟨⟨cells, ho⟩, rfl⟩ := hs
  obtain ⟨b, hb, he⟩ := hx.2 cells ho
  exact ⟨.pointer (some ⟨b, c, none⟩), by simp only [execOp, iS, he, Sem.run_pure], rfl, fun im _ => ⟨b, hb, rfl⟩⟩
 ·exact hs.elim
theorem R8 {T : TypeId} (ht : XK P T = true) (ad : Addr) (dr : ad.spot = none) (len cap : Nat) (k : IntKind) (i : Int) (h0 : 0 <= i) (hl : i < (len : Int)) :
  (Instr.indexAt T (.slice (some ad) len cap) (.int k i)).run P w = .ok (.pointer (some ⟨ad.block, ad.off + i.toNat * P.cellsOf (ZQ P T), none⟩)) w := by
 obtain ⟨ti, hu, hi, gX⟩ := QN ht
 obtain ⟨b, off, sp⟩ := ad
 simp at dr; subst dr
 simp [Instr.indexAt, asIntOf, run_underlying hu, h0, hl, zC hi, xk]
theorem Ab {T : TypeId} {n : Nat} (ht : AD P T = some n) (_h1 : 1 < n) (b off : Nat) (k : IntKind) (i : Int) (h0 : 0 <= i) (hl : i < (n : Int)) :
  (Instr.indexAt T (.pointer (some ⟨b, off, none⟩)) (.int k i)).run P w = .ok (.pointer (some ⟨b, off + i.toNat * P.cellsOf (ZQ P T), none⟩)) w := by
 obtain ⟨ti, hu, hi, gX⟩ := GA ht
 simp [Instr.indexAt, Instr.sureAddr, asIntOf, run_underlying hu, h0, hl, zC hi, xk]
theorem Own.hdr {v : Value} {n : Nat} {s : List (List D)} {S : Nat -> Prop} (h : Own w v (.sl n s) S) (hp : 0 < s.length) : ∃ b cap, v = .slice (some ⟨b, 0, none⟩) s.length cap := by
 cases h with
 | sl v size rows S e xs Sk ho hz hb hl hk hs hd =>
  obtain ⟨_, ⟨_, h0⟩ | ⟨g, cap, cur, hv, _⟩⟩ := ho
  ·omega
  ·exact ⟨g, cap, hv⟩
theorem Rel.nest (r : Rel T0 B σ a w X h) {t j i c size n : Nat} {rows s : List (List D)} (ho : σ.ob t j = .arr true size rows) (hi : i < rows.length) (ib : (rows.getD i [])[c]? = some (.sl n s)) : ∃ v0 S, (h t j).n (i * size + c) = v0 /\ Own w v0 (.sl n s) S := by
 have h0 := r.obj t j
 rw [ho] at h0
 obtain ⟨e, vs, fV, hz, ⟨hl, Sk, o1, o2, o3⟩, hn⟩ := h0
 have hO : rows[i]? = some (rows.getD i []) := by simp [List.getD_eq_getElem?_getD, List.getElem?_eq_getElem hi]
 have gb : rows.flatten[i * size + c]? = some (.sl n s) := jQ rows size hz i _ hO c _ ib
 have ij : i * size + c < vs.length := by rw [hl]; exact (List.getElem?_eq_some_iff.1 gb).1
 have du : vs[i * size + c]? = some vs[i * size + c] := List.getElem?_eq_getElem ij
 exact ⟨_, _, hn _ _ _ du gb rfl, o1 _ _ _ du gb⟩
theorem Iv (r : Rel T0 B σ a w X h) {o : Oper} {T : TypeId} {x ix : Operand} {v : V} (iS : o.op = .indexAddr T x ix) (hs : Yg P σ o.op o.type v) :
  ∃ val, (execOp a.eval o).run P w = .ok (.value val) w /\ JN (Tof T0 X) h σ.ob w v val := by
 simp only [iS, Yg] at hs
 obtain ⟨k, i, hix, h0, hg, hs⟩ := hs
 have hx := r.arg (P := P) 0 x rfl hg
 have bY := xd r hix
 split at hs
 ·rename_i size rows heq
  rw [heq] at hx
  obtain ⟨ht, rfl, gk, ij, rfl⟩ := hs
  have hil : i.toNat < rows.length := by omega
  obtain ⟨ad, len, cap, he, hlen, dr, g, hk⟩ := Rd.row (show Rd _ _ _ _ from hx) i.toNat hil gk
  refine ⟨.pointer (some ⟨ad.block, ad.off + i.toNat * P.cellsOf (ZQ P T), none⟩), by simp only [execOp, iS, he, bY, Sem.run_bind, R8 ht ad dr len cap k i h0 (by omega), Result.andThen_ok, Sem.run_pure], ad.block, ad.off + i.toNat * P.cellsOf (ZQ P T), g, by simp, hk⟩
 ·rename_i t j lo len heq
  rw [heq] at hx
  obtain ⟨ht, gk, ⟨q, rows, ho⟩, ij, rfl⟩ := hs
  obtain ⟨hle, _, _, base, cap, he, gy, _, _, hb⟩ := hx.2.1 _ _ rows ho
  obtain ⟨b, ek, hh, fu⟩ := hb (by omega)
  rw [fu] at he
  refine ⟨.pointer (some ⟨b, lo * P.cellsOf (ZQ P T) + i.toNat * P.cellsOf (ZQ P T), none⟩), by simp only [execOp, iS, he, bY, Sem.run_bind, R8 ht ⟨b, lo * P.cellsOf (ZQ P T), none⟩ rfl len cap k i h0 ij, Result.andThen_ok, Sem.run_pure], rfl, fun q' hJ iW hD => ?_⟩
  rw [ho] at hD
  cases hD
  exact ⟨b, rows.length, ek, hh, by simp [Nat.add_mul]⟩
 ·rename_i t c heq
  rw [heq] at hx
  obtain ⟨⟨cells, ho⟩, ⟨n, hn, h1, ij⟩, rfl⟩ := hs
  obtain ⟨b, hb, he⟩ := hx.2 cells ho
  exact ⟨.pointer (some ⟨b, c + i.toNat * P.cellsOf (ZQ P T), none⟩), by simp only [execOp, iS, he, bY, Sem.run_bind, Ab hn h1 b c k i h0 ij, Result.andThen_ok, Sem.run_pure], rfl, fun im _ => ⟨b, hb, rfl⟩⟩
 ·rename_i t j m c heq
  rw [heq] at hx
  obtain ⟨ht, gk, ⟨size, rows, s, ho, hm, ib, ij⟩, rfl⟩ := hs
  obtain ⟨v0, S, hn, iX⟩ := r.nest ho hm ib
  have he : a.eval x = v0 := by rw [<- hn]; exact hx.2 size rows ho
  obtain ⟨b, cap, ck⟩ := iX.hdr (by omega)
  rw [ck] at he hn
  refine ⟨.pointer (some ⟨b, 0 + i.toNat * P.cellsOf (ZQ P T), none⟩), by simp only [execOp, iS, he, bY, Sem.run_bind, R8 ht ⟨b, 0, none⟩ rfl s.length cap k i h0 ij, Result.andThen_ok, Sem.run_pure], rfl, fun hJ iW hD => ?_⟩
  rw [ho] at hD
  cases hD
  exact ⟨b, s.length, cap, hn, by simp⟩
 ·exact hs.elim
end
end Go.Vm
namespace Go.Vm
section
variable {P : Program} {T0 : CS} {B : Nat -> Prop} {σ : St} {a : Act} {w : World} {X : Nat -> Prop} {h : Nat -> Nat -> Hd}
theorem rP {T : TypeId} (ht : qf P T = true) {cs : Array Value} {off : Nat} (hl : off + P.cellsOf T <= cs.size) :
  ∃ val, (part T cs off).run P w = .ok val w /\ (TW P T = true -> val = .agg (cut cs.toList off (P.cellsOf T)).toArray) /\ (TW P T = false -> cut cs.toList off (P.cellsOf T) = [val]) := by
 obtain ⟨d, i, hd, hi, gX, gT⟩ := kZ ht
 cases dT : TW P T with
 | true =>
  refine ⟨.agg (cs.extract off (off + P.cellsOf T)), ?_, fun _ => ?_, (fun hh => by cases hh)⟩
  ·simp only [part, Sem.run_bind, P6 hd, dT, Result.andThen_ok, if_true, zC hi, Sem.run_pure]
  ·congr 1
   apply Array.toList_inj.1
   simp [cut, Array.toList_extract, List.extract_eq_take_drop]
 | false =>
  rcases gT with gT | gT
  ·rw [dT] at gT; cases gT
  ·rw [gT] at hl ⊢
   have ij : off < cs.size := by omega
   refine ⟨cs[off], ?_, (fun hh => by cases hh), fun _ => ?_⟩
   ·simp [part, P6 hd, dT, Array.getElem?_eq_getElem ij]
   ·have : cut cs.toList off 1 = [cs.toList[off]'(by simpa using ij)] := by
     simp only [cut]
     rw [List.drop_eq_getElem_cons (by simpa using ij)]
     simp
    rw [this]
    simp
theorem vB {T : TypeId} (ht : qf P T = true) {xs : List At} {x : Value} {off : Nat} (hx : JN (Tof T0 X) h σ.ob w (.agg xs) x) (hl : off + P.cellsOf T <= xs.length) :
  ∃ cs : Array Value, x = .agg cs /\ ∃ val, (part T cs off).run P w = .ok val w /\ JN (Tof T0 X) h σ.ob w (ldV P T (cut xs off (P.cellsOf T))) val := by
 obtain ⟨cs, rfl, iV⟩ := hx
 obtain ⟨val, hr, h1, h2⟩ := rP (P := P) (w := w) ht (cs := cs) (off := off) (by have := iV.length; simp at this; omega)
 exact ⟨cs, rfl, val, hr, uq ht (iV.cut _ _) h1 h2⟩
theorem wD (r : Rel T0 B σ a w X h) {o : Oper} {T : TypeId} {x ix : Operand} {v : V} (iS : o.op = .index T x ix) (hs : Yg P σ o.op o.type v) :
  ∃ val, (execOp a.eval o).run P w = .ok (.value val) w /\ JN (Tof T0 X) h σ.ob w v val := by
 simp only [iS, Yg] at hs
 obtain ⟨k, i, hix, h0, hg, hs⟩ := hs
 have hx := r.arg (P := P) 0 x rfl hg
 have bY := xd r hix
 split at hs
 ·rename_i s heq
  rw [heq] at hx
  obtain ⟨ht, ij, rfl⟩ := hs
  have he := R2 hx
  have hil : i.toNat < s.size := by omega
  refine ⟨.int .u8 (s.data.toList.getD i.toNat 0).toNat, ?_, .int _ _⟩
  have gY : s[i.toNat]? = some (s.data.toList.getD i.toNat 0) := by
   rw [List.getD_eq_getElem?_getD]
   have h1 : s.data.toList[i.toNat]? = some (s.data[i.toNat]'hil) := by
    rw [List.getElem?_eq_getElem (by simpa using hil)]; simp
   rw [h1, getElem?_pos s i.toNat hil]
   rfl
  simp [execOp, iS, he, bY, Instr.index, asIntOf, run_underlying (jJ ht), h0, gY]
 ·rename_i xs heq
  rw [heq] at hx
  obtain ⟨⟨n, hn, ij⟩, ht, hl, rfl⟩ := hs
  obtain ⟨ti, hu, hi, gX⟩ := GA hn
  obtain ⟨cs, he, val, hr, hv⟩ := vB ht hx hl
  refine ⟨val, ?_, hv⟩
  simp [execOp, iS, he, bY, Instr.index, asIntOf, run_underlying hu, h0, ij, zC hi, hr]
 ·exact hs.elim
theorem Az (r : Rel T0 B σ a w X h) {o : Oper} {T : TypeId} {x : Operand} {f : Nat} {v : V} (iS : o.op = .field T x f) (hs : Yg P σ o.op o.type v) :
  ∃ val, (execOp a.eval o).run P w = .ok (.value val) w /\ JN (Tof T0 X) h σ.ob w v val := by
 simp only [iS, Yg] at hs
 obtain ⟨hg, hf, ht, hs⟩ := hs
 have hx := r.arg (P := P) 0 x rfl hg
 split at hs
 ·rename_i xs heq
  rw [heq] at hx
  obtain ⟨hl, rfl⟩ := hs
  obtain ⟨fs, fd, i, hu, hfd, cj, eO, hi, iU⟩ := OX hf
  obtain ⟨cs, he, val, hr, hv⟩ := vB ht hx hl
  refine ⟨val, ?_, hv⟩
  rw [<- cj, <- eO] at hr
  simp [execOp, iS, he, Instr.field, run_underlying hu, hfd, asAgg, hr]
 ·exact hs.elim
theorem B4 (r : Rel T0 B σ a w X h) {g4 n y : Nat} {x : Option Operand} {code : BoundsCode} (hb : bnd P σ g4 x n) (hy : n <= y) (iU : x ≠ none) :
  (Instr.sliceBound ((x.map a.eval).getD undef) y code).run P w = .ok n w := by
 cases x with
 | none => exact absurd rfl iU
 | some x =>
  obtain ⟨k, i, hg, hx, h0, rfl⟩ := hb
  have he := SJ (r.arg (P := P) 0 x hx hg)
  have : i <= (y : Int) := by omega
  simp [he, Instr.sliceBound, asIntOf, h0, this]
theorem O7 (r : Rel T0 B σ a w X h) {sl : Bool} {len cap l hh : Nat} {lo hi : Option Operand} (eN : bnd P σ 0 lo l) (dZ : bnd P σ len hi hh) (h1 : l <= hh) (h2 : hh <= cap) :
  (Instr.sliceBounds sl len cap (lo.map a.eval) (hi.map a.eval) none).run P w = .ok (l, hh, cap) w := by
 unfold Instr.sliceBounds
 cases hi with
 | none =>
  cases dZ
  cases lo with
  | none => cases eN; simp
  | some x =>
   have := B4 (w := w) r (code := .sliceB) eN h1 (by simp)
   simp at this
   simp [this]
 | some y =>
  have hb := B4 (w := w) r (code := if sl then .sliceAcap else .sliceAlen) dZ h2 (by simp)
  simp at hb
  cases lo with
  | none => cases eN; simp [hb]
  | some x =>
   have := B4 (w := w) r (code := .sliceB) eN h1 (by simp)
   simp at this
   simp [this, hb]
theorem jX {α : Type} (rows : List (List α)) (size l n : Nat) (hz : ∀ r ∈ rows, r.length = size) (k : Nat) (d : α) (hd : (cut rows l n).flatten[k]? = some d) : rows.flatten[l * size + k]? = some d := by
 induction rows generalizing l with
 | nil => simp [cut] at hd
 | cons r rows ih =>
  have hr : r.length = size := hz r (by simp)
  cases l with
  | zero =>
   simp only [cut, List.drop_zero, Nat.zero_mul, Nat.zero_add] at hd ⊢
   have aj : (r :: rows).flatten = ((r :: rows).take n).flatten ++ ((r :: rows).drop n).flatten := by rw [<- List.flatten_append, List.take_append_drop]
   rw [aj, List.getElem?_append_left (List.getElem?_eq_some_iff.1 hd).1]; exact hd
  | succ l =>
   have := ih l (fun r hr => hz r (by simp [hr])) (by simpa [cut] using hd)
   rw [List.flatten_cons, List.getElem?_append_right (by rw [hr, Nat.add_mul]; omega), hr]
   rw [show (l + 1) * size + k - size = l * size + k by rw [Nat.add_mul]; omega]; exact this
theorem Rd.cut {T : CS} {v : Value} {size : Nat} {rows : List (List D)} {base : Option Addr} {len cap : Nat} (hv : v = .slice base len cap) (r : Rd T w v (.sl size rows)) (l hh : Nat) (h1 : l <= hh) (h2 : hh <= rows.length) (_hsz : 0 < size \/ True) :
  Rd T w (.slice (if cap = l then base else base.map (·.add (l * size))) (hh - l) (cap - l)) (.sl size (Vm.cut rows l (hh - l))) := by
 subst hv
 cases r with
 | nil =>
  simp at h2; subst h2
  have : l = 0 := by omega
  subst this
  simp [Vm.cut]; exact .nil _
 | sl a len cap size rows g hl hc hm hz hs hg hr =>
  have hlen : (Vm.cut rows l (hh - l)).length = hh - l := XG _ _ _ (by omega)
  have fW : ∀ r ∈ Vm.cut rows l (hh - l), r.length = size := fun r hr => hz r (List.mem_of_mem_drop (List.mem_of_mem_take hr))
  by_cases gP : cap = l
  ·have h0 : hh - l = 0 := by omega
   have eU : Vm.cut rows l (hh - l) = [] := List.eq_nil_of_length_eq_zero (by omega)
   rw [if_pos gP, eU, h0]
   exact .sl a 0 (cap - l) size [] g rfl (Nat.zero_le _) (by omega) (by intro r hr; cases hr) (by simp) (by simp) (by simp)
  ·rw [if_neg gP]
   refine .sl (a.add (l * size)) (hh - l) (cap - l) size _ (fun k => g (l * size + k)) hlen (by omega) (by omega) fW (fun iU => ?_) (fun k d hd => ?_) (fun k d hd => hr _ _ (jX rows size l _ hz k d hd))
   ·have : rows.flatten ≠ [] := by
     intro he
     apply iU
     cases gB : (Vm.cut rows l (hh - l)).flatten with
     | nil => rfl
     | cons d ds =>
      have := jX rows size l (hh - l) hz 0 d (by rw [gB]; rfl)
      rw [he] at this; simp at this
    have dr := hs this
    unfold Addr.add; split <;> simp [dr]
   ·have dr : a.spot = none := hs (by
     intro he
     have := jX rows size l (hh - l) hz k d hd
     rw [he] at this; simp at this)
    have := hg _ _ (jX rows size l (hh - l) hz k d hd)
    obtain ⟨b, off, sp⟩ := a
    simp at dr; subst dr
    rw [xk]
    simp only [Nat.add_assoc] at this ⊢
    exact this
theorem vI (r : Rel T0 B σ a w X h) {o : Oper} {T : TypeId} {x : Operand} {lo hi : Option Operand} {v : V} (iS : o.op = .slice T x lo hi none) (hs : Yg P σ o.op o.type v) :
  ∃ val, (execOp a.eval o).run P w = .ok (.value val) w /\ JN (Tof T0 X) h σ.ob w v val := by
 simp only [iS, Yg] at hs
 obtain ⟨hg, hs⟩ := hs
 have hx := r.arg (P := P) 0 x rfl hg
 split at hs
 ·rename_i s heq
  rw [heq] at hx
  obtain ⟨ht, l, hh, eN, dZ, h1, h2, rfl⟩ := hs
  have he := R2 hx
  have hb := O7 (w := w) r (sl := false) eN dZ h1 h2
  refine ⟨.string (s.extract l hh), ?_, .str _⟩
  simp [execOp, iS, he, Instr.sliceAt, Instr.slice, run_underlying (jJ ht), hb]
 ·rename_i size rows heq
  rw [heq] at hx
  obtain ⟨ht, rfl, l, hh, eN, dZ, h1, h2, rfl⟩ := hs
  obtain ⟨ti, hu, fH, gX⟩ := QN ht
  obtain ⟨base, cap, he, gy, fU⟩ := vp (show Rd _ _ _ _ from hx)
  have hb := O7 (w := w) r (sl := true) (cap := cap) eN dZ h1 (by omega)
  refine ⟨_, ?_, Rd.cut he hx l hh h1 h2 (.inr trivial)⟩
  simp [execOp, iS, he, Instr.sliceAt, Instr.slice, run_underlying hu, hb, zC fH]
 ·rename_i t j lo0 len heq
  rw [heq] at hx
  obtain ⟨ht, ⟨q, rows, ho⟩, l, hh, eN, dZ, h1, h2, rfl⟩ := hs
  obtain ⟨ti, hu, fH, gX⟩ := QN ht
  obtain ⟨hle, gp, fv, base, cap, he, gy, fU, cm, hbs⟩ := hx.2.1 _ _ rows ho
  have hb := O7 (w := w) r (sl := true) (cap := cap) eN dZ h1 (by omega)
  refine ⟨.slice (if cap = l then base else base.map (·.add (l * P.cellsOf (ZQ P T)))) (hh - l) (cap - l), ?_, rfl, fun q' hJ iW hD => ?_, fun hJ iW hD => by rw [ho] at hD; cases hD⟩
  ·simp [execOp, iS, he, Instr.sliceAt, Instr.slice, run_underlying hu, hb, zC fH]
  ·rw [ho] at hD
   cases hD
   refine ⟨by omega, fun aJ hl1 => ?_, fun hl1 => ?_, _, cap - l, rfl, by omega, by omega, fun hn => ?_, fun gk => ?_⟩
   ·have hl : l = 0 := by omega
    subst hl
    have : len = rows.length := by omega
    have hv := gp this (by omega)
    rw [<- hv, he]
    simp only [Nat.sub_zero, Nat.zero_mul]
    have h3 : hh = len := by omega
    rw [h3]
    congr 1
    split
    ·rfl
    ·cases base <;> simp [Addr.add]
   ·have hl : l = 0 := by omega
    subst hl
    have hv := fv (by omega)
    rw [he] at hv
    have hh0 : (if cap = 0 then base else base.map (·.add (0 * P.cellsOf (ZQ P T)))) = base := by
     split
     ·rfl
     ·cases base <;> simp [Addr.add]
    rw [hh0]
    unfold CQ at hv ⊢
    revert hv
    cases (h t j).v with
    | slice b n c => intro hv; cases hv; simp
    | _ => intro hv; cases hv
   ·have bj : base = none := by
     by_cases gP : cap = l
     ·rw [if_pos gP] at hn; exact hn
     ·rw [if_neg gP] at hn; simpa using hn
    have := cm bj; omega
   ·obtain ⟨b, ek, cp, fu⟩ := hbs (by omega)
    refine ⟨b, ek, cp, ?_⟩
    rw [if_neg (by omega), fu]
    simp [xk, Nat.add_mul]
 ·exact hs.elim
end
end Go.Vm
namespace Go.Vm
section
variable {P : Program} {T0 : CS} {B : Nat -> Prop} {σ : St} {a : Act} {w : World} {X : Nat -> Prop} {h : Nat -> Nat -> Hd}
theorem vq {α : Type} (l : List α) (k : Nat) (v : α) (vs : List α) (hk : k + (vs.length + 1) <= l.length) : place (l.set k v) (k + 1) vs = place l k (v :: vs) := by
 unfold place
 have h1 : (l.set k v).take (k + 1) = l.take k ++ [v] := by
  rw [List.take_set, List.take_succ_eq_append_getElem (by omega)]
  rw [List.set_append_right _ _ (by simp; omega)]
  simp [Nat.min_eq_left (show k <= l.length by omega)]
 have h2 : (l.set k v).drop (k + 1 + vs.length) = l.drop (k + (vs.length + 1)) := by
  rw [List.drop_set_of_lt (by omega)]; congr 1; omega
 rw [h1, h2]; simp
theorem Lr (off : Nat) : ∀ (vs : List Value) (j : Nat) (cs : Array Value), off + j + vs.length <= cs.size ->
  ((vs.zipIdx j).foldl (fun cs x => cs.setIfInBounds (off + x.2) x.1) cs).toList = place cs.toList (off + j) vs
 | [], j, cs, _ => by simp [place]
 | v :: vs, j, cs, hl => by
  rw [List.zipIdx_cons, List.foldl_cons, Lr off vs (j + 1) _ (by simp at hl ⊢; omega)]
  rw [Array.toList_setIfInBounds, show off + (j + 1) = off + j + 1 by omega, vq _ _ _ _ (by simp at hl ⊢; omega)]
theorem SR (off : Nat) (vs cs : Array Value) (hl : off + vs.size <= cs.size) :
  (vs.zipIdx.foldl (fun cs x => cs.setIfInBounds (off + x.2) x.1) cs).toList = place cs.toList off vs.toList := by
 rw [<- Array.foldl_toList, Array.toList_zipIdx, Lr off vs.toList 0 cs (by simpa using hl)]
 rfl
theorem XX {α : Type} (r : List α) (off : Nat) (xs : List α) (hl : off + xs.length <= r.length) : (place r off xs).length = r.length := by
 simp [place]; omega
theorem Z6.place {α β : Type} {R : α -> β -> Prop} {l : List α} {m : List β} (x : Z6 R l m) (off : Nat) {l' : List α} {m' : List β} (y : Z6 R l' m') : Z6 R (Vm.place l off l') (Vm.place m off m') := by
 unfold Vm.place
 rw [y.length]
 exact ((x.take _).append y).append (x.drop _)
theorem WW {T' : CS} {ob : Nat -> Nat -> Ob} {x : V} {v : Value} (hf : x.flat = true) (hv : JN T' h ob w x v) : Z6 (YI T' h ob w) x.cells v.cells.toList := by
 cases x with
 | one c =>
  have h1 := YI.X4 (show YI _ _ _ _ _ _ from hv)
  have : v.cells = #[v] := by cases v <;> first | rfl | (simp [Value.oneCell'] at h1)
  rw [this]
  exact .cons hv .nil
 | agg xs => obtain ⟨cs, rfl, iV⟩ := hv; exact iV
 | any => cases hf
 | tup xs => cases hf
 | cnd g x => cases hf
 | fix u x => cases hf
theorem G2 (r : Rel T0 B σ a w X h) (T : TypeId) (pl : Nat -> Option (Nat × Nat)) (dB : ∀ i, bOk P T i = true -> pl i = some (Re P T i, P.cellsOf (bTy P T i))) :
  ∀ (ps : List (Nat × Operand)) (row out : List At) (cells : Array Value), Z6 (YI (Tof T0 X) h σ.ob w) row cells.toList -> U5 P σ T ps row out ->
   ∃ im, Instr.fill pl cells (ps.map fun x => (x.1, a.eval x.2)) = some im /\ Z6 (YI (Tof T0 X) h σ.ob w) out im.toList
 | [], row, out, cells, iV, hb => by cases hb; exact ⟨cells, rfl, iV⟩
 | (i, x) :: ps, row, out, cells, iV, hb => by
  obtain ⟨hR, hg, hf, hlen, hle, hb⟩ := hb
  have hx := WW hf (r.arg (P := P) (bTy P T i) x rfl hg)
  have bk := hx.length
  have hl1 := iV.length
  have e1 : cells.toList.length = cells.size := Array.length_toList
  have e2 : (a.eval x).cells.toList.length = (a.eval x).cells.size := Array.length_toList
  have aK := iV.place (Re P T i) hx
  have heq := SR (Re P T i) (a.eval x).cells cells (by omega)
  rw [<- heq] at aK
  obtain ⟨im, h1, h2⟩ := G2 r T pl dB ps _ out _ aK hb
  refine ⟨im, ?_, h2⟩
  have gX : (a.eval x).cells.size = P.cellsOf (bTy P T i) := by omega
  simp only [List.map_cons, Instr.fill, dB i hR]
  rw [if_neg (by simp [gX]; omega)]
  exact h1
theorem run_places (fs : List Field) (cS : ∀ f ∈ fs, (P.info? f.type).isSome = true) (w : World) :
  (fs.mapM (m := Sem) fun f => do pure (f.offset, <- sizeOf f.type)).run P w = .ok (fs.map fun f => (f.offset, P.cellsOf f.type)) w := by
 induction fs with
 | nil => simp
 | cons f fs ih =>
  obtain ⟨i, hi⟩ := Option.isSome_iff_exists.1 (cS f (by simp))
  simp only [List.mapM_cons, Sem.run_bind, zC hi, Result.andThen_ok, Sem.run_pure, ih (fun f hf => cS f (by simp [hf])), List.map_cons]
theorem wI (r : Rel T0 B σ a w X h) {o : Oper} {T : TypeId} {parts : Array (Nat × Operand)} {v : V} (iS : o.op = .build T parts) (hs : Yg P σ o.op o.type v) :
  ∃ val, (execOp a.eval o).run P w = .ok (.value val) w /\ JN (Tof T0 X) h σ.ob w v val := by
 simp only [iS, Yg] at hs
 obtain ⟨hz, dT, z, out, fQ, hb, rfl⟩ := hs
 obtain ⟨i, zv, hi, hzv, gX, fa⟩ := G9 hz fQ
 have ed : (zeroValue T).run P w = .ok zv w := by simp [zeroValue, typeInfo, hi, hzv]
 have dE : (parts.map fun (x : Nat × Operand) => (x.1, a.eval x.2)).toList = parts.toList.map fun x => (x.1, a.eval x.2) := by simp
 unfold TW at dT
 split at dT
 ·rename_i fs hu
  by_cases gx : ∀ f ∈ fs.toList, (P.info? f.type).isSome = true
  ·have dB : ∀ i, bOk P T i = true -> (fs.toList.map fun f => (f.offset, P.cellsOf f.type)).toArray[i]? = some (Re P T i, P.cellsOf (bTy P T i)) := by
    intro i hR
    simp only [bOk, hu, Bool.and_eq_true, decide_eq_true_eq] at hR
    have ij := hR.2
    simp [Re, bTy, hu, Qp, xy, ij]
   obtain ⟨im, h1, h2⟩ := G2 r T _ dB parts.toList z out zv.cells (fa _ _ _ _) hb
   refine ⟨.agg im, ?_, im, rfl, h2⟩
   have hm := run_places (P := P) fs.toList gx w
   have : (fs.mapM (m := Sem) fun f => do pure (f.offset, <- sizeOf f.type)).run P w = .ok (fs.toList.map fun f => (f.offset, P.cellsOf f.type)).toArray w := by
    rw [Array.mapM_eq_mapM_toList]
    change ((fs.toList.mapM (m := Sem) fun f => do pure (f.offset, <- sizeOf f.type)) >>= fun l => pure l.toArray).run P w = _
    simp only [Sem.run_bind, hm, Result.andThen_ok, Sem.run_pure]
   simp only [execOp, iS, Instr.build, Sem.run_bind, ed, Result.andThen_ok, run_underlying hu, this, dE, h1, Sem.run_pure]
  · -- no part can be placed: then there are none
   have eU : parts.toList = [] := by
    cases hp : parts.toList with
    | nil => rfl
    | cons p ps =>
     obtain ⟨i, x⟩ := p
     rw [hp] at hb
     have hR := hb.1
     simp only [bOk, hu, Bool.and_eq_true] at hR
     exact absurd (by intro f hf; exact Array.all_eq_true'.1 hR.1 f (by simpa using hf)) gx
   exfalso
   rw [show (12 : Nat) = 11 + 1 from rfl, kQ, hu] at fQ
   simp only [Option.map_eq_some_iff] at fQ
   obtain ⟨rs, eQ, _⟩ := fQ
   apply gx
   intro f hf
   have : ∀ (l : List Field) (rs : List (List At)), l.mapM (fun f => kQ P 11 f.type) = some rs -> ∀ f ∈ l, (P.info? f.type).isSome = true := by
    intro l
    induction l with
    | nil => intro rs _ f hf; cases hf
    | cons g l ih =>
     intro rs eQ f hf
     simp only [List.mapM_cons, Option.bind_eq_bind, Option.bind_eq_some_iff] at eQ
     obtain ⟨r0, eo, rs', ah, _⟩ := eQ
     rcases List.mem_cons.1 hf with rfl | hf
     ·rw [show (11 : Nat) = 10 + 1 from rfl, kQ] at eo
      cases hi0 : P.info? f.type with
      | some i => rfl
      | none => simp [Program.underlying, hi0] at eo
     ·exact ih rs' ah f hf
   exact this fs.toList rs eQ f hf
 ·rename_i n e hu
  cases bY : P.info? e with
  | none =>
   exfalso
   rw [show (12 : Nat) = 11 + 1 from rfl, kQ, hu] at fQ
   simp only [Option.map_eq_some_iff] at fQ
   obtain ⟨r0, eo, _⟩ := fQ
   rw [show (11 : Nat) = 10 + 1 from rfl, kQ] at eo
   simp [Program.underlying, bY] at eo
  | some ie =>
   have dB : ∀ i, bOk P T i = true -> (fun i => some (i * P.cellsOf e, P.cellsOf e)) i = some (Re P T i, P.cellsOf (bTy P T i)) := by
    intro i _
    simp [Re, bTy, hu]
   obtain ⟨im, h1, h2⟩ := G2 r T _ dB parts.toList z out zv.cells (fa _ _ _ _) hb
   refine ⟨.agg im, ?_, im, rfl, h2⟩
   simp only [execOp, iS, Instr.build, Sem.run_bind, ed, Result.andThen_ok, run_underlying hu, zC bY, dE, h1, Sem.run_pure]
 ·cases dT
theorem MG {t : TypeId} (ht : AS P t = true) {cs : Array Value} {i : Nat} {v : Value} (hv : cs[i]? = some v) : (part t cs i).run P w = .ok v w := by
 unfold AS at ht
 split at ht <;> first | (rename_i hu; simp [part, isAgg, run_underlying hu, hv]) | cases ht
theorem pG {t : TypeId} {T' : CS} {ob : Nat -> Nat -> Ob} {x y : At} {u v : Value} {p : Bool} (hp : sa P t x y = some p) (hx : YI T' h ob w x u) (hy : YI T' h ob w y v) (d : Nat) (w' : World) :
  (Op.equalIn (d + 1) t u v).run P w' = .ok p w' := by
 unfold sa at hp
 split at hp
 ·rename_i k a' k' b'
  split at hp
  ·rename_i hc
   obtain ⟨rfl, hi⟩ := hc
   obtain ⟨k2, cT⟩ := Option.isSome_iff_exists.1 hi
   cases hp
   rw [SJ hx, SJ hy]
   exact Go.run_equalIn_int w' d t _ _ _ _ (Hu cT)
  ·cases hp
 ·split at hp
  ·rename_i hc
   cases hp
   rw [jm hx, jm hy]
   have hu : P.underlying t = some .bool := by
    unfold L9 at hc; split at hc <;> first | assumption | cases hc
   exact Go.run_equalIn_bool' w' d t _ _ hu
  ·cases hp
 ·split at hp
  ·rename_i hc
   cases hp
   rw [R2 hx, R2 hy]
   rw [Go.run_equalIn_string w' d t _ _ (jJ hc), uJ]
  ·cases hp
 ·cases hp
theorem CU {T' : CS} {ob : Nat -> Nat -> Ob} (d : Nat) (cs ds : Array Value) (w' : World) : ∀ (fs : List Field) (i : Nat) (xs ys : List At) (q : Bool), SN P fs i = true -> j7 P fs xs ys = some q ->
  Z6 (YI T' h ob w) xs (cs.toList.drop i) -> Z6 (YI T' h ob w) ys (ds.toList.drop i) -> (Op.eqFields (d + 1) cs ds fs).run P w' = .ok q w'
 | [], i, xs, ys, q, _, hq, _, _ => by simp [j7] at hq; subst hq; simp [Op.eqFields]
 | f :: fs, i, [], ys, q, _, hq, _, _ => by simp [j7] at hq
 | f :: fs, i, x :: xs, [], q, _, hq, _, _ => by simp [j7] at hq
 | f :: fs, i, x :: xs, y :: ys, q, hR, hq, hx, hy => by
  simp only [SN, Bool.and_eq_true, decide_eq_true_eq, beq_iff_eq] at hR
  obtain ⟨⟨⟨hn, ho⟩, gn⟩, hR⟩ := hR
  simp only [j7] at hq
  split at hq
  ·rename_i p q' hp ej
   cases hq
   cases hcd : cs.toList.drop i with
   | nil => rw [hcd] at hx; cases hx
   | cons u us =>
    cases fB : ds.toList.drop i with
    | nil => rw [fB] at hy; cases hy
    | cons v vs =>
     rw [hcd] at hx; rw [fB] at hy
     cases hx with
     | cons hxu hx =>
      cases hy with
      | cons hyv hy =>
       have hu : cs[i]? = some u := by
        have : (cs.toList.drop i)[0]? = some u := by rw [hcd]; rfl
        simpa using this
       have hv : ds[i]? = some v := by
        have : (ds.toList.drop i)[0]? = some v := by rw [fB]; rfl
        simpa using this
       have hus : cs.toList.drop (i + 1) = us := by rw [<- List.drop_drop, hcd]; rfl
       have du : ds.toList.drop (i + 1) = vs := by rw [<- List.drop_drop, fB]; rfl
       have ih := CU d cs ds w' fs (i + 1) xs ys q' hR ej (by rw [hus]; exact hx) (by rw [du]; exact hy)
       subst ho
       simp only [Op.eqFields, if_pos hn, Sem.run_bind, MG gn hu, MG gn hv, Result.andThen_ok, pG hp hxu hyv d w']
       cases p
       ·simp
       ·simpa using ih
  ·cases hq
theorem tC {T : TypeId} {T' : CS} {ob : Nat -> Nat -> Ob} {xs ys : List At} {u v : Value} {q : Bool} (hR : TQ P T = true) (hq : j7 P (P.fieldsOf T).toList xs ys = some q)
  (hx : JN T' h ob w (.agg xs) u) (hy : JN T' h ob w (.agg ys) v) (op : BinOp) (x y : Operand) (w' : World) :
  (eqGuard op T x y u v).run P w' = .ok () w' /\ (binOp .eql T u v).run P w' = .ok (.bool q) w' /\ (binOp .neq T u v).run P w' = .ok (.bool (!q)) w' := by
 obtain ⟨cs, rfl, fK⟩ := hx
 obtain ⟨ds, rfl, dt⟩ := hy
 unfold TQ at hR
 split at hR
 ·rename_i fs hu
  simp only [Bool.and_eq_true, Bool.not_eq_true'] at hR
  have hf : P.fieldsOf T = fs := by simp [Program.fieldsOf, hu]
  have gv : P.underlying T = some (.struct (P.fieldsOf T)) := by rw [hf]; exact hu
  have iw : (Op.equalIn 10000 T (.agg cs) (.agg ds)).run P w' = .ok q w' := by
   rw [show (10000 : Nat) = 9999 + 1 from rfl, Go.run_equalIn_struct w' 9999 T cs ds gv hR.1.1, show (9999 : Nat) = 9998 + 1 from rfl]
   exact CU 9998 cs ds w' _ 0 xs ys q (by rw [hf]; exact hR.2) hq (by simpa using fK) (by simpa using dt)
  refine ⟨Go.run_eqGuard_agg w' op T x y cs ds hR.1.2, ?_, ?_⟩
  ·rw [Go.run_eql_struct, iw]; rfl
  ·rw [Go.run_neq_struct, iw]; rfl
 ·cases hR
end
end Go.Vm
namespace Go.Vm
section
variable {P : Program} {T0 : CS} {B : Nat -> Prop} {σ : St} {a : Act} {w : World} {X : Nat -> Prop} {h : Nat -> Nat -> Hd}
theorem Fa (r : Rel T0 B σ a w X h) {o : Oper} {x : Operand} {v : V} (iS : o.op = .move x \/ o.op = .assign x) (hs : Yg P σ o.op o.type v) :
  ∃ val, (execOp a.eval o).run P w = .ok (.value val) w /\ JN (Tof T0 X) h σ.ob w v val := by
 rcases iS with iS | iS <;>
 ·simp only [iS, Yg] at hs
  subst hs
  exact ⟨a.eval x, by simp [execOp, iS], r.look _ x⟩
theorem vz (r : Rel T0 B σ a w X h) {o : Oper} {c x y : Operand} {v : V} (iS : o.op = .pick c x y) (hs : Yg P σ o.op o.type v) :
  ∃ val, (execOp a.eval o).run P w = .ok (.value val) w /\ JN (Tof T0 X) h σ.ob w v val := by
 simp only [iS, Yg] at hs
 obtain ⟨bc, p, q, hg, hc, hp, hq, hgp, hgq, rfl⟩ := hs
 have he := jm (r.arg (P := P) o.type c hc hg)
 cases bc with
 | true =>
  have hx := jm (r.arg (P := P) o.type x (hp rfl) (hgp rfl))
  exact ⟨.bool p, by simp [execOp, iS, he, asBool, hx], .bool _⟩
 | false =>
  have hy := jm (r.arg (P := P) o.type y (hq rfl) (hgq rfl))
  exact ⟨.bool q, by simp [execOp, iS, he, asBool, hy], .bool _⟩
theorem jv (op : BinOp) (T : TypeId) (x y : Operand) {v u : Value} (hv : ∀ cs, v ≠ .agg cs) (hn : v ≠ .nilIface) : (eqGuard op T x y v u).run P w = .ok () w := by
 unfold eqGuard
 cases op <;> simp <;> (split <;> first | exact absurd rfl hn | exact absurd rfl (hv _) | simp)
theorem tw (r : Rel T0 B σ a w X h) {o : Oper} {op : BinOp} {T T' : TypeId} {x y : Operand} {v : V} (iS : o.op = .binOp op T x y T') (hs : Yg P σ o.op o.type v) :
  ∃ val, (execOp a.eval o).run P w = .ok (.value val) w /\ JN (Tof T0 X) h σ.ob w v val := by
 simp only [iS, Yg] at hs
 obtain ⟨eb, ec, hs⟩ := hs
 have hx := r.arg (P := P) T x rfl eb
 have hy := r.arg (P := P) T y rfl ec
 unfold vL at hs
 split at hs
 ·rename_i k m k' n heq eS
  rw [heq] at hx; rw [eS] at hy
  have ex := SJ hx
  have ey := SJ hy
  obtain ⟨d, rfl, val, hr, hd⟩ := vx (P := P) (t := T) hs.1 hs.2 w
  refine ⟨val, ?_, hd _ _⟩
  simp only [execOp, iS, ex, ey, Sem.run_bind, jv op T x y (v := .int k m) (u := .int k' n) (by simp) (by simp), Result.andThen_ok, hr, Sem.run_pure]
 ·rename_i m n heq eS
  rw [heq] at hx; rw [eS] at hy
  have ex := R2 hx
  have ey := R2 hy
  obtain ⟨d, rfl, val, hr, hd⟩ := vc (P := P) (t := T) hs w
  refine ⟨val, ?_, hd _ _⟩
  simp only [execOp, iS, ex, ey, Sem.run_bind, jv op T x y (v := .string m) (u := .string n) (by simp) (by simp), Result.andThen_ok, hr, Sem.run_pure]
 ·rename_i m n heq eS
  rw [heq] at hx; rw [eS] at hy
  have ex := jm hx
  have ey := jm hy
  obtain ⟨d, rfl, val, hr, hd⟩ := Ar (P := P) (t := T) hs.1 hs.2 w
  refine ⟨val, ?_, hd _ _⟩
  simp only [execOp, iS, ex, ey, Sem.run_bind, jv op T x y (v := .bool m) (u := .bool n) (by simp) (by simp), Result.andThen_ok, hr, Sem.run_pure]
 ·rename_i xs ys heq eS
  rw [heq] at hx; rw [eS] at hy
  obtain ⟨hR, q, hq, hs⟩ := hs
  obtain ⟨h1, h2, h3⟩ := tC (P := P) hR hq hx hy op x y w
  rcases hs with ⟨rfl, rfl⟩ | ⟨rfl, rfl⟩
  ·exact ⟨.bool q, by simp only [execOp, iS, Sem.run_bind, h1, Result.andThen_ok, h2, Sem.run_pure], .bool _⟩
  ·exact ⟨.bool (!q), by simp only [execOp, iS, Sem.run_bind, h1, Result.andThen_ok, h3, Sem.run_pure], .bool _⟩
 ·exact hs.elim
theorem rf (r : Rel T0 B σ a w X h) {o : Oper} {op : UnOp} {T : TypeId} {x : Operand} {v : V} (iS : o.op = .unOp op T x) (hs : Yg P σ o.op o.type v) :
  ∃ val, (execOp a.eval o).run P w = .ok (.value val) w /\ JN (Tof T0 X) h σ.ob w v val := by
 simp only [iS, Yg] at hs
 obtain ⟨hg, hs⟩ := hs
 have hx := r.arg (P := P) 0 x rfl hg
 split at hs
 ·rename_i b heq
  rw [heq] at hx
  subst hs
  have he := jm hx
  exact ⟨.bool (!b), by simp [execOp, iS, he, Op.unary], .bool _⟩
 ·rename_i k n heq
  rw [heq] at hx
  subst hs
  have he := SJ hx
  exact ⟨.int k (k.wrap (-n)), by simp [execOp, iS, he, Op.unary, Op.intArith], .int _ _⟩
 ·exact hs.elim
theorem DJ (r : Rel T0 B σ a w X h) {o : Oper} {S T : TypeId} {x : Operand} {v : V} (iS : o.op = .convert S T x) (hS : (P.underlying S).isSome = true) (hs : Yg P σ o.op o.type v) :
  ∃ val, (execOp a.eval o).run P w = .ok (.value val) w /\ JN (Tof T0 X) h σ.ob w v val := by
 simp only [iS, Yg] at hs
 obtain ⟨hg, _, hs⟩ := hs
 have hx := r.arg (P := P) 0 x rfl hg
 split at hs
 ·rename_i k' n heq
  rw [heq] at hx
  obtain ⟨k, hk, rfl⟩ := hs
  have he := SJ hx
  obtain ⟨d, hd⟩ := Option.isSome_iff_exists.1 hS
  exact ⟨.int k (k.wrap n), by simp [execOp, iS, he, convert, run_underlying hd, run_underlying (Hu hk), Conv.intToInt], .int _ _⟩
 ·exact hs.elim
theorem EX (r : Rel T0 B σ a w X h) {o : Oper} {x : Operand} {i : Nat} {v : V} (iS : o.op = .extract x i) (hs : Yg P σ o.op o.type v) :
  ∃ val, (execOp a.eval o).run P w = .ok (.value val) w /\ JN (Tof T0 X) h σ.ob w v val := by
 simp only [iS, Yg] at hs
 obtain ⟨hg, hs⟩ := hs
 have hx := r.arg (P := P) 0 x rfl hg
 split at hs
 ·rename_i xs heq
  rw [heq] at hx
  obtain ⟨vs, he, iV⟩ := hx
  obtain ⟨val, ep, hr⟩ := iV.get i v hs.1
  have : vs[i]? = some val := by simpa using ep
  exact ⟨val, by simp [execOp, iS, he, Instr.extract, this], hr.up⟩
 ·exact hs.elim
theorem wP (r : Rel T0 B σ a w X h) {o : Oper} {c : Call} {v : V} (iS : o.op = .call c) (hs : Yg P σ o.op o.type v) :
  ∃ val, (execOp a.eval o).run P w = .ok (.value val) w /\ JN (Tof T0 X) h σ.ob w v val := by
 simp only [iS, Yg] at hs
 obtain ⟨callee, args, argTypes⟩ := c
 simp only at hs
 split at hs
 ·rename_i x t ha ht
  obtain rfl : args = #[x] := by apply Array.toList_inj.1; simpa using ha
  obtain rfl : argTypes = #[t] := by apply Array.toList_inj.1; simpa using ht
  obtain ⟨hg, hs⟩ := hs
  have hx := r.arg (P := P) t x rfl hg
  split at hs
  ·rename_i s heq
   rw [heq] at hx
   obtain ⟨hQ, rfl⟩ := hs
   have he := R2 hx
   exact ⟨.int .i64 s.size, by simp [execOp, iS, resolve, invoke, builtin, he, Builtin.len_, run_underlying (jJ hQ), goInt], .int _ _⟩
  ·rename_i size rows heq
   rw [heq] at hx
   obtain ⟨hQ, rfl⟩ := hs
   obtain ⟨ti, hu, _, _⟩ := QN hQ
   obtain ⟨base, cap, he, _, _⟩ := vp (show Rd _ _ _ _ from hx)
   exact ⟨.int .i64 rows.length, by simp [execOp, iS, resolve, invoke, builtin, he, Builtin.len_, run_underlying hu, goInt], .int _ _⟩
  ·rename_i size heq
   rw [heq] at hx
   obtain ⟨hQ, rfl⟩ := hs
   obtain ⟨ti, hu, _, _⟩ := QN hQ
   have he : a.eval x = .slice none 0 0 := hx
   exact ⟨.int .i64 0, by simp [execOp, iS, resolve, invoke, builtin, he, Builtin.len_, run_underlying hu, goInt], .int _ _⟩
  ·rename_i u j lo len heq
   rw [heq] at hx
   obtain ⟨hQ, ho, rfl⟩ := hs
   obtain ⟨ti, hu, _, _⟩ := QN hQ
   have cp : ∃ base cap, a.eval x = .slice base len cap := by
    rcases ho with ⟨q, size, rows, ho⟩ | ⟨size, rows, ho⟩
    ·obtain ⟨_, _, _, base, cap, he, _, _, _, _⟩ := hx.2.1 _ _ _ ho
     exact ⟨base, cap, he⟩
    ·obtain ⟨_, _, _, base, cap, he, _, _, _, _⟩ := hx.2.2 _ _ ho
     exact ⟨base, cap, he⟩
   obtain ⟨base, cap, he⟩ := cp
   exact ⟨.int .i64 len, by simp [execOp, iS, resolve, invoke, builtin, he, Builtin.len_, run_underlying hu, goInt], .int _ _⟩
  ·exact hs.elim
 ·rename_i x y ha
  obtain rfl : args = #[x, y] := by apply Array.toList_inj.1; simpa using ha
  obtain ⟨k, m, n, hx, hy, rfl⟩ := hs
  have ex := xd r hx
  have ey := xd r hy
  exact ⟨.int k (if n > m then n else m), by simp [execOp, iS, resolve, invoke, builtin, ex, ey, Builtin.max_, Builtin.max2], .int _ _⟩
 ·rename_i x y ha
  obtain rfl : args = #[x, y] := by apply Array.toList_inj.1; simpa using ha
  obtain ⟨k, m, n, hx, hy, rfl⟩ := hs
  have ex := xd r hx
  have ey := xd r hy
  exact ⟨.int k (if n < m then n else m), by simp [execOp, iS, resolve, invoke, builtin, ex, ey, Builtin.min_, Builtin.min2], .int _ _⟩
 ·exact hs.elim
theorem IE (r : Rel T0 B σ a w X h) {o : Oper} {v : V} (hs : Yg P σ o.op o.type v) :
  ∃ val, (execOp a.eval o).run P w = .ok (.value val) w /\ JN (Tof T0 X) h σ.ob w v val := by
 cases iS : o.op with
 | move x => exact Fa r (.inl iS) hs
 | assign x => exact Fa r (.inr iS) hs
 | pick c x y => exact vz r iS hs
 | load T x => exact uA r iS hs
 | fieldAddr T x f => exact HJ r iS hs
 | nilCheck x => exact FM r iS hs
 | indexAddr T x i => exact Iv r iS hs
 | index T x i => exact wD r iS hs
 | field T x f => exact Az r iS hs
 | slice T x lo hi m =>
  cases m with
  | none => exact vI r iS hs
  | some m => rw [iS] at hs; exact hs.elim
 | binOp op T x y T' => exact tw r iS hs
 | unOp op T x => exact rf r iS hs
 | convert S T x => rw [iS] at hs; exact DJ r iS hs.2.1 (by rw [iS]; exact hs)
 | extract x i => exact EX r iS hs
 | call c => exact wP r iS hs
 | build T ps => exact wI r iS hs
 | _ => rw [iS] at hs; exact hs.elim
end
end Go.Vm
namespace Go.Vm
def At.ref (d : Nat) : At -> Bool
 | .sref t _ _ _ => t == d
 | .ptr t _ _ _ => t == d
 | .bptr t _ => t == d
 | .fn _ t => t == d
 | .tref t _ _ _ _ => t == d
 | _ => false
def YU (d : Nat) : List At -> Bool
 | [] => false
 | x :: xs => x.ref d || YU d xs
def V.MP (d : Nat) : V -> Bool
 | .one x => x.ref d
 | .agg xs => YU d xs
 | _ => false
def Tq (d : Nat) : List V -> Bool
 | [] => false
 | x :: xs => x.MP d || Tq d xs
def V.ref (d : Nat) : V -> Bool
 | .tup xs => Tq d xs
 | .cnd _ x => x.MP d || (match x with | .tup xs => Tq d xs | _ => false)
 | .one x => x.ref d
 | .agg xs => YU d xs
 | .fix _ x => x.MP d || (match x with | .tup xs => Tq d xs | _ => false)
 | .any => false
def Y2 (d : Nat) : List Ob -> Bool
 | [] => false
 | .box cells :: os => YU d cells || Y2 d os
 | .lit _ rows :: os => YU d rows.flatten || Y2 d os
 | _ :: os => Y2 d os
def z8 (d : Nat) : Nat -> St -> Bool
 | _, [] => true
 | k, e :: σ => (k == d || (!e.1.ref d && !Y2 d e.2)) && z8 d (k + 1) σ
def St.fresh (σ : St) (d : Nat) : Bool := decide (d < σ.length) && z8 d 0 σ
theorem y9 {d : Nat} : ∀ {σ : St} {k : Nat}, z8 d k σ = true -> ∀ t e, σ[t]? = some e -> k + t ≠ d -> e.1.ref d = false /\ Y2 d e.2 = false
 | [], _, _, t, e, he, _ => by simp at he
 | e0 :: σ, k, hf, t, e, he, iU => by
  simp only [z8, Bool.and_eq_true, Bool.or_eq_true, beq_iff_eq, Bool.not_eq_true'] at hf
  cases t with
  | zero =>
   simp at he; subst he
   rcases hf.1 with h | h
   ·omega
   ·exact h
  | succ t => exact y9 hf.2 t e (by simpa using he) (by omega)
theorem St.tO {σ : St} {d : Nat} (hf : σ.fresh d = true) (t : Nat) (iU : t ≠ d) : (σ.get t).ref d = false := by
 simp only [St.fresh, Bool.and_eq_true] at hf
 unfold St.get
 cases he : σ[t]? with
 | none => rfl
 | some e => exact (y9 hf.2 t e he (by omega)).1
theorem Ch {d : Nat} : ∀ {os : List Ob}, Y2 d os = false -> ∀ j cells, Yp os j = .box cells -> YU d cells = false
 | [], _, j, cells, h => by simp [Yp] at h
 | o :: os, hr, j, cells, h => by
  cases j with
  | zero =>
   simp [Yp] at h; subst h
   simp [Y2] at hr; exact hr.1
  | succ j =>
   have : Yp os j = .box cells := by simpa [Yp] using h
   refine Ch (os := os) ?_ j cells this
   cases o <;> simp_all [Y2]
theorem Gi {d : Nat} : ∀ {os : List Ob}, Y2 d os = false -> ∀ j size rows, Yp os j = .lit size rows -> YU d rows.flatten = false
 | [], _, j, _, _, h => by simp [Yp] at h
 | o :: os, hr, j, size, rows, h => by
  cases j with
  | zero =>
   simp [Yp] at h; subst h
   simp [Y2] at hr; exact hr.1
  | succ j =>
   have : Yp os j = .lit size rows := by simpa [Yp] using h
   refine Gi (os := os) ?_ j size rows this
   cases o <;> simp_all [Y2]
theorem St.tZ {σ : St} {d : Nat} (hf : σ.fresh d = true) (t j : Nat) (iU : t ≠ d) (size : Nat) (rows : List (List At)) (ho : σ.ob t j = .lit size rows) : YU d rows.flatten = false := by
 simp only [St.fresh, Bool.and_eq_true] at hf
 unfold St.ob at ho
 cases he : σ[t]? with
 | none => rw [he] at ho; cases ho
 | some e => rw [he] at ho; exact Gi (y9 hf.2 t e he (by omega)).2 j size rows ho
theorem St.rH {σ : St} {d : Nat} (hf : σ.fresh d = true) (t j : Nat) (iU : t ≠ d) (cells : List At) (ho : σ.ob t j = .box cells) : YU d cells = false := by
 simp only [St.fresh, Bool.and_eq_true] at hf
 unfold St.ob at ho
 cases he : σ[t]? with
 | none => rw [he] at ho; cases ho
 | some e => rw [he] at ho; exact Ch (y9 hf.2 t e he (by omega)).2 j cells ho
theorem St.yx {σ : St} {d : Nat} (hf : σ.fresh d = true) : d < σ.length := by
 simp only [St.fresh, Bool.and_eq_true, decide_eq_true_eq] at hf; exact hf.1
def Cpt (h h' : Nat -> Nat -> Hd) (ob fG : Nat -> Nat -> Ob) (t j : Nat) : Prop :=
 (∀ q size rows, fG t j = .arr q size rows -> h' t j = h t j /\ ∃ ia, ob t j = .arr q size ia /\ ia.length = rows.length) /\
 (∀ size rows, fG t j = .lit size rows -> h' t j = h t j /\ ∃ ia, ob t j = .lit size ia /\ ia.length = rows.length) /\
 (∀ cells, fG t j = .box cells -> h' t j = h t j /\ ∃ gR, ob t j = .box gR)
theorem Cpt.same {h h' : Nat -> Nat -> Hd} {ob fG : Nat -> Nat -> Ob} {t j : Nat} (hh : h' t j = h t j) (ho : fG t j = ob t j) : Cpt h h' ob fG t j :=
 ⟨fun q size rows e => ⟨hh, rows, by rw [<- ho]; exact e, rfl⟩, fun size rows e => ⟨hh, rows, by rw [<- ho]; exact e, rfl⟩, fun cells e => ⟨hh, cells, by rw [<- ho]; exact e⟩⟩
section
variable {T T' : CS} {h h' : Nat -> Nat -> Hd} {ob fG : Nat -> Nat -> Ob} {w w' : World} {d : Nat}
theorem YI.carry (hT : ∀ b k v, T b k -> w.cell? ⟨b, k, none⟩ = some v -> w'.cell? ⟨b, k, none⟩ = some v /\ T' b k) (hc : ∀ t j, t ≠ d -> Cpt h h' ob fG t j)
  {x : At} {v : Value} (hx : x.ref d = false) (r : YI T h ob w x v) : YI T' h' fG w' x v := by
 cases x with
 | any => exact r
 | d x => exact Rd.mono hT r
 | nil s => exact r
 | sref t j lo len =>
  have ht : t ≠ d := by simpa [At.ref] using hx
  refine ⟨r.1, fun q size rows ho => ?_, fun size rows ho => ?_⟩
  ·obtain ⟨hh, ia, gS, hl⟩ := (hc t j ht).1 q size rows ho
   rw [hh, <- hl]; exact r.2.1 q size ia gS
  ·obtain ⟨hh, ia, gS, hl⟩ := (hc t j ht).2.1 size rows ho
   rw [hh, <- hl]; exact r.2.2 size ia gS
 | ptr t j i c =>
  have ht : t ≠ d := by simpa [At.ref] using hx
  refine ⟨r.1, fun q size rows ho => ?_⟩
  obtain ⟨hh, ia, gS, hl⟩ := (hc t j ht).1 q size rows ho
  rw [hh]; exact r.2 q size ia gS
 | bptr t c =>
  have ht : t ≠ d := by simpa [At.ref] using hx
  refine ⟨r.1, fun cells ho => ?_⟩
  obtain ⟨hh, gR, gS⟩ := (hc t 0 ht).2.2 cells ho
  rw [hh]; exact r.2 gR gS
 | fn f t =>
  have ht : t ≠ d := by simpa [At.ref] using hx
  refine ⟨r.1, fun cells ho => ?_⟩
  obtain ⟨hh, gR, gS⟩ := (hc t 0 ht).2.2 cells ho
  rw [hh]; exact r.2 gR gS
 | tref t j i c o =>
  have ht : t ≠ d := by simpa [At.ref] using hx
  refine ⟨r.1, fun size rows ho => ?_⟩
  obtain ⟨hh, ia, gS, hl⟩ := (hc t j ht).1 true size rows ho
  rw [hh]; exact r.2 size ia gS
 | rptr rr c =>
  obtain ⟨b, off, g, e, hk⟩ := r
  exact ⟨b, off, g, e, fun k d hd => ⟨(hT _ _ _ (hk k d hd).2.1 (hk k d hd).1).1, (hT _ _ _ (hk k d hd).2.1 (hk k d hd).1).2, Rd.mono hT (hk k d hd).2.2⟩⟩
theorem VP (hT : ∀ b k v, T b k -> w.cell? ⟨b, k, none⟩ = some v -> w'.cell? ⟨b, k, none⟩ = some v /\ T' b k) (hc : ∀ t j, t ≠ d -> Cpt h h' ob fG t j)
  {xs : List At} {vs : List Value} (hx : YU d xs = false) (r : Z6 (YI T h ob w) xs vs) : Z6 (YI T' h' fG w') xs vs := by
 induction r with
 | nil => exact .nil
 | cons r _ ih =>
  simp only [YU, Bool.or_eq_false_iff] at hx
  exact .cons (YI.carry hT hc hx.1 r) (ih hx.2)
theorem K4.carry (hT : ∀ b k v, T b k -> w.cell? ⟨b, k, none⟩ = some v -> w'.cell? ⟨b, k, none⟩ = some v /\ T' b k) (hc : ∀ t j, t ≠ d -> Cpt h h' ob fG t j)
  {x : V} {v : Value} (hx : x.MP d = false) (r : K4 T h ob w x v) : K4 T' h' fG w' x v := by
 cases x with
 | any => exact r
 | one x => exact YI.carry hT hc hx r
 | agg xs => obtain ⟨cs, e, r⟩ := r; exact ⟨cs, e, VP hT hc hx r⟩
 | tup xs => exact r.elim
 | cnd g x => exact r.elim
 | fix u x => exact r.elim
theorem JN.carry (hT : ∀ b k v, T b k -> w.cell? ⟨b, k, none⟩ = some v -> w'.cell? ⟨b, k, none⟩ = some v /\ T' b k) (hc : ∀ t j, t ≠ d -> Cpt h h' ob fG t j)
  {x : V} {v : Value} (hx : x.ref d = false) (r : JN T h ob w x v) : JN T' h' fG w' x v := by
 cases x with
 | any => exact r
 | one x => exact YI.carry hT hc hx r
 | agg xs => obtain ⟨cs, e, r⟩ := r; exact ⟨cs, e, VP hT hc hx r⟩
 | tup xs =>
  obtain ⟨vs, e, r⟩ := r
  refine ⟨vs, e, ?_⟩
  clear e
  generalize vs.toList = vl at r
  simp only [V.ref] at hx
  induction r with
  | nil => exact .nil
  | cons r _ ih =>
   simp only [Tq, Bool.or_eq_false_iff] at hx
   exact .cons (K4.carry hT hc hx.1 r) (ih hx.2)
 | cnd g x =>
  simp only [V.ref, Bool.or_eq_false_iff] at hx
  exact ⟨fun hg => K4.carry hT hc hx.1 (r.1 hg), r.2⟩
 | fix u x =>
  simp only [V.ref, Bool.or_eq_false_iff] at hx
  exact ⟨r.1, K4.carry hT hc hx.1 r.2⟩
end
section
variable {P : Program} {T0 : CS} {B : Nat -> Prop} {σ : St} {a : Act} {w w' : World} {X X' : Nat -> Prop} {h : Nat -> Nat -> Hd}
theorem Rel.Tlt (r : Rel T0 B σ a w X h) {b k : Nat} (hb : Tof T0 X b k) : b < w.heap.size := by
 rcases hb with hb | hb
 ·exact r.hB b (r.hT b k hb)
 ·exact (r.hX b hb).2
theorem y2 {e : TypeId} {size n : Nat} {v : Value} {xs : List Value} (hb : ∀ b, blk v = some b -> w'.heap[b]? = w.heap[b]?) (ho : w.ownsRow 0 e size v n xs) : w'.ownsRow 0 e size v n xs := by
 refine ⟨ho.1, ?_⟩
 rcases ho.2 with hn | ⟨g, cap, cur, rfl, h0, hg, rest⟩
 ·exact .inl hn
 ·exact .inr ⟨g, cap, cur, rfl, h0, by rw [hb g rfl]; exact hg, rest⟩
theorem Own.Sh {v : Value} {d : D} {S : Nat -> Prop} (hb : ∀ b, S b -> w'.heap[b]? = w.heap[b]?) (ho : Own w v d S) : Own w' v d S := by
 induction ho with
 | int k n S => exact .int k n S
 | bool b S => exact .bool b S
 | str s S => exact .str s S
 | unk v h S => exact .unk v h S
 | sl v size rows S e xs Sk ho hz ig hl hk hs hd ih =>
  exact .sl v size rows S e xs Sk (y2 (fun b h => hb b (ig b h)) ho) hz ig hl (fun k x d hx ir => ih k x d hx ir (fun b h => hb b (hs k b h).1)) hs hd
theorem Own.mono {v : Value} {d : D} {S S' : Nat -> Prop} (hS : ∀ b, S b -> S' b) (ho : Own w v d S) : Own w v d S' := by
 cases ho with
 | int k n S => exact .int k n S'
 | bool b S => exact .bool b S'
 | str s S => exact .str s S'
 | unk v h S => exact .unk v h S'
 | sl v size rows S e xs Sk ho hz ig hl hk hs hd => exact .sl v size rows S' e xs Sk ho hz (fun b h => hS b (ig b h)) hl hk (fun k b h => ⟨hS b (hs k b h).1, (hs k b h).2⟩) hd
theorem Jx.Sh {xs : List Value} {ds : List D} {S : Nat -> Prop} (hb : ∀ b, S b -> w'.heap[b]? = w.heap[b]?) (ho : Jx w xs ds S) : Jx w' xs ds S := by
 obtain ⟨hl, Sk, h1, h2, h3⟩ := ho
 exact ⟨hl, Sk, fun k x d hx hd => (h1 k x d hx hd).Sh (fun b h => hb b (h2 k b h)), h2, h3⟩
theorem zV.Sh {T T' : CS} {h h' : Nat -> Nat -> Hd} {ob fG : Nat -> Nat -> Ob} {d : Nat} {hd : Hd} {o : Ob}
  (hT : ∀ b k v, T b k -> w.cell? ⟨b, k, none⟩ = some v -> w'.cell? ⟨b, k, none⟩ = some v /\ T' b k) (hc : ∀ t j, t ≠ d -> Cpt h h' ob fG t j)
  (fO : o ≠ .none -> ∀ b, blk hd.v = some b -> hd.u b) (hb : o ≠ .none -> ∀ b, hd.u b -> w'.heap[b]? = w.heap[b]?) (hr : Y2 d [o] = false) (r : zV T h ob w hd o) : zV T' h' fG w' hd o := by
 cases o with
 | none => trivial
 | box cells =>
  obtain ⟨b, cs, e, hv, hh, iV⟩ := r
  simp only [Y2, Bool.or_false] at hr
  exact ⟨b, cs, e, hv, by rw [hb (by simp) b (fO (by simp) b (by rw [hv]; rfl))]; exact hh, VP hT hc hr iV⟩
 | arr q size rows =>
  have hk : ∀ {e : TypeId} {n : Nat} {xs : List Value}, w.ownsRow 0 e size hd.v n xs -> w'.ownsRow 0 e size hd.v n xs := fun ho => y2 (fun b h => hb (by simp) b (fO (by simp) b h)) ho
  cases q with
  | false =>
   obtain ⟨e, xs, ho, hz, iV⟩ := r
   exact ⟨e, xs, hk ho, hz, iV.imp fun _ _ => Rd.mono hT⟩
  | true =>
   obtain ⟨e, xs, ho, hz, iV, hn⟩ := r
   exact ⟨e, xs, hk ho, hz, iV.Sh (fun b h => hb (by simp) b h.1), hn⟩
 | lit size rows =>
  obtain ⟨e, xs, ho, hz, iV⟩ := r
  simp only [Y2, Bool.or_false] at hr
  exact ⟨e, xs, y2 (fun b h => hb (by simp) b (fO (by simp) b h)) ho, hz, VP hT hc hr iV⟩
theorem St.tH {σ : St} {d : Nat} (hf : σ.fresh d = true) (t j : Nat) (iU : t ≠ d) : Y2 d [σ.ob t j] = false := by
 cases ho : σ.ob t j with
 | none => rfl
 | box cells => simp [Y2, St.rH hf t j iU cells ho]
 | arr q size rows => rfl
 | lit size rows => simp only [Y2, St.tZ hf t j iU size rows ho, Bool.or_false]
theorem Rel.rU (r : Rel T0 B σ a w X h) {d : Nat} (hf : σ.fresh d = true) (M : Nat -> Prop) (gX : w.heap.size <= w'.heap.size) (hg : ∀ k, k < w.heap.size -> ¬ M k -> w'.heap[k]? = w.heap[k]?)
  (hm : ∀ b, M b -> ¬ B b /\ ¬ X b /\ ∀ t j, t ≠ d -> σ.ob t j ≠ .none -> ¬ (h t j).u b) (hX : ∀ b, X b -> X' b) (bh : ∀ b, X' b -> X b \/ (w.heap.size <= b /\ b < w'.heap.size))
  (v : V) (val : Value) (os : List Ob) (hd : Nat -> Hd)
  (hv : JN (Tof T0 X') (fun t j => if t = d then hd j else h t j) (σ.new d v os).ob w' v val)
  (hos : ∀ j, zV (Tof T0 X') (fun t j => if t = d then hd j else h t j) (σ.new d v os).ob w' (hd j) (Yp os j))
  (fO : ∀ j b, Yp os j ≠ .none -> blk (hd j).v = some b -> (hd j).u b)
  (iX : ∀ j b, Yp os j ≠ .none -> (hd j).u b -> (w.heap.size <= b \/ M b) /\ ¬ X' b /\ b < w'.heap.size)
  (cb : ∀ j j' b, Yp os j ≠ .none -> Yp os j' ≠ .none -> (hd j).u b -> (hd j').u b -> j = j') :
  Rel T0 B (σ.new d v os) (a.put (some d) val) w' X' (fun t j => if t = d then hd j else h t j) := by
 have ij := St.yx hf
 have hTm : ∀ b k, Tof T0 X b k -> ¬ M b := by
  intro b k hb hmb
  rcases hb with hb | hb
  ·exact (hm b hmb).1 (r.hT b k hb)
  ·exact (hm b hmb).2.1 hb
 have hT : ∀ b k v, Tof T0 X b k -> w.cell? ⟨b, k, none⟩ = some v -> w'.cell? ⟨b, k, none⟩ = some v /\ Tof T0 X' b k := by
  intro b k v hb ib
  refine ⟨?_, hb.imp id (hX b)⟩
  rw [World.cell?_of_block (hg b (r.Tlt hb) (hTm b k hb))]; exact ib
 have hc : ∀ t j, t ≠ d -> Cpt h (fun t j => if t = d then hd j else h t j) σ.ob (σ.new d v os).ob t j := by
  intro t j iU
  have he : (σ.new d v os).ob t j = σ.ob t j := by rw [St.zF, if_neg (fun hh => iU hh.1)]
  exact Cpt.same (by simp [iU]) he
 refine ⟨by simp [Act.put, r.size, St.Sr], r.defers, fun b hb => Nat.lt_of_lt_of_le (r.hB b hb) gX, fun b hb => ?_, r.hT, fun t ht => ?_, fun t j => ?_, fun t j b ho hb => ?_, fun t j b ho hb => ?_, fun t j t' j' b ho hD hb ig => ?_⟩
 ·rcases bh b hb with hb | hb
  ·have := r.hX b hb; exact ⟨this.1, by omega⟩
  ·exact ⟨fun cf => by have := r.hB b cf; omega, hb.2⟩
 ·rw [St.Sr] at ht
  rw [St.SP]
  by_cases ir : t = d
  ·subst ir
   simp only [ij, and_self, if_true]
   have : (a.tmps.setIfInBounds t val).getD t undef = val := by simp [r.size, ij]
   simp only [Act.put, this]; exact hv
  ·rw [if_neg (fun hh => ir hh.1)]
   have : (a.tmps.setIfInBounds d val).getD t undef = a.tmps.getD t undef := by simp [Array.getElem?_setIfInBounds_ne (Ne.symm ir)]
   simp only [Act.put, this]
   exact JN.carry hT hc (St.tO hf t ir) (r.slot t ht)
 ·rw [St.zF]
  by_cases ir : t = d
  ·subst ir
   simp only [ij, and_self, if_true]; exact hos j
  ·have iU : ¬ (t = d /\ d < σ.length) := fun hh => ir hh.1
   rw [if_neg iU]
   simp only [if_neg ir]
   exact zV.Sh hT hc (fun ho b => r.ub t j b ho) (fun ho b hu => hg b (r.own t j b ho hu).2.2 (fun hmb => (hm b hmb).2.2 t j ir ho hu)) (St.tH hf t j ir) (r.obj t j)
 ·rw [St.zF] at ho
  by_cases ir : t = d
  ·subst ir
   simp only [ij, and_self, if_true] at ho hb ⊢
   exact fO j b ho hb
  ·rw [if_neg (fun hh => ir hh.1)] at ho
   simp only [ir, if_false] at hb ⊢
   exact r.ub t j b ho hb
 ·rw [St.zF] at ho
  by_cases ir : t = d
  ·subst ir
   simp only [ij, and_self, if_true] at ho hb
   have h1 := iX j b ho hb
   refine ⟨?_, h1.2.1, h1.2.2⟩
   rcases h1.1 with h2 | h2
   ·exact fun cf => by have := r.hB b cf; omega
   ·exact (hm b h2).1
  ·rw [if_neg (fun hh => ir hh.1)] at ho
   simp only [ir, if_false] at hb
   have := r.own t j b ho hb
   refine ⟨this.1, fun hx => ?_, by omega⟩
   rcases bh b hx with hx | hx
   ·exact this.2.1 hx
   ·omega
 ·rw [St.zF] at ho hD
  by_cases hd1 : t = d
  ·by_cases dU : t' = d
   ·subst hd1; subst dU
    simp only [ij, and_self, if_true] at ho hb hD ig
    exact ⟨rfl, cb j j' b ho hD hb ig⟩
   ·subst hd1
    simp only [ij, and_self, if_true] at ho hb
    rw [if_neg (fun hh => dU hh.1)] at hD
    simp only [dU, if_false] at ig
    have h1 := iX j b ho hb
    have h2 := r.own t' j' b hD ig
    rcases h1.1 with h3 | h3
    ·omega
    ·exact absurd ig ((hm b h3).2.2 t' j' dU hD)
  ·by_cases dU : t' = d
   ·subst dU
    simp only [ij, and_self, if_true] at hD ig
    rw [if_neg (fun hh => hd1 hh.1)] at ho
    simp only [hd1, if_false] at hb
    have h1 := iX j' b hD ig
    have h2 := r.own t j b ho hb
    rcases h1.1 with h3 | h3
    ·omega
    ·exact absurd hb ((hm b h3).2.2 t j hd1 ho)
   ·rw [if_neg (fun hh => hd1 hh.1)] at ho
    rw [if_neg (fun hh => dU hh.1)] at hD
    simp only [hd1, dU, if_false] at hb ig
    exact r.inj t j t' j' b ho hD hb ig
theorem Rel.new (r : Rel T0 B σ a w X h) {d : Nat} (hf : σ.fresh d = true) (hg : w.grownBy w' none) (hX : ∀ b, X b -> X' b) (bh : ∀ b, X' b -> X b \/ (w.heap.size <= b /\ b < w'.heap.size))
  (v : V) (val : Value) (os : List Ob) (hd : Nat -> Hd)
  (hv : JN (Tof T0 X') (fun t j => if t = d then hd j else h t j) (σ.new d v os).ob w' v val)
  (hos : ∀ j, zV (Tof T0 X') (fun t j => if t = d then hd j else h t j) (σ.new d v os).ob w' (hd j) (Yp os j))
  (fO : ∀ j b, Yp os j ≠ .none -> blk (hd j).v = some b -> (hd j).u b)
  (iX : ∀ j b, Yp os j ≠ .none -> (hd j).u b -> w.heap.size <= b /\ ¬ X' b /\ b < w'.heap.size)
  (cb : ∀ j j' b, Yp os j ≠ .none -> Yp os j' ≠ .none -> (hd j).u b -> (hd j').u b -> j = j') :
  Rel T0 B (σ.new d v os) (a.put (some d) val) w' X' (fun t j => if t = d then hd j else h t j) :=
 r.rU hf (fun _ => False) hg.size (fun k hk _ => hg.block k hk (by simp)) (fun _ hh => hh.elim) hX bh v val os hd hv hos fO (fun j b h1 h2 => ⟨.inl (iX j b h1 h2).1, (iX j b h1 h2).2⟩) cb
end
end Go.Vm
namespace Go.Vm
open Go.RowKit
def K3 (v : Value) (cs : List Value) : Prop := (∃ c, cs = [c] /\ v = c /\ c.oneCell' = true) \/ (cs.length ≠ 1 /\ v = .agg cs.toArray)
def L8 : List Value -> Value
 | [v] => v
 | vs => .tuple vs.toArray
def J4 (T : CS) (w : World) (v : Value) : D -> Prop
 | .sl size rows => ∃ e xs, w.ownsRow 0 e size v rows.length xs /\ (∀ r ∈ rows, r.length = size) /\ Z6 (Rd T w) xs rows.flatten
 | d => Rd T w v d
def qM (own : Bool) (T : CS) (w : World) (v : Value) (d : D) : Prop := if own then J4 T w v d else Rd T w v d
def LQ (P : Program) (f : FuncId) : Bool :=
 match P.funcs[f]? with
 | some fn => fn.body.isSome && fn.name != "runtime.NumGoroutine"
 | none => false
def mS (B N : Nat) (Y : Nat -> Prop) (cs : List Value) (ds : List D) : Prop :=
 (∀ (i : Nat) (c : Value) (d : D) (b : Nat), cs[i]? = some c -> ds[i]? = some d -> d.scalar = false -> blk c = some b -> B <= b /\ b < N /\ ¬ Y b) /\
 (∀ (i j : Nat) (c c' : Value) (d d' : D) (b : Nat), cs[i]? = some c -> ds[i]? = some d -> cs[j]? = some c' -> ds[j]? = some d' -> d.scalar = false -> d'.scalar = false -> blk c = some b -> blk c' = some b -> i = j)
def mP (own : Bool) (T : CS) (w : World) (res : List (List D)) (e : Ending) (w' : World) : Prop :=
 ∃ (vs : List Value) (gA : List (List Value)) (Y : Nat -> Prop), e = .returned (L8 vs) /\ Below w.heap.size w w' /\ (∀ b, Y b -> w.heap.size <= b /\ b < w'.heap.size) /\
  Z6 K3 vs gA /\ Z6 (fun cs row => Z6 (qM own (Tof T Y) w') cs row) gA res /\ (own = true -> mS w.heap.size w'.heap.size Y gA.flatten res.flatten)
def JC (P : Program) (f : FuncId) (own : Bool) (args res : List (List D)) : Prop :=
 LQ P f = true /\ ∀ (T : CS) (w : World) (gQ : List Value), (∀ b k, T b k -> b < w.heap.size) -> Z6 (fun v row => ∃ cs, K3 v cs /\ Z6 (Rd T w) cs row) gQ args ->
  Calls P f gQ.toArray w (mP own T w res)
def vOf : List At -> V
 | [x] => .one x
 | xs => .agg xs
def KV (t : Nat) : Nat -> List D -> List At
 | _, [] => []
 | k, .sl _ rows :: ds => .sref t k 0 rows.length :: KV t (k + 1) ds
 | k, d :: ds => .d d :: KV t (k + 1) ds
def xE : List D -> List Ob
 | [] => []
 | .sl size rows :: ds => .arr false size rows :: xE ds
 | _ :: ds => .none :: xE ds
def Cd (t : Nat) : Nat -> List (List D) -> List V
 | _, [] => []
 | k, r :: rs => vOf (KV t k r) :: Cd t (k + r.length) rs
def Vg (t : Nat) : List (List D) -> V
 | [r] => vOf (KV t 0 r)
 | rs => .tup (Cd t 0 rs)
def j4 : List (List D) -> V
 | [r] => vOf (r.map .d)
 | rs => .tup (rs.map fun r => vOf (r.map .d))
def yJ (σ : St) : At -> Option D
 | .d x => some x
 | .nil s => some (.sl s [])
 | .sref t j lo len => (match σ.ob t j with | .arr _ size rows => some (.sl size (cut rows lo len)) | _ => none)
 | _ => none
def rowOf (σ : St) : List At -> Option (List D)
 | [] => some []
 | x :: xs => (match yJ σ x, rowOf σ xs with | some d, some ds => some (d :: ds) | _, _ => none)
def V.zH (σ : St) : V -> Option (List D)
 | .one x => rowOf σ [x]
 | .agg [_] => none
 | .agg xs => rowOf σ xs
 | _ => none
def Qs (P : Program) (σ : St) : List Operand -> List TypeId -> List (List D) -> Prop
 | [], _, rs => rs = []
 | x :: xs, t :: ts, rs => gOf (look P σ t x) = true /\ ∃ r rest, (unc (look P σ t x)).zH σ = some r /\ Qs P σ xs ts rest /\ rs = r :: rest
 | _ :: _, [], _ => False
def At.AP : At -> Bool
 | .sref _ _ _ _ => false
 | .tref _ _ _ _ _ => false
 | _ => true
def zO : List At -> Bool
 | [] => true
 | x :: xs => x.AP && zO xs
def Ym (P : Program) (σ : St) : List Operand -> List TypeId -> Bool
 | x :: xs, t :: ts => zO (unc (look P σ t x)).cells && Ym P σ xs ts
 | _, _ => true
section
variable {P : Program} {T0 : CS} {B : Nat -> Prop} {σ : St} {a : Act} {w w' : World} {X X' : Nat -> Prop} {h : Nat -> Nat -> Hd}
theorem Rel.grow (r : Rel T0 B σ a w X h) (hg : w.grownBy w' none) (hX : ∀ b, X b -> X' b) (bh : ∀ b, X' b -> X b \/ (w.heap.size <= b /\ b < w'.heap.size)) : Rel T0 B σ a w' X' h := by
 have hT : ∀ b k v, Tof T0 X b k -> w.cell? ⟨b, k, none⟩ = some v -> w'.cell? ⟨b, k, none⟩ = some v /\ Tof T0 X' b k := by
  intro b k v hb ib
  refine ⟨?_, hb.imp id (hX b)⟩
  rw [World.cell?_of_block (hg.block b (r.Tlt hb) (by simp))]; exact ib
 have hB : w.heap.size <= w'.heap.size := hg.size
 refine ⟨r.size, r.defers, fun b hb => Nat.lt_of_lt_of_le (r.hB b hb) hB, fun b hb => ?_, r.hT, fun t ht => JN.mono hT (r.slot t ht), fun t j => ?_, r.ub, fun t j b ho hb => ?_, r.inj⟩
 ·rcases bh b hb with hb | hb
  ·have := r.hX b hb; exact ⟨this.1, by omega⟩
  ·exact ⟨fun cf => by have := r.hB b cf; omega, hb.2⟩
 ·have h0 := r.obj t j
  have hk : σ.ob t j ≠ .none -> ∀ b, (h t j).u b -> w'.heap[b]? = w.heap[b]? := fun ho b hu => hg.block b (r.own t j b ho hu).2.2 (by simp)
  have hH := r.ub t j
  cases ho : σ.ob t j with
  | none => trivial
  | box cells =>
   rw [ho] at h0 hk hH
   obtain ⟨b, cs, e, hv, hh, iV⟩ := h0
   exact ⟨b, cs, e, hv, by rw [hk (by simp) b (hH b (by simp) (by rw [hv]; rfl))]; exact hh, iV.imp fun _ _ => YI.mono hT⟩
  | arr q size rows =>
   rw [ho] at h0 hk hH
   cases q with
   | false =>
    obtain ⟨e, xs, fV, hz, iV⟩ := h0
    exact ⟨e, xs, y2 (fun b hb => hk (by simp) b (hH b (by simp) hb)) fV, hz, iV.imp fun _ _ => Rd.mono hT⟩
   | true =>
    obtain ⟨e, xs, fV, hz, iV, hn⟩ := h0
    exact ⟨e, xs, y2 (fun b hb => hk (by simp) b (hH b (by simp) hb)) fV, hz, iV.Sh (fun b hb => hk (by simp) b hb.1), hn⟩
  | lit size rows =>
   rw [ho] at h0 hk hH
   obtain ⟨e, xs, fV, hz, iV⟩ := h0
   exact ⟨e, xs, y2 (fun b hb => hk (by simp) b (hH b (by simp) hb)) fV, hz, iV.imp fun _ _ => YI.mono hT⟩
 ·have := r.own t j b ho hb
  refine ⟨this.1, fun hx => ?_, by omega⟩
  rcases bh b hx with hx | hx
  ·exact this.2.1 hx
  ·omega
def Ot (T0 : CS) (X : Nat -> Prop) (h : Nat -> Nat -> Hd) (σ : St) : CS := fun b k => Tof T0 X b k \/ ∃ t j q size rows, σ.ob t j = .arr q size rows /\ (h t j).u b
theorem Rel.B3 (r : Rel T0 B σ a w X h) {b k : Nat} (hb : Ot T0 X h σ b k) : b < w.heap.size := by
 rcases hb with hb | ⟨t, j, q, size, rows, ho, hb⟩
 ·exact r.Tlt hb
 ·exact (r.own t j b (by rw [ho]; simp) hb).2.2
theorem p7 {T : CS} {w : World} {e : TypeId} {size : Nat} {v : Value} {rows : List (List D)} {xs : List Value} (ho : w.ownsRow 0 e size v rows.length xs) (hz : ∀ r ∈ rows, r.length = size) (hT : ∀ b k, blk v = some b -> T b k)
  (iV : Z6 (Rd T w) xs rows.flatten) : Rd T w v (.sl size rows) := by
 rcases ho.2 with ⟨rfl, hn⟩ | ⟨g, cap, cur, rfl, _, hh, fC, fU, fK, fo⟩
 ·have : rows = [] := List.eq_nil_of_length_eq_zero hn
  subst this; exact .nil _
 ·refine .sl ⟨g, 0, none⟩ _ cap size rows (fun k => (xs[k]?).getD undef) rfl fC fU hz (fun _ => rfl) (fun k d hd => ?_) (fun k d hd => ?_)
  ·obtain ⟨u, hu, _⟩ := iV.get' k d hd
   have ij : k < rows.length * size := by
    have := (List.getElem?_eq_some_iff.1 hd).1
    rw [YQ rows size hz] at this; exact this
   rw [hu]
   refine ⟨?_, hT g _ rfl⟩
   simp only [Nat.zero_add]
   refine yG hh _ _ ?_
   rw [<- fo, List.getElem?_take, if_pos ij] at hu
   exact hu
  ·obtain ⟨u, hu, hr⟩ := iV.get' k d hd
   rw [hu]; exact hr
theorem Own.rd {T : CS} {w : World} {v : Value} {d : D} {S : Nat -> Prop} (ho : Own w v d S) (hT : ∀ b k, S b -> T b k) : Rd T w v d := by
 induction ho with
 | int k n S => exact .int k n
 | bool b S => exact .bool b
 | str s S => exact .str s
 | unk v h S => exact .unk v h
 | sl v size rows S e xs Sk ho hz ig hl hk hs hd ih =>
  exact p7 ho hz (fun b k hb => hT b k (ig b hb)) (Z6.kA hl (fun k x d hx ir => ih k x d hx ir (fun b k' hb => hT b k' (hs k b hb).1)))
theorem Jx.rd {T : CS} {w : World} {xs : List Value} {ds : List D} {S : Nat -> Prop} (ho : Jx w xs ds S) (hT : ∀ b k, S b -> T b k) : Z6 (Rd T w) xs ds := by
 obtain ⟨hl, Sk, h1, h2, h3⟩ := ho
 exact Z6.kA hl (fun k x d hx hd => (h1 k x d hx hd).rd (fun b k' hb => hT b k' (h2 k b hb)))
theorem Rel.cells (r : Rel T0 B σ a w X h) {t j size : Nat} {q : Bool} {rows : List (List D)} (ho : σ.ob t j = .arr q size rows) :
  ∃ e xs, w.ownsRow 0 e size (h t j).v rows.length xs /\ (∀ r ∈ rows, r.length = size) /\ ∀ T : CS, (∀ b k, Tof T0 X b k -> T b k) -> (∀ b k, (h t j).u b -> T b k) -> Z6 (Rd T w) xs rows.flatten := by
 have h0 := r.obj t j
 rw [ho] at h0
 cases q with
 | false =>
  obtain ⟨e, xs, fV, hz, iV⟩ := h0
  exact ⟨e, xs, fV, hz, fun T h1 _ => iV.imp fun _ _ => Rd.mono (fun b k v hb hc => ⟨hc, h1 b k hb⟩)⟩
 | true =>
  obtain ⟨e, xs, fV, hz, iV, hn⟩ := h0
  exact ⟨e, xs, fV, hz, fun T _ h2 => iV.rd (fun b k hb => h2 b k hb.1)⟩
theorem Rel.ug (r : Rel T0 B σ a w X h) {t j lo len size : Nat} {q : Bool} {rows : List (List D)} (ho : σ.ob t j = .arr q size rows) {v : Value} (hv : YI (Tof T0 X) h σ.ob w (.sref t j lo len) v)
  (T : CS) (hT1 : ∀ b k, Tof T0 X b k -> T b k) (hT2 : ∀ b k, (h t j).u b -> T b k) : Rd T w v (.sl size (cut rows lo len)) := by
 obtain ⟨hle, gp, _, base, cap, rfl, gy, bW, cm, hb⟩ := hv.2.1 q size rows ho
 obtain ⟨e, xs, ⟨hl, iX⟩, hz, hal0⟩ := r.cells ho
 have iV := hal0 T hT1 hT2
 have fO := r.ub t j
 have gP : (cut rows lo len).length = len := XG _ _ _ hle
 have fW : ∀ x ∈ cut rows lo len, x.length = size := fun x hx => hz x (List.mem_of_mem_drop (List.mem_of_mem_take hx))
 by_cases gk : 0 < len
 ·obtain ⟨b, ek, hh, rfl⟩ := hb gk
  rcases iX with ⟨hn, _⟩ | ⟨g, cL, cur, fc, _, ai, fC, fU, fK, fo⟩
  ·rw [hh] at hn; cases hn
  ·rw [hh] at fc
   cases fc
   have key : ∀ k d, (cut rows lo len).flatten[k]? = some d -> ∃ u, w.cell? ⟨b, lo * size + k, none⟩ = some u /\ T b (lo * size + k) /\ Rd T w u d := by
    intro k d hd
    have ir := jX rows size lo len hz k d hd
    obtain ⟨u, hu, hr⟩ := iV.get' _ _ ir
    have ij : lo * size + k < rows.length * size := by
     have := (List.getElem?_eq_some_iff.1 ir).1
     rw [YQ rows size hz] at this; exact this
    refine ⟨u, yG ai _ _ ?_, hT2 b _ (fO b (by rw [ho]; simp) (by rw [hh]; rfl)), hr⟩
    rw [<- fo, List.getElem?_take, if_pos ij] at hu
    exact hu
   refine .sl ⟨b, lo * size, none⟩ len cap size _ (fun k => (w.cell? ⟨b, lo * size + k, none⟩).getD undef) gP gy bW fW (fun _ => rfl) (fun k d hd => ?_) (fun k d hd => ?_)
   ·obtain ⟨u, hu, ht, _⟩ := key k d hd
    rw [hu]; exact ⟨rfl, ht⟩
   ·obtain ⟨u, hu, _, hr⟩ := key k d hd
    rw [hu]; exact hr
 ·have h0' : len = 0 := by omega
  subst h0'
  have eU : cut rows lo 0 = [] := by simp [cut]
  rw [eU]
  cases base with
  | none => have := cm rfl; subst this; exact .nil _
  | some ad => exact .sl ad 0 cap size [] (fun _ => undef) rfl gy bW (by intro r hr; cases hr) (by simp) (by simp) (by simp)
end
end Go.Vm
namespace Go.Vm
open Go.RowKit
def D.C8 : D -> Prop
 | .sl _ rows => ∀ r ∈ rows, ∀ d ∈ r, d.scalar = true
 | _ => True
def Kh (own : Bool) (res : List (List D)) : Prop := ∀ r ∈ res, ∀ d ∈ r, if own = true then d.C8 else d.scalar = true
theorem Rd.scalar {T T' : CS} {w : World} {v : Value} {d : D} (hd : d.scalar = true) (r : Rd T w v d) : Rd T' w v d := by
 cases r with
 | int k n => exact .int k n
 | bool b => exact .bool b
 | str s => exact .str s
 | unk v h => exact .unk v h
 | nil => cases hd
 | sl => cases hd
theorem J4.flat {T T' : CS} {w : World} {v : Value} {d : D} (hd : d.C8) (r : J4 T w v d) : J4 T' w v d := by
 cases d with
 | sl size rows =>
  obtain ⟨e, xs, ho, hz, iV⟩ := r
  refine ⟨e, xs, ho, hz, ?_⟩
  refine Z6.kA iV.length (fun i x d hx ir => ?_)
  obtain ⟨d2, dU, hr⟩ := iV.get i x hx
  rw [ir] at dU; cases dU
  have hm : d ∈ rows.flatten := List.mem_of_getElem? ir
  obtain ⟨r0, eo, hdr⟩ := List.mem_flatten.1 hm
  exact Rd.scalar (hd r0 eo d hdr) hr
 | int k n => exact Rd.scalar rfl r
 | bool b => exact Rd.scalar rfl r
 | str s => exact Rd.scalar rfl r
 | unk => exact Rd.scalar rfl r
theorem Ue {w : World} {e : TypeId} {size : Nat} {v : Value} {n : Nat} {xs : List Value} (ho : w.ownsRow 0 e size v n xs) : rO v size n 0 n v := by
 refine ⟨by omega, fun _ _ => rfl, ?_, ?_⟩
 ·intro _
  rcases ho.2 with ⟨rfl, rfl⟩ | ⟨g, cap, cur, rfl, _⟩ <;> rfl
 rcases ho.2 with ⟨rfl, rfl⟩ | ⟨g, cap, cur, rfl, _, _, fC, fU, _, _⟩
 ·exact ⟨none, 0, rfl, by omega, by simp [maxLen], fun _ => rfl, fun hh => by omega⟩
 ·exact ⟨_, cap, rfl, fC, fU, (fun hh => by cases hh), fun _ => ⟨g, cap, rfl, by simp⟩⟩
theorem Kj {w : World} {e : TypeId} {size : Nat} {v : Value} {n : Nat} {xs : List Value} (ho : w.ownsRow 0 e size v n xs) : v.oneCell' = true := by
 rcases ho.2 with ⟨rfl, rfl⟩ | ⟨g, cap, cur, rfl, _⟩ <;> rfl
theorem J4.X4 {T : CS} {w : World} {v : Value} {d : D} (r : J4 T w v d) : v.oneCell' = true := by
 cases d with
 | sl size rows => obtain ⟨e, xs, ho, _⟩ := r; exact Kj ho
 | int k n => exact Rd.X4 r
 | bool b => exact Rd.X4 r
 | str s => exact Rd.X4 r
 | unk => exact Rd.X4 r
theorem J4.rd {T T' : CS} {w : World} {v : Value} {d : D} (r : J4 T w v d) (h1 : ∀ b k, T b k -> T' b k) (h2 : d.scalar = false -> ∀ b k, blk v = some b -> T' b k) : Rd T' w v d := by
 cases d with
 | sl size rows =>
  obtain ⟨e, xs, ⟨hl, iX⟩, hz, iV⟩ := r
  rcases iX with ⟨rfl, hn⟩ | ⟨g, cap, cur, rfl, _, hh, fC, fU, fK, fo⟩
  ·have : rows = [] := List.eq_nil_of_length_eq_zero hn
   subst this; exact .nil _
  ·refine .sl ⟨g, 0, none⟩ _ cap size rows (fun k => (xs[k]?).getD undef) rfl fC fU hz (fun _ => rfl) (fun k d hd => ?_) (fun k d hd => ?_)
   ·obtain ⟨u, hu, _⟩ := iV.get' k d hd
    have ij : k < rows.length * size := by
     have := (List.getElem?_eq_some_iff.1 hd).1
     rw [YQ rows size hz] at this; exact this
    rw [hu]
    refine ⟨?_, h2 rfl g _ rfl⟩
    simp only [Nat.zero_add]
    refine yG hh _ _ ?_
    rw [<- fo, List.getElem?_take, if_pos ij] at hu
    exact hu
   ·obtain ⟨u, hu, hr⟩ := iV.get' k d hd
    rw [hu]; exact Rd.mono (fun b k v hb hc => ⟨hc, h1 b k hb⟩) hr
 | int k n => exact Rd.scalar rfl r
 | bool b => exact Rd.scalar rfl r
 | str s => exact Rd.scalar rfl r
 | unk => exact Rd.scalar rfl r
section
variable {P : Program} {T0 : CS} {B : Nat -> Prop} {σ : St} {a : Act} {w w' : World} {X X' : Nat -> Prop} {h : Nat -> Nat -> Hd}
theorem Rel.yJ (r : Rel T0 B σ a w X h) {x : At} {v : Value} {d : D} (hd : yJ σ x = some d) (hv : YI (Tof T0 X) h σ.ob w x v) (st : Bool) (hQ : st = true -> x.AP = true) :
  Rd (if st then Tof T0 X else Ot T0 X h σ) w v d := by
 cases x with
 | d x => simp [Vm.yJ] at hd; subst hd; cases st <;> simp <;> first | exact hv | exact Rd.mono (fun b k v hb hc => ⟨hc, .inl hb⟩) hv
 | nil s => simp [Vm.yJ] at hd; subst hd; cases hv; exact .nil _
 | sref t j lo len =>
  cases st with
  | true => have := hQ rfl; simp [At.AP] at this
  | false =>
   simp only [Vm.yJ] at hd
   split at hd
   ·rename_i q size rows ho
    cases hd
    exact r.ug ho hv _ (fun b k hb => .inl hb) (fun b k hb => .inr ⟨t, j, _, size, rows, ho, hb⟩)
   ·cases hd
 | any => simp [Vm.yJ] at hd
 | ptr => simp [Vm.yJ] at hd
 | bptr => simp [Vm.yJ] at hd
 | fn => simp [Vm.yJ] at hd
 | rptr => simp [Vm.yJ] at hd
 | tref => simp [Vm.yJ] at hd
theorem Rel.rowOf (r : Rel T0 B σ a w X h) (st : Bool) : ∀ {xs : List At} {vs : List Value} {ds : List D}, rowOf σ xs = some ds -> Z6 (YI (Tof T0 X) h σ.ob w) xs vs -> (st = true -> zO xs = true) ->
  Z6 (Rd (if st then Tof T0 X else Ot T0 X h σ) w) vs ds
 | [], _, ds, hd, iV, _ => by cases iV; simp [Vm.rowOf] at hd; subst hd; exact .nil
 | x :: xs, _, ds, hd, iV, hQ => by
  cases iV with
  | cons hx iV =>
   simp only [Vm.rowOf] at hd
   split at hd
   ·rename_i d fR h1 h2
    cases hd
    refine .cons (r.yJ h1 hx st (fun hs => ?_)) (Rel.rowOf r st h2 iV (fun hs => ?_))
    ·have := hQ hs; simp [zO] at this; exact this.1
    ·have := hQ hs; simp [zO] at this; exact this.2
   ·cases hd
theorem Rel.zH (r : Rel T0 B σ a w X h) (st : Bool) {v : V} {val : Value} {row : List D} (hr : v.zH σ = some row) (hv : JN (Tof T0 X) h σ.ob w v val) (hQ : st = true -> zO v.cells = true) :
  ∃ cs, K3 val cs /\ Z6 (Rd (if st then Tof T0 X else Ot T0 X h σ) w) cs row := by
 cases v with
 | one x => exact ⟨[val], .inl ⟨val, rfl, rfl, YI.X4 (show YI _ _ _ _ _ _ from hv)⟩, r.rowOf st (xs := [x]) hr (.cons hv .nil) hQ⟩
 | agg xs =>
  obtain ⟨cs, rfl, iV⟩ := hv
  have hl := iV.length
  match xs, hr, iV, hl, hQ with
  | [], hr, iV, hl, hQ => exact ⟨cs.toList, .inr ⟨by rw [<- hl]; simp, by simp⟩, r.rowOf st hr iV hQ⟩
  | [_], hr, _, _, _ => simp [V.zH] at hr
  | x :: y :: xs, hr, iV, hl, hQ => exact ⟨cs.toList, .inr ⟨by rw [<- hl]; simp, by simp⟩, r.rowOf st hr iV hQ⟩
 | any => simp [V.zH] at hr
 | tup xs => simp [V.zH] at hr
 | cnd g x => simp [V.zH] at hr
 | fix u x => simp [V.zH] at hr
theorem Rel.Qs (r : Rel T0 B σ a w X h) (st : Bool) : ∀ {xs : List Operand} {ts : List TypeId} {rs : List (List D)}, Qs P σ xs ts rs -> (st = true -> Ym P σ xs ts = true) ->
  Z6 (fun v row => ∃ cs, K3 v cs /\ Z6 (Rd (if st then Tof T0 X else Ot T0 X h σ) w) cs row) (xs.map a.eval) rs
 | [], _, rs, hr, _ => by cases hr; exact .nil
 | x :: xs, [], rs, hr, _ => hr.elim
 | x :: xs, t :: ts, rs, hr, hQ => by
  obtain ⟨hg, row, rest, h1, h2, rfl⟩ := hr
  refine .cons (r.zH st h1 (r.arg t x rfl hg) (fun hs => ?_)) (Rel.Qs r st h2 (fun hs => ?_))
  ·have := hQ hs; simp [Ym] at this; exact this.1
  ·have := hQ hs; simp [Ym] at this; exact this.2
theorem UH {o : Oper} {c : Call} {f : FuncId} (iS : o.op = .call c) (hc : c.callee = .value (.func f)) (hf : LQ P f = true) : (execOp a.eval o).run P w = .ok (.enter f (c.args.toList.map a.eval).toArray) w := by
 unfold LQ at hf
 split at hf
 ·rename_i fn hfn
  simp only [Bool.and_eq_true, bne_iff_ne, ne_eq] at hf
  obtain ⟨cd, hb⟩ := Option.isSome_iff_exists.1 hf.1
  obtain ⟨callee, args, gZ⟩ := c
  simp only at hc; subst hc
  have hm : (args.toList.map a.eval).toArray = args.map a.eval := by apply Array.toList_inj.1; simp
  rw [hm]
  simp [execOp, iS, resolve, Act.eval, Deferred.ofValue, invoke, callFunc, hfn, hf.2, hb]
 ·cases hf
end
end Go.Vm
namespace Go.Vm
open Go.RowKit
section
variable {P : Program} {T0 : CS} {B : Nat -> Prop} {σ : St} {a : Act} {w w' : World} {X X' : Nat -> Prop} {h : Nat -> Nat -> Hd}
theorem Below.grownBy (hb : Below w.heap.size w w') : w.grownBy w' none := ⟨hb.os, hb.tape, hb.output, hb.size, fun k hk _ => hb.block k hk⟩
theorem MU {T : CS} {ob : Nat -> Nat -> Ob} {xs : List At} {v : Value} {cs : List Value} (hf : K3 v cs) (iV : Z6 (YI T h ob w) xs cs) : K4 T h ob w (vOf xs) v := by
 have hl := iV.length
 rcases hf with ⟨c, rfl, rfl, h1⟩ | ⟨iU, rfl⟩
 ·cases iV with
  | cons hx iV => cases iV; exact hx
 ·match xs, iV, hl with
  | [], iV, _ => exact ⟨_, rfl, by simpa using iV⟩
  | [x], iV, hl => exact absurd hl.symm (by simpa using iU)
  | x :: y :: xs, iV, _ => exact ⟨_, rfl, by simpa using iV⟩
theorem Mm {T : CS} {ob : Nat -> Nat -> Ob} {cs : List Value} {row : List D} (iV : Z6 (Rd T w) cs row) : Z6 (YI T h ob w) (row.map .d) cs := by
 induction iV with
 | nil => exact .nil
 | cons r _ ih => exact .cons r ih
theorem uT {T : CS} {ob : Nat -> Nat -> Ob} {res : List (List D)} {vs : List Value} {gA : List (List Value)} (hf : Z6 K3 vs gA) (iV : Z6 (fun cs row => Z6 (Rd T w) cs row) gA res) :
  Z6 (K4 T h ob w) (res.map fun r => vOf (r.map .d)) vs := by
 induction hf generalizing res with
 | nil => cases iV; exact .nil
 | cons f _ ih => cases iV with
  | cons r iV => exact .cons (MU f (Mm r)) (ih iV)
theorem tj {T : CS} {ob : Nat -> Nat -> Ob} {res : List (List D)} {vs : List Value} {gA : List (List Value)} (hf : Z6 K3 vs gA) (iV : Z6 (fun cs row => Z6 (Rd T w) cs row) gA res) :
  JN T h ob w (j4 res) (L8 vs) := by
 have hl := uT (h := h) (ob := ob) hf iV
 have h1 := hl.length
 match res, vs, hl, h1 with
 | [r], [v], hl, _ => cases hl with | cons x _ => exact x.up
 | [], [], hl, _ => exact ⟨_, rfl, by simpa using hl⟩
 | r :: r' :: rs, v :: v' :: vs, hl, _ => exact ⟨_, rfl, by simpa using hl⟩
 | [], v :: vs, _, h1 => simp at h1
 | [r], [], _, h1 => simp at h1
 | [r], v :: v' :: vs, _, h1 => simp at h1
 | r :: r' :: rs, [], _, h1 => simp at h1
 | r :: r' :: rs, [v], _, h1 => simp at h1
theorem Cg {α β : Type} {R S : α -> β -> Prop} {l : List (List α)} {m : List (List β)} (eQ : ∀ (a : α) (b : β) (row : List β), row ∈ m -> b ∈ row -> R a b -> S a b) (iV : Z6 (fun x y => Z6 R x y) l m) : Z6 (fun x y => Z6 S x y) l m := by
 induction iV with
 | nil => exact .nil
 | @cons x y _ _ bZ _ ih =>
  refine .cons ?_ (ih (fun a b row hr => eQ a b row (by simp [hr])))
  have gq : ∀ b ∈ y, ∀ a, R a b -> S a b := fun b hb a hr => eQ a b y (by simp) hb hr
  clear ih eQ
  induction bZ with
  | nil => exact .nil
  | cons r _ bl => exact .cons (gq _ (by simp) _ r) (bl (fun b hb => gq b (by simp [hb])))
theorem W8 (r : Rel T0 B σ a w X h) {o : Oper} {c : Call} {f : FuncId} {d : Nat} {own : Bool} {rows res : List (List D)} (iS : o.op = .call c) (hc : c.callee = .value (.func f)) (hd : o.dst = some d)
  (iY : Qs P σ c.args.toList c.argTypes.toList rows) (st : Bool) (hQ : st = true -> Ym P σ c.args.toList c.argTypes.toList = true) (g5 : st = false -> Kh own res) (hs : JC P f own rows res)
  {K : Act -> World -> Prop} {Q : Exit -> Act -> World -> Prop} (hK : ∀ a' w', K6 T0 B (σ.put d (j4 res)) a' w' -> XB B w w' -> K a' w') : o.wp P a w K Q := by
 unfold Oper.wp
 rw [UH iS hc hs.1, Oper.upon_enter]
 refine (hs.2 (if st then Tof T0 X else Ot T0 X h σ) w _ (fun b k hb => ?_) (r.Qs st iY hQ)).mono ?_
 ·cases st
  ·exact r.B3 hb
  ·exact r.Tlt hb
 ·rintro e w' ⟨vs, gA, Y, rfl, fb, hY, gM, fw, bX⟩
  have bh : ∀ b, (X b \/ (w.heap.size <= b /\ b < w'.heap.size)) -> X b \/ (w.heap.size <= b /\ b < w'.heap.size) := fun b hb => hb
  have r2 := r.grow (X' := fun b => X b \/ (w.heap.size <= b /\ b < w'.heap.size)) (Below.grownBy fb) (fun b hb => .inl hb) bh
  have ft : Z6 (fun cs row => Z6 (Rd (Tof T0 fun b => X b \/ (w.heap.size <= b /\ b < w'.heap.size)) w') cs row) gA res := by
   have gq : ∀ (i : Nat) (c : Value) (d : D), gA.flatten[i]? = some c -> res.flatten[i]? = some d -> own = true -> d.scalar = false -> ∀ b, blk c = some b -> w.heap.size <= b /\ b < w'.heap.size := by
    intro i c d h1 h2 ho gn b hb
    have := (bX ho).1 i c d b h1 h2 gn hb
    exact ⟨this.1, this.2.1⟩
   have conv : ∀ (c : Value) (d : D), (∀ b, own = true -> d.scalar = false -> blk c = some b -> w.heap.size <= b /\ b < w'.heap.size) -> (st = false -> if own = true then d.C8 else d.scalar = true) ->
     qM own (Tof (if st then Tof T0 X else Ot T0 X h σ) Y) w' c d -> Rd (Tof T0 fun b => X b \/ (w.heap.size <= b /\ b < w'.heap.size)) w' c d := by
    intro c d ga cg hr
    cases own with
    | true =>
     have gL : J4 (Tof (if st then Tof T0 X else Ot T0 X h σ) Y) w' c d := by simpa [qM] using hr
     cases st with
     | true =>
      refine J4.rd gL (fun b k hb => ?_) (fun gn b k hb => .inr (.inr (ga b rfl gn hb)))
      rcases hb with hb | hb
      ·rcases (show Tof T0 X b k from by simpa using hb) with hb | hb
       ·exact .inl hb
       ·exact .inr (.inl hb)
      ·exact .inr (.inr (hY b hb))
     | false =>
      exact J4.rd (J4.flat (T' := fun _ _ => False) (by simpa using cg rfl) gL) (fun b k hb => hb.elim) (fun gn b k hb => .inr (.inr (ga b rfl gn hb)))
    | false =>
     have gL : Rd (Tof (if st then Tof T0 X else Ot T0 X h σ) Y) w' c d := by simpa [qM] using hr
     cases st with
     | true =>
      refine Rd.mono (fun b k v hb hc => ⟨hc, ?_⟩) gL
      rcases hb with hb | hb
      ·rcases (show Tof T0 X b k from by simpa using hb) with hb | hb
       ·exact .inl hb
       ·exact .inr (.inl hb)
      ·exact .inr (.inr (hY b hb))
     | false => exact Rd.scalar (by simpa using cg rfl) gL
   have go : ∀ (gA : List (List Value)) (res : List (List D)), Z6 (fun cs row => Z6 (qM own (Tof (if st then Tof T0 X else Ot T0 X h σ) Y) w') cs row) gA res ->
     (∀ (i : Nat) (c : Value) (d : D), gA.flatten[i]? = some c -> res.flatten[i]? = some d -> own = true -> d.scalar = false -> ∀ b, blk c = some b -> w.heap.size <= b /\ b < w'.heap.size) ->
     (st = false -> Kh own res) -> Z6 (fun cs row => Z6 (Rd (Tof T0 fun b => X b \/ (w.heap.size <= b /\ b < w'.heap.size)) w') cs row) gA res := by
    intro gA res iV
    induction iV with
    | nil => intro _ _; exact .nil
    | @cons cs row css' res' hO _ ih =>
     intro hm hf
     have hlen := hO.length
     refine .cons (Z6.kA hlen (fun i c d hc ir => ?_)) (ih (fun i c d h1 h2 => ?_) (fun hs r hr => hf hs r (by simp [hr])))
     ·obtain ⟨d2, dU, hr⟩ := hO.get i c hc
      rw [ir] at dU; cases dU
      refine conv c d (fun b ho gn hb => hm i c d ?_ ?_ ho gn b hb) (fun hs => hf hs row (by simp) d (List.mem_of_getElem? ir)) hr
      ·rw [List.flatten_cons, List.getElem?_append_left (List.getElem?_eq_some_iff.1 hc).1]; exact hc
      ·rw [List.flatten_cons, List.getElem?_append_left (List.getElem?_eq_some_iff.1 ir).1]; exact ir
     ·refine hm (cs.length + i) c d ?_ ?_
      ·rw [List.flatten_cons, List.getElem?_append_right (by omega)]; simpa using h1
      ·rw [List.flatten_cons, List.getElem?_append_right (by omega), hlen]; simpa using h2
   exact go gA res fw gq g5
  rw [hd]
  exact hK _ _ ⟨_, _, r2.put d _ _ (tj gM ft)⟩ (XB.Fo fb r.hB)
end
end Go.Vm
namespace Go.Vm
open Go.RowKit
section
variable {P : Program} {T0 : CS} {B : Nat -> Prop} {σ : St} {a : Act} {w w' : World} {X X' : Nat -> Prop} {h : Nat -> Nat -> Hd}
theorem Se : ∀ (ds : List D) (k : Nat), Yp (xE ds) k = (match ds[k]? with | some (.sl size rows) => .arr false size rows | _ => .none)
 | [], k => by simp [xE, Yp]
 | d :: ds, 0 => by cases d <;> simp [xE, Yp]
 | d :: ds, k + 1 => by
  have := Se ds k
  cases d <;> simpa [xE, Yp] using this
def VG (T : CS) (w : World) (v : Value) : D -> Prop
 | .sl size rows => ∃ e xs, w.ownsRow 0 e size v rows.length xs
 | d => Rd T w v d
theorem J4.top {T : CS} {v : Value} {d : D} (r : J4 T w v d) : VG T w v d := by
 cases d with
 | sl size rows => obtain ⟨e, xs, ho, _⟩ := r; exact ⟨e, xs, ho⟩
 | int k n => exact r
 | bool b => exact r
 | str s => exact r
 | unk => exact r
theorem VG.X4 {T : CS} {v : Value} {d : D} (r : VG T w v d) : v.oneCell' = true := by
 cases d with
 | sl size rows => obtain ⟨e, xs, ho⟩ := r; exact Kj ho
 | int k n => exact Rd.X4 r
 | bool b => exact Rd.X4 r
 | str s => exact Rd.X4 r
 | unk => exact Rd.X4 r
theorem NC {T : CS} {ob : Nat -> Nat -> Ob} {t : Nat} : ∀ {ds : List D} {cs : List Value} {k : Nat}, Z6 (VG T w) cs ds ->
  (∀ i size rows, ds[i]? = some (.sl size rows) -> ∃ q, ob t (k + i) = .arr q size rows) -> (∀ i c, cs[i]? = some c -> (h t (k + i)).v = c) -> Z6 (YI T h ob w) (KV t k ds) cs
 | [], _, k, iV, _, _ => by cases iV; exact .nil
 | d :: ds, _, k, iV, ho, hh => by
  cases iV with
  | @cons c _ cs _ hc iV =>
   have ih := NC (k := k + 1) iV (fun i size rows hi => by have := ho (i + 1) size rows (by simpa using hi); rw [show k + 1 + i = k + (i + 1) by omega]; exact this)
    (fun i c' gB => by have := hh (i + 1) c' (by simpa using gB); rw [show k + 1 + i = k + (i + 1) by omega]; exact this)
   cases d with
   | sl size rows =>
    obtain ⟨q0, h0⟩ := ho 0 size rows (by simp)
    have h1 := hh 0 c (by simp)
    rw [Nat.add_zero] at h0 h1
    refine .cons ⟨VG.X4 hc, fun q' hJ iW hD => ?_, fun hJ iW hD => by rw [h0] at hD; cases hD⟩ ih
    rw [h0] at hD; cases hD
    obtain ⟨e, xs, iX⟩ := hc
    rw [h1]; exact Ue iX
   | int k' n => exact .cons hc ih
   | bool b => exact .cons hc ih
   | str s => exact .cons hc ih
   | unk => exact .cons hc ih
theorem tK {T : CS} {ob : Nat -> Nat -> Ob} {t : Nat} {vs : List Value} {gA : List (List Value)} (hf : Z6 K3 vs gA) : ∀ {res : List (List D)} {k : Nat}, Z6 (fun cs row => Z6 (VG T w) cs row) gA res ->
  (∀ i size rows, res.flatten[i]? = some (.sl size rows) -> ∃ q, ob t (k + i) = .arr q size rows) -> (∀ i c, gA.flatten[i]? = some c -> (h t (k + i)).v = c) -> Z6 (K4 T h ob w) (Cd t k res) vs := by
 induction hf with
 | nil => intro res k iV _ _; cases iV; exact .nil
 | @cons v cs vs' css' f _ ih =>
  intro res k iV ho hh
  cases iV with
  | @cons _ row _ res' r iV =>
   have hlen := r.length
   refine .cons (MU f (NC r (fun i size rows hi => ho i size rows ?_) (fun i c hc => hh i c ?_))) (ih iV (fun i size rows hi => ?_) (fun i c hc => ?_))
   ·rw [List.flatten_cons, List.getElem?_append_left (List.getElem?_eq_some_iff.1 hi).1]; exact hi
   ·rw [List.flatten_cons, List.getElem?_append_left (List.getElem?_eq_some_iff.1 hc).1]; exact hc
   ·have := ho (row.length + i) size rows (by rw [List.flatten_cons, List.getElem?_append_right (by omega)]; simpa using hi)
    rw [Nat.add_assoc]; exact this
   ·have := hh (row.length + i) c (by rw [List.flatten_cons, List.getElem?_append_right (by omega), <- hlen]; simpa using hc)
    rw [Nat.add_assoc]; exact this
theorem wx {T : CS} {ob : Nat -> Nat -> Ob} {t : Nat} {vs : List Value} {gA : List (List Value)} {res : List (List D)} (hf : Z6 K3 vs gA) (iV : Z6 (fun cs row => Z6 (VG T w) cs row) gA res)
  (ho : ∀ i size rows, res.flatten[i]? = some (.sl size rows) -> ∃ q, ob t i = .arr q size rows) (hh : ∀ i c, gA.flatten[i]? = some c -> (h t i).v = c) : JN T h ob w (Vg t res) (L8 vs) := by
 have hl := tK (k := 0) hf iV (by simpa using ho) (by simpa using hh)
 have h1 : res.length = vs.length := by rw [hf.length, iV.length]
 match res, vs, hl, h1 with
 | [r], [v], hl, _ => cases hl with | cons x _ => exact x.up
 | [], [], hl, _ => exact ⟨_, rfl, by simpa using hl⟩
 | r :: r' :: rs, v :: v' :: vs, hl, _ => exact ⟨_, rfl, by simpa using hl⟩
 | [], v :: vs, _, h1 => simp at h1
 | [r], [], _, h1 => simp at h1
 | [r], v :: v' :: vs, _, h1 => simp at h1
 | r :: r' :: rs, [], _, h1 => simp at h1
 | r :: r' :: rs, [v], _, h1 => simp at h1
theorem j8 {α β : Type} {R : α -> β -> Prop} {l : List (List α)} {m : List (List β)} (iV : Z6 (fun x y => Z6 R x y) l m) : Z6 R l.flatten m.flatten := by
 induction iV with
 | nil => exact .nil
 | cons r _ ih => rw [List.flatten_cons, List.flatten_cons]; exact r.append ih
theorem OF (r : Rel T0 B σ a w X h) {o : Oper} {c : Call} {f : FuncId} {d : Nat} {rows res : List (List D)} (iS : o.op = .call c) (hc : c.callee = .value (.func f)) (hd : o.dst = some d) (fP : σ.fresh d = true)
  (iY : Qs P σ c.args.toList c.argTypes.toList rows) (st : Bool) (hQ : st = true -> Ym P σ c.args.toList c.argTypes.toList = true) (g5 : st = false -> Kh true res) (hs : JC P f true rows res)
  {K : Act -> World -> Prop} {Q : Exit -> Act -> World -> Prop} (hK : ∀ a' w', K6 T0 B (σ.new d (Vg d res) (xE res.flatten)) a' w' -> XB B w w' -> K a' w') : o.wp P a w K Q := by
 have ij := St.yx fP
 unfold Oper.wp
 rw [UH iS hc hs.1, Oper.upon_enter]
 refine (hs.2 (if st then Tof T0 X else Ot T0 X h σ) w _ (fun b k hb => ?_) (r.Qs st iY hQ)).mono ?_
 ·cases st
  ·exact r.B3 hb
  ·exact r.Tlt hb
 ·rintro e w' ⟨vs, gA, Y, rfl, fb, hY, gM, fw, bX⟩
  have bX := bX rfl
  have ft : Z6 (fun cs row => Z6 (J4 (Tof T0 fun b => X b \/ Y b) w') cs row) gA res := by
   refine Cg (fun c d row hO hdr hr => ?_) fw
   have gL : J4 (Tof (if st then Tof T0 X else Ot T0 X h σ) Y) w' c d := by simpa [qM] using hr
   cases st with
   | true =>
    have hT : ∀ b k, Tof (if true = true then Tof T0 X else Ot T0 X h σ) Y b k -> Tof T0 (fun b => X b \/ Y b) b k := by
     intro b k hb
     rcases hb with hb | hb
     ·rcases (show Tof T0 X b k from by simpa using hb) with hb | hb
      ·exact .inl hb
      ·exact .inr (.inl hb)
     ·exact .inr (.inr hb)
    cases d with
    | sl size rows =>
     obtain ⟨e, xs, ho, hz, iV⟩ := gL
     exact ⟨e, xs, ho, hz, iV.imp fun _ _ => Rd.mono (fun b k v hb hc => ⟨hc, hT b k hb⟩)⟩
    | int k n => exact Rd.scalar rfl gL
    | bool b => exact Rd.scalar rfl gL
    | str s => exact Rd.scalar rfl gL
    | unk => exact Rd.scalar rfl gL
   | false => exact J4.flat (by simpa using g5 rfl row hO d hdr) gL
  have gb := j8 ft
  rw [hd]
  refine hK _ _ ⟨fun b => X b \/ Y b, fun t j => if t = d then Hd.of ((gA.flatten[j]?).getD undef) else h t j, ?_⟩ (XB.Fo fb r.hB)
  have ib : ∀ (j size : Nat) (rows : List (List D)), res.flatten[j]? = some (D.sl size rows) -> ∃ c, gA.flatten[j]? = some c /\ J4 (Tof T0 fun b => X b \/ Y b) w' c (D.sl size rows) := fun j size rows hj => gb.get' j _ hj
  have hH : ∀ j, (σ.new d (Vg d res) (xE res.flatten)).ob d j = Yp (xE res.flatten) j := fun j => by rw [St.zF]; simp [ij]
  have cq : ∀ j, Yp (xE res.flatten) j ≠ .none -> ∃ size rows, res.flatten[j]? = some (D.sl size rows) := by
   intro j iU
   rw [Se] at iU
   split at iU
   ·rename_i size rows hj; exact ⟨size, rows, hj⟩
   ·exact absurd rfl iU
  refine r.new fP (Below.grownBy fb) (fun b hb => .inl hb) (fun b hb => hb.imp id (fun hy => hY b hy)) (Vg d res) (L8 vs) (xE res.flatten) (fun j => Hd.of ((gA.flatten[j]?).getD undef)) ?_ (fun j => ?_) (fun j b _ hb => hb) (fun j b iU hb => ?_) (fun j j' b iU hZ hb ig => ?_)
  ·refine wx gM (Cg (fun _ _ _ _ _ hr => J4.top hr) ft) (fun i size rows hi => ⟨false, ?_⟩) (fun i c hi => by simp [hi, Hd.of])
   rw [hH, Se, hi]
  ·rw [Se]
   split
   ·rename_i size rows hj
    obtain ⟨c, gB, iX⟩ := ib j size rows hj
    obtain ⟨e, xs, ho, hz, iV⟩ := iX
    exact ⟨e, xs, by rw [gB]; exact ho, hz, iV⟩
   ·trivial
  ·obtain ⟨size, rows, hj⟩ := cq j iU
   obtain ⟨c, gB, _⟩ := ib j size rows hj
   have ig : blk c = some b := by simpa [Hd.of, gB] using hb
   have := bX.1 j c _ b gB hj rfl ig
   refine ⟨this.1, ?_, this.2.1⟩
   rintro (hx | hy)
   ·have := r.hX b hx; omega
   ·exact this.2.2 hy
  ·obtain ⟨size, rows, hj⟩ := cq j iU
   obtain ⟨hJ, iW, eT⟩ := cq j' hZ
   obtain ⟨c, gB, _⟩ := ib j size rows hj
   obtain ⟨c2, da, _⟩ := ib j' hJ iW eT
   exact bX.2 j j' c c2 _ _ b gB hj da eT rfl rfl (by simpa [Hd.of, gB] using hb) (by simpa [Hd.of, da] using ig)
end
end Go.Vm
namespace Go.Vm
open Go.RowKit
section
variable {P : Program} {T0 : CS} {B : Nat -> Prop} {σ : St} {a : Act} {w w' : World} {X X' : Nat -> Prop} {h : Nat -> Nat -> Hd}
theorem XB.Rg {B : Nat -> Prop} (hg : w.grownBy w' none) (hB : ∀ b, B b -> b < w.heap.size) : XB B w w' := ⟨hg.os, hg.tape, hg.output, hg.size, fun k hk => hg.block k (hB k hk) (by simp)⟩
theorem Rel.rk (r : Rel T0 B σ a w X h) {d : Nat} (hf : σ.fresh d = true) (cs : Array Value) (T : TypeId) (xs : List At) (hx : YU d xs = false) (iV : Z6 (YI (Tof T0 X) h σ.ob w) xs cs.toList) :
  K6 T0 B (σ.new d (.one (.bptr d 0)) [.box xs]) (a.put (some d) (.pointer (some ⟨w.heap.size, 0, none⟩))) (w.alloc (.cells cs T)) /\ XB B w (w.alloc (.cells cs T)) := by
 have hg := World.grownBy_alloc w (.cells cs T) none
 have ij := St.yx hf
 have hT : ∀ b k v, Tof T0 X b k -> w.cell? ⟨b, k, none⟩ = some v -> (w.alloc (.cells cs T)).cell? ⟨b, k, none⟩ = some v /\ Tof T0 X b k := by
  intro b k v hb ib
  refine ⟨?_, hb⟩
  rw [World.cell?_of_block (hg.block b (r.Tlt hb) (by simp))]; exact ib
 refine ⟨⟨X, fun t j => if t = d then Hd.of (.pointer (some ⟨w.heap.size, 0, none⟩)) else h t j, ?_⟩, XB.Rg hg r.hB⟩
 have gl : (σ.new d (.one (.bptr d 0)) [.box xs]).ob d 0 = .box xs := by rw [St.zF]; simp [ij, Yp]
 have hc : ∀ t j, t ≠ d -> Cpt h (fun t j => if t = d then Hd.of (.pointer (some ⟨w.heap.size, 0, none⟩)) else h t j) σ.ob (σ.new d (.one (.bptr d 0)) [.box xs]).ob t j := by
  intro t j iU
  have he : (σ.new d (.one (.bptr d 0)) [.box xs]).ob t j = σ.ob t j := by rw [St.zF, if_neg (fun hh => iU hh.1)]
  exact Cpt.same (by simp [iU]) he
 refine r.new hf hg (fun _ hb => hb) (fun _ hb => .inl hb) _ _ [.box xs] (fun _ => Hd.of (.pointer (some ⟨w.heap.size, 0, none⟩))) ?_ (fun j => ?_) (fun j b _ hb => hb) (fun j b _ hb => ?_) (fun j j' b iU hZ _ _ => ?_)
 ·exact ⟨rfl, fun cells _ => ⟨w.heap.size, by simp [Hd.of], rfl⟩⟩
 ·cases j with
  | zero =>
   refine ⟨w.heap.size, cs, T, rfl, ?_, VP hT hc hx iV⟩
   exact heap_alloc_new w _
  | succ j => simp [Yp, zV]
 ·simp [Hd.of, blk] at hb; subst hb
  refine ⟨Nat.le_refl _, fun eh => ?_, by simp⟩
  have := (r.hX _ eh).2; omega
 ·have : ∀ j, Yp [Ob.box xs] j ≠ .none -> j = 0 := by
   intro j hj
   cases j with
   | zero => rfl
   | succ j => simp [Yp] at hj
  rw [this j iU, this j' hZ]
theorem Rel.rQ (r : Rel T0 B σ a w X h) {d : Nat} (hf : σ.fresh d = true) (hg : w.grownBy w' none) (v : Value) {size : Nat} {rows : List (List D)}
  (ho : J4 (Tof T0 X) w' v (.sl size rows)) (hb : ∀ b, blk v = some b -> w.heap.size <= b /\ b < w'.heap.size) :
  K6 T0 B (σ.new d (.one (.sref d 0 0 rows.length)) [.arr false size rows]) (a.put (some d) v) w' /\ XB B w w' := by
 have ij := St.yx hf
 refine ⟨⟨X, fun t j => if t = d then Hd.of v else h t j, ?_⟩, XB.Rg hg r.hB⟩
 have gl : (σ.new d (.one (.sref d 0 0 rows.length)) [.arr false size rows]).ob d 0 = .arr false size rows := by rw [St.zF]; simp [ij, Yp]
 obtain ⟨e, xs, iX, hz, iV⟩ := ho
 refine r.new hf hg (fun _ hb => hb) (fun _ hb => .inl hb) _ _ [.arr false size rows] (fun _ => Hd.of v) ?_ (fun j => ?_) (fun j b _ hb => hb) (fun j b _ ig => ?_) (fun j j' b iU hZ _ _ => ?_)
 ·refine ⟨Kj iX, fun q' hJ iW hD => ?_, fun hJ iW hD => by rw [gl] at hD; cases hD⟩
  rw [gl] at hD; cases hD
  simp only [if_true]
  exact Ue iX
 ·cases j with
  | zero => exact ⟨e, xs, iX, hz, iV⟩
  | succ j => simp [Yp, zV]
 ·have := hb b ig
  refine ⟨this.1, fun eh => ?_, this.2⟩
  have := (r.hX _ eh).2; omega
 ·have : ∀ j, Yp [Ob.arr false size rows] j ≠ .none -> j = 0 := by
   intro j hj
   cases j with
   | zero => rfl
   | succ j => simp [Yp] at hj
  rw [this j iU, this j' hZ]
theorem Rel.pk (r : Rel T0 B σ a w X h) {d : Nat} (hf : σ.fresh d = true) (hg : w.grownBy w' none) (v : Value) {e : TypeId} {size : Nat} {rows : List (List D)} {xs : List Value}
  (iX : w'.ownsRow 0 e size v rows.length xs) (hz : ∀ r ∈ rows, r.length = size) (iV : Jx w' xs rows.flatten (fun _ => False)) (hb : ∀ b, blk v = some b -> w.heap.size <= b /\ b < w'.heap.size) :
  K6 T0 B (σ.new d (.one (.sref d 0 0 rows.length)) [.arr true size rows]) (a.put (some d) v) w' /\ XB B w w' := by
 have ij := St.yx hf
 refine ⟨⟨X, fun t j => if t = d then ⟨v, fun k => (xs[k]?).getD undef, fun b => blk v = some b⟩ else h t j, ?_⟩, XB.Rg hg r.hB⟩
 have gl : (σ.new d (.one (.sref d 0 0 rows.length)) [.arr true size rows]).ob d 0 = .arr true size rows := by rw [St.zF]; simp [ij, Yp]
 refine r.new hf hg (fun _ hb => hb) (fun _ hb => .inl hb) _ _ [.arr true size rows] (fun _ => ⟨v, fun k => (xs[k]?).getD undef, fun b => blk v = some b⟩) ?_ (fun j => ?_) (fun j b _ hb => hb) (fun j b _ ig => ?_) (fun j j' b iU hZ _ _ => ?_)
 ·refine ⟨Kj iX, fun q' hJ iW hD => ?_, fun hJ iW hD => by rw [gl] at hD; cases hD⟩
  rw [gl] at hD; cases hD
  simp only [if_true]
  exact Ue iX
 ·cases j with
  | zero =>
   obtain ⟨hl, Sk, h1, h2, h3⟩ := iV
   exact ⟨e, xs, iX, hz, ⟨hl, Sk, h1, fun k b hk => (h2 k b hk).elim, h3⟩, fun k x d hx _ _ => by simp [hx]⟩
  | succ j => simp [Yp, zV]
 ·have := hb b ig
  refine ⟨this.1, fun eh => ?_, this.2⟩
  have := (r.hX _ eh).2; omega
 ·have : ∀ j, Yp [Ob.arr true size rows] j ≠ .none -> j = 0 := by
   intro j hj
   cases j with
   | zero => rfl
   | succ j => simp [Yp] at hj
  rw [this j iU, this j' hZ]
theorem vE (r : Rel T0 B σ a w X h) {o : Oper} {T : TypeId} {d : Nat} {row : List At} (iS : o.op = .alloc T) (hd : o.dst = some d) (hf : σ.fresh d = true) (hz : QK P T = true) (fQ : kQ P 12 T = some row) (hO : YU d row = false)
  {K : Act -> World -> Prop} {Q : Exit -> Act -> World -> Prop} (hK : ∀ a' w', K6 T0 B (σ.new d (.one (.bptr d 0)) [.box row]) a' w' -> XB B w w' -> K a' w') : o.wp P a w K Q := by
 obtain ⟨i, z, hi, hzv, gX, iV⟩ := G9 hz fQ
 have iw : (execOp a.eval o).run P w = .ok (.value (.pointer (some ⟨w.heap.size, 0, none⟩))) (w.alloc (.cells z.cells T)) := by
  simp [execOp, iS, Instr.alloc, zeroValue, typeInfo, hi, hzv, newVar, newRow]
 unfold Oper.wp
 rw [iw, Oper.upon_value, hd]
 have := r.rk hf z.cells T row hO (iV _ _ _ _)
 exact hK _ _ this.1 this.2
theorem tF (r : Rel T0 B σ a w X h) {o : Oper} {T : TypeId} {x : Operand} {d : Nat} (iS : o.op = .box T x) (hd : o.dst = some d) (hf : σ.fresh d = true) (hg : gOf (look P σ T x) = true) (g5 : (unc (look P σ T x)).flat = true) (hO : YU d (unc (look P σ T x)).cells = false)
  {K : Act -> World -> Prop} {Q : Exit -> Act -> World -> Prop} (hK : ∀ a' w', K6 T0 B (σ.new d (.one (.bptr d 0)) [.box (unc (look P σ T x)).cells]) a' w' -> XB B w w' -> K a' w') : o.wp P a w K Q := by
 have iV := WW g5 (r.arg (P := P) T x rfl hg)
 have iw : (execOp a.eval o).run P w = .ok (.value (.pointer (some ⟨w.heap.size, 0, none⟩))) (w.alloc (.cells (a.eval x).cells T)) := by
  simp [execOp, iS, Instr.box, newVar, newRow]
 unfold Oper.wp
 rw [iw, Oper.upon_value, hd]
 have := r.rk hf (a.eval x).cells T _ hO iV
 exact hK _ _ this.1 this.2
end
end Go.Vm
