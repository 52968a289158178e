/- An abstract machine OB the model of Go, by value, and that it is sound: part Va. No condition. -/
import Derived.WalkKit
import Derived.Below
set_option linter.unusedVariables false
set_option linter.unusedSimpArgs false
namespace Go.Vm
inductive D where
 | int (k : IntKind) (n : Int)
 | bool (b : Bool)
 | str (s : ByteArray)
 | sl (size : Nat) (rows : List (List D))
 | unk
 deriving Inhabited
def D.scalar : D -> Bool
 | .sl _ _ => false
 | _ => true
abbrev CS := Nat -> Nat -> Prop
inductive Rd (T : CS) (w : World) : Value -> D -> Prop
 | int (k : IntKind) (n : Int) : Rd T w (.int k n) (.int k n)
 | bool (b : Bool) : Rd T w (.bool b) (.bool b)
 | str (s : ByteArray) : Rd T w (.string s) (.str s)
 | unk (v : Value) (h : v.oneCell' = true) : Rd T w v .unk
 | nil (size : Nat) : Rd T w (.slice none 0 0) (.sl size [])
 | sl (a : Addr) (len cap size : Nat) (rows : List (List D)) (g : Nat -> Value)
   (hl : rows.length = len) (hc : len <= cap) (hm : cap <= maxLen) (hz : ∀ r ∈ rows, r.length = size) (hs : rows.flatten ≠ [] -> a.spot = none)
   (hg : ∀ k d, rows.flatten[k]? = some d -> w.cell? ⟨a.block, a.off + k, none⟩ = some (g k) /\ T a.block (a.off + k))
   (hr : ∀ k d, rows.flatten[k]? = some d -> Rd T w (g k) d) : Rd T w (.slice (some a) len cap) (.sl size rows)
theorem Rd.mono {T T' : CS} {w w' : World} (hT : ∀ b k v, T b k -> w.cell? ⟨b, k, none⟩ = some v -> w'.cell? ⟨b, k, none⟩ = some v /\ T' b k)
  {v : Value} {d : D} (h : Rd T w v d) : Rd T' w' v d := by
 induction h with
 | int k n => exact .int k n
 | bool b => exact .bool b
 | str s => exact .str s
 | unk v h => exact .unk v h
 | nil s => exact .nil s
 | sl a len cap size rows g hl hc hm hz hs hg hr ih =>
  exact .sl a len cap size rows g hl hc hm hz hs (fun k d hk => hT _ _ _ (hg k d hk).2 (hg k d hk).1) (fun k d hk => ih k d hk)
theorem Rd.Xa {T : CS} {w : World} {v : Value} {d : D} (h : Rd T w v d) : v.oneCell' = true := by
 cases h <;> first | rfl | assumption
inductive At where
 | any
 | d (x : D)
 | nil (size : Nat)
 | sref (t j lo len : Nat)
 | ptr (t j i c : Nat)
 | bptr (t c : Nat)
 | fn (f t : Nat)
 | rptr (r : List D) (c : Nat)
 | tref (t j i c : Nat) (o : Option Nat)
 deriving Inhabited
inductive V where
 | any
 | one (x : At)
 | agg (xs : List At)
 | tup (xs : List V)
 | cnd (g : Bool) (x : V)
 | fix (v : Value) (x : V)
 deriving Inhabited
inductive Ob where
 | none
 | box (cells : List At)
 | arr (q : Bool) (size : Nat) (rows : List (List D))
 | lit (size : Nat) (rows : List (List At))
 deriving Inhabited
structure Hd where
 v : Value
 n : Nat -> Value
 u : Nat -> Prop
abbrev Ent := V × List Ob
abbrev St := List Ent
def St.get (σ : St) (t : Nat) : V := match σ[t]? with | some e => e.1 | none => .any
def YO (os : List Ob) (j : Nat) : Ob := match os[j]? with | some o => o | none => .none
def St.ob (σ : St) (t j : Nat) : Ob := match σ[t]? with | some e => YO e.2 j | none => .none
def St.put : St -> Nat -> V -> St
 | [], _, _ => []
 | e :: σ, 0, v => (v, e.2) :: σ
 | e :: σ, t + 1, v => e :: St.put σ t v
def St.Zt : St -> Nat -> Nat -> Ob -> St
 | [], _, _, _ => []
 | e :: σ, 0, j, o => (e.1, e.2.set j o) :: σ
 | e :: σ, t + 1, j, o => e :: St.Zt σ t j o
def St.new : St -> Nat -> V -> List Ob -> St
 | [], _, _, _ => []
 | _ :: σ, 0, v, os => (v, os) :: σ
 | e :: σ, t + 1, v, os => e :: St.new σ t v os
theorem St.Xx (σ : St) (t : Nat) (v : V) : (σ.put t v).length = σ.length := by
 induction σ generalizing t with
 | nil => rfl
 | cons e σ ih => cases t <;> simp [St.put, ih]
theorem St.Y3 (σ : St) (t j : Nat) (o : Ob) : (σ.Zt t j o).length = σ.length := by
 induction σ generalizing t with
 | nil => rfl
 | cons e σ ih => cases t <;> simp [St.Zt, ih]
theorem St.xq (σ : St) (t : Nat) (v : V) (os : List Ob) : (σ.new t v os).length = σ.length := by
 induction σ generalizing t with
 | nil => rfl
 | cons e σ ih => cases t <;> simp [St.new, ih]
theorem St.Jz (σ : St) (t : Nat) (v : V) (u : Nat) : (σ.put t v).get u = if u = t /\ t < σ.length then v else σ.get u := by
 induction σ generalizing t u with
 | nil => simp [St.put, St.get]
 | cons e σ ih =>
  cases t with
  | zero => cases u <;> simp [St.put, St.get]
  | succ t => cases u with
   | zero => simp [St.put, St.get]
   | succ u => have := ih t u; simp only [St.get, St.put] at this ⊢; simpa using this
theorem St.Xw (σ : St) (t : Nat) (v : V) : (σ.put t v).ob = σ.ob := by
 funext u j
 induction σ generalizing t u with
 | nil => simp [St.put, St.ob]
 | cons e σ ih =>
  cases t with
  | zero => cases u <;> simp [St.put, St.ob]
  | succ t => cases u with
   | zero => simp [St.put, St.ob]
   | succ u => have := ih t u; simp only [St.ob, St.put] at this ⊢; simpa using this
theorem St.Xp (σ : St) (t j : Nat) (o : Ob) (u : Nat) : (σ.Zt t j o).get u = σ.get u := by
 induction σ generalizing t u with
 | nil => simp [St.Zt, St.get]
 | cons e σ ih =>
  cases t with
  | zero => cases u <;> simp [St.Zt, St.get]
  | succ t => cases u with
   | zero => simp [St.Zt, St.get]
   | succ u => have := ih t u; simp only [St.get, St.Zt] at this ⊢; simpa using this
theorem I6 (os : List Ob) (j : Nat) (o : Ob) (i : Nat) : YO (os.set j o) i = if i = j /\ j < os.length then o else YO os i := by
 unfold YO
 rw [List.getElem?_set]
 by_cases h : j = i
 ·subst h
  by_cases h2 : j < os.length
  ·simp [h2]
  ·simp [h2]
 ·simp [h, Ne.symm h]
theorem St.XH (σ : St) (t j : Nat) (o : Ob) (u i : Nat) (hl : σ.ob t j ≠ .none) : (σ.Zt t j o).ob u i = if u = t /\ i = j then o else σ.ob u i := by
 induction σ generalizing t u with
 | nil => simp [St.ob] at hl
 | cons e σ ih =>
  cases t with
  | zero =>
   have hj : j < e.2.length := by
    simp only [St.ob, List.getElem?_cons_zero, YO] at hl
    rcases Nat.lt_or_ge j e.2.length with h | h
    ·exact h
    ·simp [List.getElem?_eq_none h] at hl
   cases u with
   | zero => simp [St.Zt, St.ob, I6, hj]
   | succ u => simp [St.Zt, St.ob]
  | succ t => cases u with
   | zero => simp [St.Zt, St.ob]
   | succ u =>
    have := ih t u (by simpa [St.ob] using hl)
    simp only [St.ob, St.Zt] at this ⊢; simpa using this
theorem St.kS (σ : St) (t : Nat) (v : V) (os : List Ob) (u : Nat) : (σ.new t v os).get u = if u = t /\ t < σ.length then v else σ.get u := by
 induction σ generalizing t u with
 | nil => simp [St.new, St.get]
 | cons e σ ih =>
  cases t with
  | zero => cases u <;> simp [St.new, St.get]
  | succ t => cases u with
   | zero => simp [St.new, St.get]
   | succ u => have := ih t u; simp only [St.get, St.new] at this ⊢; simpa using this
theorem St.QE (σ : St) (t : Nat) (v : V) (os : List Ob) (u j : Nat) : (σ.new t v os).ob u j = if u = t /\ t < σ.length then YO os j else σ.ob u j := by
 induction σ generalizing t u with
 | nil => simp [St.new, St.ob]
 | cons e σ ih =>
  cases t with
  | zero => cases u <;> simp [St.new, St.ob]
  | succ t => cases u with
   | zero => simp [St.new, St.ob]
   | succ u => have := ih t u; simp only [St.ob, St.new] at this ⊢; simpa using this
def PY (h : Value) (len : Nat) : Value := match h with | .slice b _ c => .slice b len c | v => v
def EK (h : Value) (size n lo len : Nat) (v : Value) : Prop :=
 lo + len <= n /\ (len = n -> lo = 0 -> v = h) /\ (lo = 0 -> v = PY h len) /\ ∃ base cap, v = .slice base len cap /\ len <= cap /\ cap <= maxLen /\ (base = none -> cap = 0) /\ (0 < len -> ∃ b sD, h = .slice (some ⟨b, 0, none⟩) n sD /\ base = some ⟨b, lo * size, none⟩)
def BK : Option Nat -> Value -> Value -> Prop
 | none, x, v => v = x
 | some k, x, v => ∃ b n cap, x = .slice (some ⟨b, 0, none⟩) n cap /\ v = .pointer (some ⟨b, k, none⟩)
def Z7 (T : CS) (h : Nat -> Nat -> Hd) (ob : Nat -> Nat -> Ob) (w : World) : At -> Value -> Prop
 | .any, v => v.oneCell' = true
 | .d x, v => Rd T w v x
 | .nil _, v => v = .slice none 0 0
 | .sref t j lo len, v => v.oneCell' = true /\ (∀ q size rows, ob t j = .arr q size rows -> EK (h t j).v size rows.length lo len v) /\ (∀ size rows, ob t j = .lit size rows -> EK (h t j).v size rows.length lo len v)
 | .ptr t j i c, v => v.oneCell' = true /\ (∀ q size rows, ob t j = .arr q size rows -> ∃ b n cap, (h t j).v = .slice (some ⟨b, 0, none⟩) n cap /\ v = .pointer (some ⟨b, i * size + c, none⟩))
 | .bptr t c, v => v.oneCell' = true /\ ∀ cells, ob t 0 = .box cells -> ∃ b, (h t 0).v = .pointer (some ⟨b, 0, none⟩) /\ v = .pointer (some ⟨b, c, none⟩)
 | .fn f t, v => v.oneCell' = true /\ ∀ cells, ob t 0 = .box cells -> ∃ b, (h t 0).v = .pointer (some ⟨b, 0, none⟩) /\ v = .func (.func f) #[] #[.pointer (some ⟨b, 0, none⟩)]
 | .rptr r c, v => ∃ b off, ∃ g : Nat -> Value, v = .pointer (some ⟨b, off + c, none⟩) /\ ∀ k d, r[k]? = some d -> w.cell? ⟨b, off + k, none⟩ = some (g k) /\ T b (off + k) /\ Rd T w (g k) d
 | .tref t j i c o, v => v.oneCell' = true /\ ∀ size rows, ob t j = .arr true size rows -> BK o ((h t j).n (i * size + c)) v
theorem Z7.Xa {T : CS} {h : Nat -> Nat -> Hd} {ob : Nat -> Nat -> Ob} {w : World} {x : At} {v : Value} (r : Z7 T h ob w x v) : v.oneCell' = true := by
 cases x with
 | any => exact r
 | d x => exact Rd.Xa r
 | nil s => cases r; rfl
 | sref => exact r.1
 | ptr => exact r.1
 | bptr => exact r.1
 | fn => exact r.1
 | tref => exact r.1
 | rptr r' c => obtain ⟨b, off, g, rfl, _⟩ := r; rfl
inductive Z2 {α β : Type} (R : α -> β -> Prop) : List α -> List β -> Prop
 | nil : Z2 R [] []
 | cons {a b l m} : R a b -> Z2 R l m -> Z2 R (a :: l) (b :: m)
theorem Z2.imp {α β : Type} {R S : α -> β -> Prop} (h : ∀ a b, R a b -> S a b) {l : List α} {m : List β} (x : Z2 R l m) : Z2 S l m := by
 induction x with
 | nil => exact .nil
 | cons r _ ih => exact .cons (h _ _ r) ih
theorem Z2.length {α β : Type} {R : α -> β -> Prop} {l : List α} {m : List β} (x : Z2 R l m) : l.length = m.length := by
 induction x with
 | nil => rfl
 | cons r _ ih => simp [ih]
theorem Z2.get {α β : Type} {R : α -> β -> Prop} {l : List α} {m : List β} (x : Z2 R l m) : ∀ (i : Nat) (a : α), l[i]? = some a -> ∃ b, m[i]? = some b /\ R a b := by
 induction x with
 | nil => intro i a h; simp at h
 | cons r _ ih =>
  intro i a h
  cases i with
  | zero => simp at h; subst h; exact ⟨_, by simp, r⟩
  | succ i => simpa using ih i a (by simpa using h)
theorem Z2.get' {α β : Type} {R : α -> β -> Prop} {l : List α} {m : List β} (x : Z2 R l m) : ∀ (i : Nat) (b : β), m[i]? = some b -> ∃ a, l[i]? = some a /\ R a b := by
 induction x with
 | nil => intro i a h; simp at h
 | cons r _ ih =>
  intro i a h
  cases i with
  | zero => simp at h; subst h; exact ⟨_, by simp, r⟩
  | succ i => simpa using ih i a (by simpa using h)
theorem Z2.Ku {α β : Type} {R : α -> β -> Prop} {l : List α} {m : List β} (hl : l.length = m.length) (h : ∀ (i : Nat) (a : α) (b : β), l[i]? = some a -> m[i]? = some b -> R a b) : Z2 R l m := by
 induction l generalizing m with
 | nil => cases m with
  | nil => exact .nil
  | cons b m => simp at hl
 | cons a l ih => cases m with
  | nil => simp at hl
  | cons b m => exact .cons (h 0 a b (by simp) (by simp)) (ih (by simpa using hl) (fun i a b ha hb => h (i + 1) a b (by simpa using ha) (by simpa using hb)))
theorem Z2.append {α β : Type} {R : α -> β -> Prop} {l l' : List α} {m m' : List β} (x : Z2 R l m) (y : Z2 R l' m') : Z2 R (l ++ l') (m ++ m') := by
 induction x with
 | nil => exact y
 | cons r _ ih => exact .cons r ih
theorem Z2.take {α β : Type} {R : α -> β -> Prop} {l : List α} {m : List β} (x : Z2 R l m) (n : Nat) : Z2 R (l.take n) (m.take n) := by
 induction x generalizing n with
 | nil => simpa using Z2.nil
 | cons r _ ih => cases n with
  | zero => simpa using Z2.nil
  | succ n => simpa using Z2.cons r (ih n)
theorem Z2.drop {α β : Type} {R : α -> β -> Prop} {l : List α} {m : List β} (x : Z2 R l m) (n : Nat) : Z2 R (l.drop n) (m.drop n) := by
 induction x generalizing n with
 | nil => simpa using Z2.nil
 | cons r x ih => cases n with
  | zero => simpa using Z2.cons r x
  | succ n => simpa using ih n
theorem Z2.set {α β : Type} {R : α -> β -> Prop} {l : List α} {m : List β} (x : Z2 R l m) (i : Nat) {a : α} {b : β} (r : R a b) : Z2 R (l.set i a) (m.set i b) := by
 induction x generalizing i with
 | nil => simpa using Z2.nil
 | cons r' x ih => cases i with
  | zero => simpa using Z2.cons r x
  | succ i => simpa using Z2.cons r' (ih i)
theorem Z2.mem {α β : Type} {R : α -> β -> Prop} {l : List α} {m : List β} (x : Z2 R l m) {b : β} (h : b ∈ m) : ∃ a, a ∈ l /\ R a b := by
 obtain ⟨i, hi⟩ := List.mem_iff_getElem?.1 h
 obtain ⟨a, ha, r⟩ := x.get' i b hi
 exact ⟨a, List.mem_of_getElem? ha, r⟩
def JP (T : CS) (h : Nat -> Nat -> Hd) (ob : Nat -> Nat -> Ob) (w : World) : V -> Value -> Prop
 | .any, _ => True
 | .one x, v => Z7 T h ob w x v
 | .agg xs, v => ∃ cs : Array Value, v = .agg cs /\ Z2 (Z7 T h ob w) xs cs.toList
 | .tup _, _ => False
 | .cnd _ _, _ => False
 | .fix _ _, _ => False
def Xs (T : CS) (h : Nat -> Nat -> Hd) (ob : Nat -> Nat -> Ob) (w : World) : V -> Value -> Prop
 | .tup xs, v => ∃ vs : Array Value, v = .tuple vs /\ Z2 (JP T h ob w) xs vs.toList
 | .cnd g x, v => (g = true -> JP T h ob w x v) /\ (g = false -> v = undef)
 | .any, _ => True
 | .one x, v => Z7 T h ob w x v
 | .agg xs, v => JP T h ob w (.agg xs) v
 | .fix u x, v => v = u /\ JP T h ob w x v
theorem JP.up {T : CS} {h : Nat -> Nat -> Hd} {ob : Nat -> Nat -> Ob} {w : World} {x : V} {v : Value} (r : JP T h ob w x v) : Xs T h ob w x v := by
 cases x <;> first | exact r | exact r.elim
def blk : Value -> Option Nat
 | .slice (some a) _ _ => some a.block
 | .pointer (some a) => some a.block
 | _ => none
def Hd.of (v : Value) : Hd := ⟨v, fun _ => undef, fun b => blk v = some b⟩
inductive Own (w : World) : Value -> D -> (Nat -> Prop) -> Prop
 | int (k : IntKind) (n : Int) (S : Nat -> Prop) : Own w (.int k n) (.int k n) S
 | bool (b : Bool) (S : Nat -> Prop) : Own w (.bool b) (.bool b) S
 | str (s : ByteArray) (S : Nat -> Prop) : Own w (.string s) (.str s) S
 | unk (v : Value) (h : v.oneCell' = true) (S : Nat -> Prop) : Own w v .unk S
 | sl (v : Value) (size : Nat) (rows : List (List D)) (S : Nat -> Prop) (e : TypeId) (xs : List Value) (Sk : Nat -> Nat -> Prop) (ho : w.ownsRow 0 e size v rows.length xs) (hz : ∀ r ∈ rows, r.length = size)
   (hb : ∀ b, blk v = some b -> S b) (hl : xs.length = rows.flatten.length) (hk : ∀ k x d, xs[k]? = some x -> rows.flatten[k]? = some d -> Own w x d (Sk k))
   (hs : ∀ k b, Sk k b -> S b /\ blk v ≠ some b) (hd : ∀ i j b, Sk i b -> Sk j b -> i = j) : Own w v (.sl size rows) S
def Qt (w : World) (xs : List Value) (ds : List D) (S : Nat -> Prop) : Prop :=
 xs.length = ds.length /\ ∃ Sk : Nat -> Nat -> Prop, (∀ k x d, xs[k]? = some x -> ds[k]? = some d -> Own w x d (Sk k)) /\ (∀ k b, Sk k b -> S b) /\ (∀ i j b, Sk i b -> Sk j b -> i = j)
def QP (T : CS) (h : Nat -> Nat -> Hd) (ob : Nat -> Nat -> Ob) (w : World) (hd : Hd) : Ob -> Prop
 | .none => True
 | .box cells => ∃ b cs e, hd.v = .pointer (some ⟨b, 0, none⟩) /\ w.heap[b]? = some (.cells cs e (0, 0)) /\ Z2 (Z7 T h ob w) cells cs.toList
 | .arr false size rows => ∃ e xs, w.ownsRow 0 e size hd.v rows.length xs /\ (∀ r ∈ rows, r.length = size) /\ Z2 (Rd T w) xs rows.flatten
 | .arr true size rows => ∃ e xs, w.ownsRow 0 e size hd.v rows.length xs /\ (∀ r ∈ rows, r.length = size) /\ Qt w xs rows.flatten (fun b => hd.u b /\ blk hd.v ≠ some b) /\ (∀ k x d, xs[k]? = some x -> rows.flatten[k]? = some d -> d.scalar = false -> hd.n k = x)
 | .lit size rows => ∃ e xs, w.ownsRow 0 e size hd.v rows.length xs /\ (∀ r ∈ rows, r.length = size) /\ Z2 (Z7 T h ob w) rows.flatten xs
def Tof (T0 : CS) (X : Nat -> Prop) : CS := fun b k => T0 b k \/ X b
structure Yw (B : Nat -> Prop) (w w' : World) : Prop where
 os : w'.os = w.os
 tape : w'.tape = w.tape
 output : w'.output = w.output
 size : w.heap.size <= w'.heap.size
 block : ∀ k, B k -> w'.heap[k]? = w.heap[k]?
theorem Yw.refl (B : Nat -> Prop) (w : World) : Yw B w w := ⟨rfl, rfl, rfl, Nat.le_refl _, fun _ _ => rfl⟩
theorem Yw.trans {B : Nat -> Prop} {a b c : World} (h : Yw B a b) (k : Yw B b c) : Yw B a c :=
 ⟨k.os.trans h.os, k.tape.trans h.tape, k.output.trans h.output, Nat.le_trans h.size k.size, fun i hi => (k.block i hi).trans (h.block i hi)⟩
theorem Yw.Sh {B : Nat -> Prop} {w w' : World} (h : RowKit.Below w.heap.size w w') (hB : ∀ b, B b -> b < w.heap.size) : Yw B w w' := ⟨h.os, h.tape, h.output, h.size, fun k hk => h.block k (hB k hk)⟩
structure Rel (T0 : CS) (B : Nat -> Prop) (σ : St) (a : Act) (w : World) (X : Nat -> Prop) (h : Nat -> Nat -> Hd) : Prop where
 size : a.tmps.size = σ.length
 defers : a.defers = []
 hB : ∀ b, B b -> b < w.heap.size
 hX : ∀ b, X b -> ¬ B b /\ b < w.heap.size
 hT : ∀ b k, T0 b k -> B b
 slot : ∀ t, t < σ.length -> Xs (Tof T0 X) h σ.ob w (σ.get t) (a.tmps.getD t undef)
 obj : ∀ t j, QP (Tof T0 X) h σ.ob w (h t j) (σ.ob t j)
 ub : ∀ t j b, σ.ob t j ≠ .none -> blk (h t j).v = some b -> (h t j).u b
 own : ∀ t j b, σ.ob t j ≠ .none -> (h t j).u b -> ¬ B b /\ ¬ X b /\ b < w.heap.size
 inj : ∀ t j t' j' b, σ.ob t j ≠ .none -> σ.ob t' j' ≠ .none -> (h t j).u b -> (h t' j').u b -> t = t' /\ j = j'
def QX (T0 : CS) (B : Nat -> Prop) (σ : St) (a : Act) (w : World) : Prop := ∃ X h, Rel T0 B σ a w X h
theorem Rel.CT {T0 : CS} {B : Nat -> Prop} {σ : St} {a : Act} {w : World} {X : Nat -> Prop} {h : Nat -> Nat -> Hd} (r : Rel T0 B σ a w X h) {t j b : Nat} (ho : σ.ob t j ≠ .none) (hb : blk (h t j).v = some b) : ¬ B b /\ ¬ X b /\ b < w.heap.size :=
 r.own t j b ho (r.ub t j b ho hb)
section
variable {T T' : CS} {h h' : Nat -> Nat -> Hd} {ob v8 : Nat -> Nat -> Ob} {w w' : World}
theorem Z7.mono (hT : ∀ b k v, T b k -> w.cell? ⟨b, k, none⟩ = some v -> w'.cell? ⟨b, k, none⟩ = some v /\ T' b k) {x : At} {v : Value}
  (r : Z7 T h ob w x v) : Z7 T' h ob w' x v := by
 cases x with
 | any => exact r
 | d x => exact Rd.mono hT r
 | nil s => exact r
 | sref t j lo len => exact r
 | ptr t j i c => exact r
 | bptr t c => exact r
 | fn f t => exact r
 | tref t j i c o => exact r
 | rptr rr c =>
  obtain ⟨b, off, g, e, hk⟩ := r
  exact ⟨b, off, g, e, fun k d hd => ⟨(hT _ _ _ (hk k d hd).2.1 (hk k d hd).1).1, (hT _ _ _ (hk k d hd).2.1 (hk k d hd).1).2, Rd.mono hT (hk k d hd).2.2⟩⟩
theorem JP.mono (hT : ∀ b k v, T b k -> w.cell? ⟨b, k, none⟩ = some v -> w'.cell? ⟨b, k, none⟩ = some v /\ T' b k) {x : V} {v : Value}
  (r : JP T h ob w x v) : JP T' h ob w' x v := by
 cases x with
 | any => exact r
 | one x => exact Z7.mono hT r
 | agg xs => obtain ⟨cs, e, r⟩ := r; exact ⟨cs, e, r.imp fun _ _ => Z7.mono hT⟩
 | tup xs => exact r.elim
 | cnd g x => exact r.elim
 | fix u x => exact r.elim
theorem Xs.mono (hT : ∀ b k v, T b k -> w.cell? ⟨b, k, none⟩ = some v -> w'.cell? ⟨b, k, none⟩ = some v /\ T' b k) {x : V} {v : Value}
  (r : Xs T h ob w x v) : Xs T' h ob w' x v := by
 cases x with
 | any => exact r
 | one x => exact Z7.mono hT r
 | agg xs => exact JP.mono (x := .agg xs) hT r
 | tup xs => obtain ⟨vs, e, r⟩ := r; exact ⟨vs, e, r.imp fun _ _ => JP.mono hT⟩
 | cnd g x => exact ⟨fun hg => JP.mono hT (r.1 hg), r.2⟩
 | fix u x => exact ⟨r.1, JP.mono hT r.2⟩
end
end Go.Vm
namespace Go.Vm
def unc : V -> V
 | .cnd _ x => x
 | .fix _ x => x
 | x => x
def gOf : V -> Bool
 | .cnd g _ => g
 | _ => true
def ZP (P : Program) (t : TypeId) : TypeId :=
 match P.underlying t with
 | some (.slice e) => e
 | some (.array _ e) => e
 | _ => 0
def XC (P : Program) (t : TypeId) : Bool :=
 match P.underlying t with
 | some (.slice e) => (P.info? e).isSome
 | _ => false
def I8 (P : Program) (t : TypeId) : Option Nat :=
 match P.underlying t with
 | some (.array n e) => if (P.info? e).isSome then some n else none
 | _ => none
def Wm (P : Program) (t : TypeId) : Bool :=
 match P.underlying t with
 | some (.struct _) | some (.array _ _) => true
 | _ => false
def zz (P : Program) (t : TypeId) : Bool :=
 (P.underlying t).isSome && (P.info? t).isSome && (Wm P t || P.cellsOf t == 1)
def Xk (P : Program) (t : TypeId) (f : Nat) : Nat :=
 match P.underlying t with
 | some (.struct fs) => (match fs[f]? with | some fd => fd.offset | none => 0)
 | _ => 0
def zq (P : Program) (t : TypeId) (f : Nat) : TypeId :=
 match P.underlying t with
 | some (.struct fs) => (match fs[f]? with | some fd => fd.type | none => 0)
 | _ => 0
def xA (P : Program) (t : TypeId) (f : Nat) : Bool :=
 match P.underlying t with
 | some (.struct fs) => (match fs[f]? with | some fd => (P.info? fd.type).isSome && decide (P.cellsOf fd.type ≠ 0) | none => false)
 | _ => false
def Gd (P : Program) (t : TypeId) : Option IntKind :=
 match P.underlying t with
 | some (.int k) => some k
 | _ => none
def VX (P : Program) (t : TypeId) : Bool :=
 match P.underlying t with
 | some .string => true
 | _ => false
def PO (P : Program) (t : TypeId) : Bool :=
 match P.underlying t with
 | some .bool => true
 | _ => false
def cst (P : Program) (ty : TypeId) : Value -> V
 | .int k n => .one (.d (.int k n))
 | .bool b => .one (.d (.bool b))
 | .string s => .one (.d (.str s))
 | .slice none 0 0 => .one (.nil (P.cellsOf (ZP P ty)))
 | _ => .any
def look (P : Program) (σ : St) (ty : TypeId) : Operand -> V
 | .tmp t => σ.get t
 | .const v => cst P ty v
 | _ => .any
section
variable {P : Program} {T0 : CS} {B : Nat -> Prop} {σ : St} {a : Act} {w : World} {X : Nat -> Prop} {h : Nat -> Nat -> Hd}
theorem Rel.get (r : Rel T0 B σ a w X h) (t : Nat) : Xs (Tof T0 X) h σ.ob w (σ.get t) (a.tmps.getD t undef) := by
 rcases Nat.lt_or_ge t σ.length with hl | hl
 ·exact r.slot t hl
 ·simp [St.get, List.getElem?_eq_none hl, Xs]
theorem Di (T : CS) (h : Nat -> Nat -> Hd) (ob : Nat -> Nat -> Ob) (w : World) (ty : TypeId) (v : Value) : Xs T h ob w (cst P ty v) v := by
 unfold cst
 split
 ·exact .int _ _
 ·exact .bool _
 ·exact .str _
 ·rfl
 ·trivial
theorem Rel.look (r : Rel T0 B σ a w X h) (ty : TypeId) (x : Operand) : Xs (Tof T0 X) h σ.ob w (look P σ ty x) (a.eval x) := by
 cases x with
 | tmp t => exact r.get t
 | const v => exact Di _ _ _ _ _ _
 | global g => trivial
 | func f => trivial
theorem Xs.unc {T : CS} {h : Nat -> Nat -> Hd} {ob : Nat -> Nat -> Ob} {w : World} {x : V} {v : Value} (r : Xs T h ob w x v) (hg : gOf x = true) : Xs T h ob w (unc x) v := by
 cases x with
 | cnd g x => exact JP.up (r.1 hg)
 | fix u x => exact JP.up r.2
 | _ => exact r
theorem Rel.arg (r : Rel T0 B σ a w X h) (ty : TypeId) (x : Operand) {v : V} (he : Vm.unc (Vm.look P σ ty x) = v) (hg : gOf (Vm.look P σ ty x) = true) : Xs (Tof T0 X) h σ.ob w v (a.eval x) := by
 subst he
 exact (r.look ty x).unc hg
theorem Rel.put (r : Rel T0 B σ a w X h) (d : Nat) (v : V) (val : Value) (hv : Xs (Tof T0 X) h σ.ob w v val) : Rel T0 B (σ.put d v) (a.put (some d) val) w X h := by
 refine ⟨by simp [Act.put, r.size, St.Xx], r.defers, r.hB, r.hX, r.hT, fun t ht => ?_, fun t j => ?_, fun t j b => ?_, fun t j b => ?_, fun t j t' j' b => ?_⟩
 ·rw [St.Xw, St.Jz]
  rw [St.Xx] at ht
  by_cases hd : t = d /\ d < σ.length
  ·obtain ⟨rfl, hl⟩ := hd
   simp only [hl, and_self, if_true]
   have : (a.tmps.setIfInBounds t val).getD t undef = val := by simp [r.size, hl]
   simp only [Act.put, this]; exact hv
  ·rw [if_neg hd]
   have wE : d ≠ t := fun e => hd ⟨e.symm, e ▸ ht⟩
   have : (a.tmps.setIfInBounds d val).getD t undef = a.tmps.getD t undef := by simp [Array.getElem?_setIfInBounds_ne wE]
   simp only [Act.put, this]; exact r.slot t ht
 ·rw [St.Xw]; exact r.obj t j
 ·rw [St.Xw]; exact r.ub t j b
 ·rw [St.Xw]; exact r.own t j b
 ·rw [St.Xw]; exact r.inj t j t' j' b
end
def ldV (P : Program) (T : TypeId) (xs : List At) : V := if Wm P T then .agg xs else (match xs with | [x] => .one x | _ => .any)
def M3 (k : IntKind) (x y : Int) : Int := k.wrap (BitVec.ofInt k.bits x &&& BitVec.ofInt k.bits y).toNat
def iOr (k : IntKind) (x y : Int) : Int := k.wrap (BitVec.ofInt k.bits x ||| BitVec.ofInt k.bits y).toNat
def ER (k : IntKind) (x y : Int) : Int := k.wrap (BitVec.ofInt k.bits x ^^^ BitVec.ofInt k.bits y).toNat
def Ng (op : BinOp) (k : IntKind) (x y : Int) (v : V) : Prop :=
 match op with
 | .eql => v = .one (.d (.bool (x == y)))
 | .neq => v = .one (.d (.bool (x != y)))
 | .lss => v = .one (.d (.bool (decide (x < y))))
 | .leq => v = .one (.d (.bool (decide (x <= y))))
 | .gtr => v = .one (.d (.bool (decide (x > y))))
 | .geq => v = .one (.d (.bool (decide (x >= y))))
 | .add => v = .one (.d (.int k (k.wrap (x + y))))
 | .sub => v = .one (.d (.int k (k.wrap (x - y))))
 | .mul => v = .one (.d (.int k (k.wrap (x * y))))
 | .quo => y ≠ 0 /\ v = .one (.d (.int k (k.wrap (x.tdiv y))))
 | .rem => y ≠ 0 /\ v = .one (.d (.int k (x.tmod y)))
 | .and => v = .one (.d (.int k (M3 k x y)))
 | .or => v = .one (.d (.int k (iOr k x y)))
 | .xor => v = .one (.d (.int k (ER k x y)))
 | .shl => 0 <= y /\ v = .one (.d (.int k (k.wrap (x * 2 ^ (min y.toNat k.bits)))))
 | .shr => 0 <= y /\ v = .one (.d (.int k (x.fdiv (2 ^ (min y.toNat k.bits)))))
 | _ => False
def O0 (op : BinOp) (x y : ByteArray) (v : V) : Prop :=
 match op with
 | .add => ((x.size + y.size : Nat) : Int) <= 9223372036854775807 /\ v = .one (.d (.str (x ++ y)))
 | .eql => v = .one (.d (.bool (decide (x = y))))
 | .neq => v = .one (.d (.bool (!decide (x = y))))
 | _ => False
def SV (op : BinOp) (x y : Bool) (v : V) : Prop :=
 match op with
 | .eql => v = .one (.d (.bool (x == y)))
 | .neq => v = .one (.d (.bool (!(x == y))))
 | _ => False
theorem Gn {P : Program} {op : BinOp} {k : IntKind} {x y : Int} {v : V} {t : TypeId} {kk : IntKind} (hk : (op = .shl \/ op = .shr) \/ kk = k) (hb : Ng op k x y v) (w : World) :
  ∃ d, v = .one (.d d) /\ ∃ val, (binOp op t (.int k x) (.int kk y)).run P w = .ok val w /\ ∀ T w', Rd T w' val d := by
 cases op <;> simp only [Ng] at hb
 case shl => obtain ⟨h0, rfl⟩ := hb; exact ⟨_, rfl, _, by simp [binOp, Op.shift, Int.not_lt.2 h0], fun _ _ => .int _ _⟩
 case shr => obtain ⟨h0, rfl⟩ := hb; exact ⟨_, rfl, _, by simp [binOp, Op.shift, Int.not_lt.2 h0], fun _ _ => .int _ _⟩
 all_goals (have fP : kk = k := by rcases hk with (hk | hk) | hk <;> first | exact hk | cases hk)
 all_goals subst fP
 case quo => obtain ⟨h0, rfl⟩ := hb; exact ⟨_, rfl, _, by simp [binOp, Op.intDiv, h0], fun _ _ => .int _ _⟩
 case rem => obtain ⟨h0, rfl⟩ := hb; exact ⟨_, rfl, _, by simp [binOp, Op.intDiv, h0], fun _ _ => .int _ _⟩
 case add => subst hb; exact ⟨_, rfl, _, by simp [binOp, Op.intArith], fun _ _ => .int _ _⟩
 case sub => subst hb; exact ⟨_, rfl, _, by simp [binOp, Op.intArith], fun _ _ => .int _ _⟩
 case mul => subst hb; exact ⟨_, rfl, _, by simp [binOp, Op.intArith], fun _ _ => .int _ _⟩
 case and => subst hb; exact ⟨_, rfl, _, by simp [binOp, Op.intBits, M3], fun _ _ => .int _ _⟩
 case or => subst hb; exact ⟨_, rfl, _, by simp [binOp, Op.intBits, iOr], fun _ _ => .int _ _⟩
 case xor => subst hb; exact ⟨_, rfl, _, by simp [binOp, Op.intBits, ER], fun _ _ => .int _ _⟩
 all_goals (subst hb; exact ⟨_, rfl, .bool _, by simp only [binOp, Op.intCmp, ne_eq, not_true_eq_false, if_false]; rfl, fun _ _ => .bool _⟩)
theorem G4 (x y : ByteArray) : (x.toList == y.toList) = decide (x = y) := by
 rw [ByteArray.toList_eq, ByteArray.toList_eq, Bool.eq_iff_iff]
 simp only [beq_iff_eq, decide_eq_true_eq]
 constructor
 ·intro hh; cases x; cases y; simp_all
 ·rintro rfl; rfl
theorem GU {P : Program} {op : BinOp} {x y : ByteArray} {v : V} {t : TypeId} (hb : O0 op x y v) (w : World) :
  ∃ d, v = .one (.d d) /\ ∃ val, (binOp op t (.string x) (.string y)).run P w = .ok val w /\ ∀ T w', Rd T w' val d := by
 cases op <;> simp only [O0] at hb
 case add => obtain ⟨h0, rfl⟩ := hb; exact ⟨_, rfl, _, by simp only [binOp, Op.stringOp]; rw [if_neg (by simp [IntKind.max, IntKind.signed, IntKind.bits]; omega)]; rfl, fun _ _ => .str _⟩
 case eql => subst hb; exact ⟨_, rfl, .bool _, by simp only [binOp, Op.stringOp, G4]; rfl, fun _ _ => .bool _⟩
 case neq => subst hb; exact ⟨_, rfl, .bool _, by simp only [binOp, Op.stringOp, G4]; rfl, fun _ _ => .bool _⟩
theorem run_equalIn_bool {P : Program} {t : TypeId} (hu : P.underlying t = some .bool) (d : Nat) (x y : Bool) (w : World) : (Op.equalIn (d + 1) t (.bool x) (.bool y)).run P w = .ok (x == y) w := by
 simp [Op.equalIn, run_underlying hu]
theorem Hw {P : Program} {op : BinOp} {x y : Bool} {v : V} {t : TypeId} (ht : PO P t = true) (hb : SV op x y v) (w : World) :
  ∃ d, v = .one (.d d) /\ ∃ val, (binOp op t (.bool x) (.bool y)).run P w = .ok val w /\ ∀ T w', Rd T w' val d := by
 have hu : P.underlying t = some .bool := by
  unfold PO at ht; split at ht <;> first | assumption | cases ht
 cases op <;> simp only [SV] at hb
 case eql => subst hb; exact ⟨_, rfl, _, by simp only [binOp, Op.equal, Op.maxDepth, Sem.run_bind, run_equalIn_bool hu 9999, Result.andThen_ok, Sem.run_pure], fun _ _ => .bool _⟩
 case neq => subst hb; exact ⟨_, rfl, _, by simp only [binOp, Op.equal, Op.maxDepth, Sem.run_bind, run_equalIn_bool hu 9999, Result.andThen_ok, Sem.run_pure], fun _ _ => .bool _⟩
end Go.Vm
namespace Go.Vm
def jm (P : Program) (σ : St) (x : Operand) (k : IntKind) (n : Int) : Prop := gOf (look P σ 0 x) = true /\ unc (look P σ 0 x) = .one (.d (.int k n))
def bnd (P : Program) (σ : St) (vi : Nat) : Option Operand -> Nat -> Prop
 | none, n => n = vi
 | some x, n => ∃ k i, gOf (look P σ 0 x) = true /\ unc (look P σ 0 x) = .one (.d (.int k i)) /\ 0 <= i /\ n = i.toNat
def cut {α : Type} (xs : List α) (off n : Nat) : List α := (xs.drop off).take n
def qF (P : Program) : Nat -> TypeId -> Option (List At)
 | 0, _ => none
 | n + 1, t =>
  match P.underlying t with
  | some .bool => some [.d (.bool false)]
  | some (.int k) => some [.d (.int k 0)]
  | some .string => some [.d (.str ⟨#[]⟩)]
  | some (.slice e) => some [.nil (P.cellsOf e)]
  | some (.struct fs) => (fs.toList.mapM (fun f => qF P n f.type)).map List.flatten
  | some (.array m e) => (qF P n e).map (fun r => (List.replicate m r).flatten)
  | _ => none
def zAt : At -> Value -> Bool
 | .d (.bool b), .bool b' => b == b'
 | .d (.int k n), .int k' n' => k == k' && n == n'
 | .d (.str s), .string s' => s.data.toList == s'.data.toList
 | .nil _, .slice none 0 0 => true
 | _, _ => false
def F9 : List At -> List Value -> Bool
 | [], [] => true
 | x :: xs, v :: vs => zAt x v && F9 xs vs
 | _, _ => false
def Xy (P : Program) (t : TypeId) : Bool :=
 match qF P 12 t, P.info? t with
 | some row, some i => (match i.zero with | some z => F9 row z.cells.toList && i.size == row.length | none => false)
 | _, _ => false
theorem Db {x : At} {v : Value} (hz : zAt x v = true) (T : CS) (h : Nat -> Nat -> Hd) (ob : Nat -> Nat -> Ob) (w : World) : Z7 T h ob w x v := by
 unfold zAt at hz
 split at hz
 ·simp at hz; subst hz; exact .bool _
 ·simp at hz; obtain ⟨rfl, rfl⟩ := hz; exact .int _ _
 ·rename_i s s'
  simp at hz
  have : s = s' := by cases s; cases s'; simp_all
  subst this; exact .str _
 ·rfl
 ·cases hz
theorem E9 {xs : List At} {vs : List Value} (hz : F9 xs vs = true) (T : CS) (h : Nat -> Nat -> Hd) (ob : Nat -> Nat -> Ob) (w : World) : Z2 (Z7 T h ob w) xs vs := by
 induction xs generalizing vs with
 | nil => cases vs with
  | nil => exact .nil
  | cons v vs => simp [F9] at hz
 | cons x xs ih => cases vs with
  | nil => simp [F9] at hz
  | cons v vs => simp [F9] at hz; exact .cons (Db hz.1 _ _ _ _) (ih hz.2)
theorem MA {P : Program} {t : TypeId} {row : List At} (hz : Xy P t = true) (hr : qF P 12 t = some row) :
  ∃ i z, P.info? t = some i /\ i.zero = some z /\ i.size = row.length /\ (∀ T h ob w, Z2 (Z7 T h ob w) row z.cells.toList) := by
 unfold Xy at hz
 rw [hr] at hz
 split at hz
 ·rename_i wF i vS hi
  cases vS
  split at hz
  ·rename_i z sC
   simp at hz
   exact ⟨i, z, hi, sC, hz.2, fun T h ob w => E9 hz.1 T h ob w⟩
  ·cases hz
 ·cases hz
def V.cells : V -> List At
 | .one c => [c]
 | .agg xs => xs
 | _ => []
def V.flat : V -> Bool
 | .one _ => true
 | .agg _ => true
 | _ => false
def place {α : Type} (r : List α) (off : Nat) (xs : List α) : List α := r.take off ++ xs ++ r.drop (off + xs.length)
def V5 (P : Program) (T : TypeId) (i : Nat) : Nat := match P.underlying T with | some (.array _ e) => i * P.cellsOf e | _ => Xk P T i
def bTy (P : Program) (T : TypeId) (i : Nat) : TypeId := match P.underlying T with | some (.array _ e) => e | _ => zq P T i
def bOk (P : Program) (T : TypeId) (i : Nat) : Bool := match P.underlying T with
 | some (.array _ e) => (P.info? e).isSome
 | some (.struct fs) => fs.all (fun f => (P.info? f.type).isSome) && decide (i < fs.size)
 | _ => false
def WC (P : Program) (σ : St) (T : TypeId) : List (Nat × Operand) -> List At -> List At -> Prop
 | [], r, out => out = r
 | (i, x) :: ps, r, out => bOk P T i = true /\ gOf (look P σ (bTy P T i) x) = true /\ (unc (look P σ (bTy P T i) x)).flat = true /\
   (unc (look P σ (bTy P T i) x)).cells.length = P.cellsOf (bTy P T i) /\ V5 P T i + P.cellsOf (bTy P T i) <= r.length /\
   WC P σ T ps (place r (V5 P T i) (unc (look P σ (bTy P T i) x)).cells) out
def Il (P : Program) (t : TypeId) : Bool := match P.underlying t with | some .bool => true | some (.int _) => true | some .string => true | _ => false
def Vn (P : Program) : List Field -> Nat -> Bool
 | [], _ => true
 | f :: fs, i => decide (f.name ≠ "_") && f.offset == i && Il P f.type && Vn P fs (i + 1)
def Ti (P : Program) (t : TypeId) : Bool := match P.underlying t with
 | some (.struct fs) => !P.stoodInHeld t && !P.eqGuardType P.depth t && Vn P fs.toList 0
 | _ => false
def EJ (P : Program) (t : TypeId) : At -> At -> Option Bool
 | .d (.int k a), .d (.int k' b) => if k = k' /\ (Gd P t).isSome then some (a == b) else none
 | .d (.bool a), .d (.bool b) => if PO P t then some (a == b) else none
 | .d (.str a), .d (.str b) => if VX P t then some (decide (a = b)) else none
 | _, _ => none
def yy (P : Program) : List Field -> List At -> List At -> Option Bool
 | [], _, _ => some true
 | f :: fs, x :: xs, y :: ys => (match EJ P f.type x y, yy P fs xs ys with | some p, some q => some (p && q) | _, _ => none)
 | _, _, _ => none
def I7 (P : Program) (op : BinOp) (T : TypeId) (x y v : V) : Prop :=
 match x, y with
 | .one (.d (.int k m)), .one (.d (.int k' n)) => ((op = .shl \/ op = .shr) \/ k' = k) /\ Ng op k m n v
 | .one (.d (.str m)), .one (.d (.str n)) => O0 op m n v
 | .one (.d (.bool m)), .one (.d (.bool n)) => PO P T = true /\ SV op m n v
 | .agg xs, .agg ys => Ti P T = true /\ ∃ q, yy P (P.fieldsOf T).toList xs ys = some q /\ ((op = .eql /\ v = .one (.d (.bool q))) \/ (op = .neq /\ v = .one (.d (.bool (!q)))))
 | _, _ => False
def qY (t j i : Nat) : Nat -> List D -> List At
 | _, [] => []
 | c, x :: xs => (match x with | .sl _ _ => .tref t j i c none | x => .d x) :: qY t j i (c + 1) xs
def W8 (q : Bool) (t j i c : Nat) (xs : List D) : List At := match q with | true => qY t j i c xs | false => xs.map .d
def YH (P : Program) (σ : St) (op : Op) (ty : TypeId) (v : V) : Prop :=
 match op with
 | .move x => v = look P σ ty x
 | .assign x => v = look P σ ty x
 | .pick c a b => ∃ bc p q, gOf (look P σ ty c) = true /\ unc (look P σ ty c) = .one (.d (.bool bc)) /\ (bc = true -> unc (look P σ ty a) = .one (.d (.bool p))) /\ (bc = false -> unc (look P σ ty b) = .one (.d (.bool q))) /\
   (bc = true -> gOf (look P σ ty a) = true) /\ (bc = false -> gOf (look P σ ty b) = true) /\ v = .one (.d (.bool (cond bc p q)))
 | .load T x => gOf (look P σ 0 x) = true /\ zz P T = true /\
   (match unc (look P σ 0 x) with
   | .one (.bptr t c) => ∃ cells, σ.ob t 0 = .box cells /\ c + P.cellsOf T <= cells.length /\ v = ldV P T (cut cells c (P.cellsOf T))
   | .one (.ptr t j i c) => ∃ q size rows, σ.ob t j = .arr q size rows /\ i < rows.length /\ c + P.cellsOf T <= size /\ v = ldV P T (W8 q t j i c (cut (rows.getD i []) c (P.cellsOf T)))
   | .one (.rptr r c) => c + P.cellsOf T <= r.length /\ v = ldV P T ((cut r c (P.cellsOf T)).map .d)
   | .one (.tref t j i c (some k)) => ∃ size rows s, σ.ob t j = .arr true size rows /\ i < rows.length /\ (rows.getD i [])[c]? = some (.sl 1 s) /\ P.cellsOf T = 1 /\ k < s.length /\ (s.getD k []).all D.scalar = true /\ v = ldV P T ((s.getD k []).map .d)
   | _ => False)
 | .fieldAddr T x f => gOf (look P σ 0 x) = true /\ xA P T f = true /\
   (match unc (look P σ 0 x) with
   | .one (.bptr t c) => (∃ cells, σ.ob t 0 = .box cells) /\ v = .one (.bptr t (c + Xk P T f))
   | .one (.ptr t j i c) => (∃ q size rows, σ.ob t j = .arr q size rows) /\ v = .one (.ptr t j i (c + Xk P T f))
   | .one (.rptr r c) => v = .one (.rptr r (c + Xk P T f))
   | .one (.tref t j i c (some k)) => (∃ size rows, σ.ob t j = .arr true size rows) /\ v = .one (.tref t j i c (some (k + Xk P T f)))
   | _ => False)
 | .nilCheck x => gOf (look P σ 0 x) = true /\
   (match unc (look P σ 0 x) with
   | .one (.bptr t c) => (∃ cells, σ.ob t 0 = .box cells) /\ v = .one (.bptr t c)
   | _ => False)
 | .indexAddr T x ix => ∃ k i, jm P σ ix k i /\ 0 <= i /\ gOf (look P σ 0 x) = true /\
   (match unc (look P σ 0 x) with
   | .one (.d (.sl size rows)) => XC P T = true /\ size = P.cellsOf (ZP P T) /\ 0 < size /\ i < (rows.length : Int) /\ v = .one (.rptr (rows.getD i.toNat []) 0)
   | .one (.sref t j lo len) => XC P T = true /\ 0 < P.cellsOf (ZP P T) /\ (∃ q rows, σ.ob t j = .arr q (P.cellsOf (ZP P T)) rows) /\ i < (len : Int) /\ v = .one (.ptr t j (lo + i.toNat) 0)
   | .one (.bptr t c) => (∃ cells, σ.ob t 0 = .box cells) /\ (∃ n, I8 P T = some n /\ 1 < n /\ i < (n : Int)) /\ v = .one (.bptr t (c + i.toNat * P.cellsOf (ZP P T)))
   | .one (.tref t j m c none) => XC P T = true /\ 0 < P.cellsOf (ZP P T) /\ (∃ size rows s, σ.ob t j = .arr true size rows /\ m < rows.length /\ (rows.getD m [])[c]? = some (.sl (P.cellsOf (ZP P T)) s) /\ i < (s.length : Int)) /\ v = .one (.tref t j m c (some (i.toNat * P.cellsOf (ZP P T))))
   | _ => False)
 | .index T x ix => ∃ k i, jm P σ ix k i /\ 0 <= i /\ gOf (look P σ 0 x) = true /\
   (match unc (look P σ 0 x) with
   | .one (.d (.str s)) => VX P T = true /\ i < (s.size : Int) /\ v = .one (.d (.int .u8 (s.data.toList.getD i.toNat 0).toNat))
   | .agg xs => (∃ n, I8 P T = some n /\ i < (n : Int)) /\ zz P (ZP P T) = true /\ i.toNat * P.cellsOf (ZP P T) + P.cellsOf (ZP P T) <= xs.length /\ v = ldV P (ZP P T) (cut xs (i.toNat * P.cellsOf (ZP P T)) (P.cellsOf (ZP P T)))
   | _ => False)
 | .slice T x lo hi none => gOf (look P σ 0 x) = true /\
   (match unc (look P σ 0 x) with
   | .one (.d (.str s)) => VX P T = true /\ ∃ l h, bnd P σ 0 lo l /\ bnd P σ s.size hi h /\ l <= h /\ h <= s.size /\ v = .one (.d (.str (s.extract l h)))
   | .one (.d (.sl size rows)) => XC P T = true /\ size = P.cellsOf (ZP P T) /\ ∃ l h, bnd P σ 0 lo l /\ bnd P σ rows.length hi h /\ l <= h /\ h <= rows.length /\ v = .one (.d (.sl size (cut rows l (h - l))))
   | .one (.sref t j o len) => XC P T = true /\ (∃ q rows, σ.ob t j = .arr q (P.cellsOf (ZP P T)) rows) /\ ∃ l h, bnd P σ 0 lo l /\ bnd P σ len hi h /\ l <= h /\ h <= len /\ v = .one (.sref t j (o + l) (h - l))
   | _ => False)
 | .binOp op T x y _ => gOf (look P σ T x) = true /\ gOf (look P σ T y) = true /\
   I7 P op T (unc (look P σ T x)) (unc (look P σ T y)) v
 | .unOp op _ x => gOf (look P σ 0 x) = true /\
   (match op, unc (look P σ 0 x) with
   | .not, .one (.d (.bool b)) => v = .one (.d (.bool (!b)))
   | .neg, .one (.d (.int k n)) => v = .one (.d (.int k (k.wrap (-n))))
   | _, _ => False)
 | .convert S T x => gOf (look P σ 0 x) = true /\ (P.underlying S).isSome = true /\
   (match unc (look P σ 0 x) with
   | .one (.d (.int _ n)) => ∃ k, Gd P T = some k /\ v = .one (.d (.int k (k.wrap n)))
   | _ => False)
 | .extract x i => gOf (look P σ 0 x) = true /\
   (match unc (look P σ 0 x) with
   | .tup xs => xs[i]? = some v /\ v.flat = true
   | _ => False)
 | .field T x f => gOf (look P σ 0 x) = true /\ xA P T f = true /\ zz P (zq P T f) = true /\
   (match unc (look P σ 0 x) with
   | .agg xs => Xk P T f + P.cellsOf (zq P T f) <= xs.length /\ v = ldV P (zq P T f) (cut xs (Xk P T f) (P.cellsOf (zq P T f)))
   | _ => False)
 | .build T parts => Xy P T = true /\ Wm P T = true /\ ∃ z out, qF P 12 T = some z /\ WC P σ T parts.toList z out /\ v = .agg out
 | .call c =>
   (match c.callee, c.args.toList, c.argTypes.toList with
   | .builtin .len, [x], [t] => gOf (look P σ t x) = true /\
     (match unc (look P σ t x) with
     | .one (.d (.str s)) => VX P t = true /\ v = .one (.d (.int .i64 s.size))
     | .one (.d (.sl _ rows)) => XC P t = true /\ v = .one (.d (.int .i64 rows.length))
     | .one (.nil _) => XC P t = true /\ v = .one (.d (.int .i64 0))
     | .one (.sref u j _ len) => XC P t = true /\ ((∃ q size rows, σ.ob u j = .arr q size rows) \/ ∃ size rows, σ.ob u j = .lit size rows) /\ v = .one (.d (.int .i64 len))
     | .one (.tref u j i c none) => XC P t = true /\ ∃ size rows n s, σ.ob u j = .arr true size rows /\ i < rows.length /\ (rows.getD i [])[c]? = some (.sl n s) /\ v = .one (.d (.int .i64 s.length))
     | _ => False)
   | .builtin .max, [x, y], _ => ∃ k m n, jm P σ x k m /\ jm P σ y k n /\ v = .one (.d (.int k (if n > m then n else m)))
   | .builtin .min, [x, y], _ => ∃ k m n, jm P σ x k m /\ jm P σ y k n /\ v = .one (.d (.int k (if n < m then n else m)))
   | _, _, _ => False)
 | _ => False
end Go.Vm
namespace Go.Vm
section
variable {P : Program} {T0 : CS} {B : Nat -> Prop} {σ : St} {a : Act} {w : World} {X : Nat -> Prop} {h : Nat -> Nat -> Hd}
theorem xC (b off n : Nat) : (⟨b, off, none⟩ : Addr).add n = ⟨b, off + n, none⟩ := by
 unfold Addr.add; split <;> simp_all
theorem xT {T : TypeId} (ht : zz P T = true) : ∃ d i, P.underlying T = some d /\ P.info? T = some i /\ i.size = P.cellsOf T /\ (Wm P T = true \/ P.cellsOf T = 1) := by
 simp only [zz, Bool.and_eq_true, Bool.or_eq_true, beq_iff_eq] at ht
 obtain ⟨⟨h1, h2⟩, h3⟩ := ht
 obtain ⟨d, hd⟩ := Option.isSome_iff_exists.1 h1
 obtain ⟨i, hi⟩ := Option.isSome_iff_exists.1 h2
 exact ⟨d, i, hd, hi, by simp [Program.cellsOf, hi], h3⟩
theorem TE {T : TypeId} {d : TypeDesc} (hd : P.underlying T = some d) (w : World) : (isAgg T).run P w = .ok (Wm P T) w := by
 unfold isAgg Wm
 rw [hd]
 simp only [Sem.run_bind, run_underlying hd, Result.andThen_ok]
 cases d <;> simp
theorem Qk {T : TypeId} {i : TypeInfo} (hi : P.info? T = some i) (w : World) : (sizeOf T).run P w = .ok (P.cellsOf T) w := by
 simp [sizeOf, typeInfo, hi, Program.cellsOf]
theorem E4 {T : TypeId} (ht : zz P T = true) {b off : Nat} {cs : List Value} (hl : cs.length = P.cellsOf T) (hc : ∀ j v, cs[j]? = some v -> w.cell? ⟨b, off + j, none⟩ = some v) :
  ∃ val, (Instr.loadAt T (.pointer (some ⟨b, off, none⟩))).run P w = .ok val w /\ (Wm P T = true -> val = .agg cs.toArray) /\ (Wm P T = false -> cs = [val]) := by
 obtain ⟨d, i, hd, hi, vV, vC⟩ := xT ht
 cases sO : Wm P T with
 | true =>
  refine ⟨.agg cs.toArray, ?_, fun _ => rfl, (fun hh => by cases hh)⟩
  have := run_loadCells_list (P := P) w ⟨b, off, none⟩ cs (fun j v hv => by rw [xC]; exact hc j v hv)
  simp only [Instr.loadAt, Instr.sureAddr, loadVar, Sem.run_bind, Sem.run_pure, Result.andThen_ok, TE hd, sO, if_true, Qk hi, <- hl, this]
 | false =>
  rcases vC with vC | vC
  ·rw [sO] at vC; cases vC
  ·rw [vC] at hl
   obtain ⟨val, rfl⟩ := List.length_eq_one_iff.1 hl
   refine ⟨val, ?_, (fun hh => by cases hh), fun _ => rfl⟩
   have hU := hc 0 val (by simp)
   simp only [Nat.add_zero] at hU
   simp [Instr.loadAt, Instr.sureAddr, loadVar, TE hd, sO, load, Sem.run, hU]
theorem FI {T : TypeId} (ed : zz P T = true) {T' : CS} {ob : Nat -> Nat -> Ob} {xs : List At} {cs : List Value} {val : Value} (hx : Z2 (Z7 T' h ob w) xs cs)
  (h1 : Wm P T = true -> val = .agg cs.toArray) (h2 : Wm P T = false -> cs = [val]) : Xs T' h ob w (ldV P T xs) val := by
 unfold ldV
 cases sO : Wm P T with
 | true => simp only [if_true]; exact ⟨_, h1 sO, by simpa using hx⟩
 | false =>
  simp only [Bool.false_eq_true, if_false]
  rw [h2 sO] at hx
  cases hx with
  | cons r hx => cases hx; exact r
theorem Z2.cut {α β : Type} {R : α -> β -> Prop} {l : List α} {m : List β} (x : Z2 R l m) (o n : Nat) : Z2 R (Vm.cut l o n) (Vm.cut m o n) := (x.drop o).take n
theorem Xl {α : Type} (l : List α) (o n : Nat) (hl : o + n <= l.length) : (cut l o n).length = n := by simp [cut]; omega
theorem yJ {α : Type} (l : List α) (o n j : Nat) (v : α) (hv : (cut l o n)[j]? = some v) : l[o + j]? = some v := by
 simp only [cut, List.getElem?_take, List.getElem?_drop] at hv
 split at hv
 ·exact hv
 ·cases hv
theorem yZ {α : Type} : ∀ (rows : List (List α)) (size : Nat), (∀ r ∈ rows, r.length = size) -> ∀ (i : Nat) (r : List α), rows[i]? = some r -> ∀ (j : Nat) (d : α), r[j]? = some d -> rows.flatten[i * size + j]? = some d
 | [], _, _, i, r, hr, _, _, _ => by simp at hr
 | r0 :: rows, size, hz, 0, r, hr, j, d, hd => by
  simp at hr; subst hr
  have hj : j < r0.length := (List.getElem?_eq_some_iff.1 hd).1
  simp [List.getElem?_append_left hj, hd]
 | r0 :: rows, size, hz, i + 1, r, hr, j, d, hd => by
  have ih := yZ rows size (fun r hr => hz r (by simp [hr])) i r (by simpa using hr) j d hd
  have h0 : r0.length = size := hz r0 (by simp)
  rw [List.flatten_cons, List.getElem?_append_right (by rw [h0, Nat.add_mul]; omega), h0]
  have : (i + 1) * size + j - size = i * size + j := by rw [Nat.add_mul]; omega
  rw [this]; exact ih
theorem YL {α : Type} (rows : List (List α)) (size : Nat) (hz : ∀ r ∈ rows, r.length = size) : rows.flatten.length = rows.length * size := by
 induction rows with
 | nil => simp
 | cons r rows ih => rw [List.flatten_cons, List.length_append, ih (fun r hr => hz r (by simp [hr])), hz r (by simp), List.length_cons, Nat.add_mul]; omega
theorem Rd.row {T : CS} {v : Value} {size : Nat} {rows : List (List D)} (r : Rd T w v (.sl size rows)) (i : Nat) (hi : i < rows.length) (vV : 0 < size) :
  ∃ a len cap, v = .slice (some a) len cap /\ len = rows.length /\ a.spot = none /\
   ∃ g : Nat -> Value, ∀ k d, (rows.getD i [])[k]? = some d -> w.cell? ⟨a.block, a.off + i * size + k, none⟩ = some (g k) /\ T a.block (a.off + i * size + k) /\ Rd T w (g k) d := by
 cases r with
 | nil => simp at hi
 | sl a len cap size rows g hl hc hm hz hs hg hr =>
  have wh : rows[i]? = some (rows.getD i []) := by simp [List.getD_eq_getElem?_getD, List.getElem?_eq_getElem hi]
  have wE : rows.flatten ≠ [] := by
   have hlen := YL rows size hz
   have hp : 0 < rows.length * size := Nat.mul_pos (by omega) vV
   intro he
   have h0 : rows.flatten.length = 0 := by rw [he]; rfl
   omega
  refine ⟨a, len, cap, rfl, hl.symm, hs wE, fun k => g (i * size + k), fun k d hd => ?_⟩
  have hf := yZ rows size hz i _ wh k d hd
  have h1 := hg _ _ hf
  rw [Nat.add_assoc]
  exact ⟨h1.1, h1.2, hr _ _ hf⟩
theorem Mp {T : CS} {v : Value} {size : Nat} {rows : List (List D)} (r : Rd T w v (.sl size rows)) : ∀ x ∈ rows, x.length = size := by
 cases r with
 | nil => intro x hx; cases hx
 | sl a len cap size rows g hl hc hm hz hs hg hr => exact hz
theorem Gf {T : CS} {v : Value} {size : Nat} {rows : List (List D)} (r : Rd T w v (.sl size rows)) : ∃ base cap, v = .slice base rows.length cap /\ rows.length <= cap /\ cap <= maxLen := by
 cases r with
 | nil => exact ⟨none, 0, rfl, by simp, by simp [maxLen]⟩
 | sl a len cap size rows g hl hc hm hz hs hg hr => exact ⟨some a, cap, by rw [hl], by omega, hm⟩
theorem XV {t : TypeId} (ht : XC P t = true) : ∃ i, P.underlying t = some (.slice (ZP P t)) /\ P.info? (ZP P t) = some i /\ i.size = P.cellsOf (ZP P t) := by
 unfold XC at ht
 split at ht
 ·rename_i e he
  obtain ⟨i, hi⟩ := Option.isSome_iff_exists.1 ht
  have : ZP P t = e := by simp [ZP, he]
  rw [this]
  exact ⟨i, he, hi, by simp [Program.cellsOf, hi]⟩
 ·cases ht
theorem Nw {t : TypeId} {n : Nat} (ht : I8 P t = some n) : ∃ i, P.underlying t = some (.array n (ZP P t)) /\ P.info? (ZP P t) = some i /\ i.size = P.cellsOf (ZP P t) := by
 unfold I8 at ht
 split at ht
 ·rename_i m e he
  split at ht
  ·rename_i hh
   cases ht
   obtain ⟨i, hi⟩ := Option.isSome_iff_exists.1 hh
   have : ZP P t = e := by simp [ZP, he]
   rw [this]
   exact ⟨i, he, hi, by simp [Program.cellsOf, hi]⟩
  ·cases ht
 ·cases ht
theorem TT {t : TypeId} {f : Nat} (ht : xA P t f = true) : ∃ fs fd i, P.underlying t = some (.struct fs) /\ fs[f]? = some fd /\ fd.offset = Xk P t f /\ fd.type = zq P t f /\ P.info? fd.type = some i /\ i.size ≠ 0 := by
 unfold xA at ht
 split at ht
 ·rename_i fs he
  split at ht
  ·rename_i fd hf
   simp at ht
   obtain ⟨i, hi⟩ := Option.isSome_iff_exists.1 ht.1
   exact ⟨fs, fd, i, he, hf, by simp [Xk, he, hf], by simp [zq, he, hf], hi, by simpa [Program.cellsOf, hi] using ht.2⟩
  ·cases ht
 ·cases ht
theorem yN {t : TypeId} (ht : VX P t = true) : P.underlying t = some .string := by
 unfold VX at ht; split at ht <;> first | assumption | cases ht
theorem N2 {t : TypeId} {k : IntKind} (ht : Gd P t = some k) : P.underlying t = some (.int k) := by
 unfold Gd at ht
 split at ht
 ·cases ht; assumption
 ·cases ht
theorem VS {T : CS} {v : Value} {k : IntKind} {n : Int} (r : Rd T w v (.int k n)) : v = .int k n := by cases r; rfl
theorem xL {T : CS} {v : Value} {b : Bool} (r : Rd T w v (.bool b)) : v = .bool b := by cases r; rfl
theorem Up {T : CS} {v : Value} {s : ByteArray} (r : Rd T w v (.str s)) : v = .string s := by cases r; rfl
theorem zH (r : Rel T0 B σ a w X h) {x : Operand} {k : IntKind} {n : Int} (hx : jm P σ x k n) : a.eval x = .int k n :=
 VS (r.arg 0 x hx.2 hx.1)
end
end Go.Vm
namespace Go.Vm
section
variable {P : Program} {T0 : CS} {B : Nat -> Prop} {σ : St} {a : Act} {w : World} {X : Nat -> Prop} {h : Nat -> Nat -> Hd}
theorem Own.Xa {v : Value} {d : D} {S : Nat -> Prop} (h : Own w v d S) : v.oneCell' = true := by
 cases h with
 | int => rfl
 | bool => rfl
 | str => rfl
 | unk _ h => exact h
 | sl v size rows S e xs Sk ho hz hb hl hk hs hd => rcases ho.2 with ⟨rfl, _⟩ | ⟨g, cap, cur, rfl, _⟩ <;> rfl
theorem Oq {t j i : Nat} : ∀ {xs : List D} {c k : Nat} {x : At}, (qY t j i c xs)[k]? = some x -> ∃ d, xs[k]? = some d /\ x = (match d with | .sl _ _ => .tref t j i (c + k) none | d => .d d)
 | [], c, k, x, hx => by simp [qY] at hx
 | d :: xs, c, 0, x, hx => by
  simp only [qY, List.getElem?_cons_zero] at hx
  cases hx
  exact ⟨d, by simp, by cases d <;> simp⟩
 | d :: xs, c, k + 1, x, hx => by
  simp only [qY, List.getElem?_cons_succ] at hx
  obtain ⟨d', wR, rfl⟩ := Oq hx
  exact ⟨d', by simpa using wR, by cases d' <;> simp; omega⟩
theorem TY {t j i : Nat} : ∀ (c : Nat) (xs : List D), (qY t j i c xs).length = xs.length
 | _, [] => rfl
 | c, d :: xs => by simp [qY, TY (c + 1) xs]
theorem Mr (q : Bool) (t j i c : Nat) (xs : List D) : (W8 q t j i c xs).length = xs.length := by
 cases q <;> simp [W8, TY]
theorem Rel.box (r : Rel T0 B σ a w X h) {t : Nat} {cells : List At} (ho : σ.ob t 0 = .box cells) {c : Nat} {v : Value} (hv : Z7 (Tof T0 X) h σ.ob w (.bptr t c) v) :
  ∃ b cs e, (h t 0).v = .pointer (some ⟨b, 0, none⟩) /\ v = .pointer (some ⟨b, c, none⟩) /\ w.heap[b]? = some (.cells cs e (0, 0)) /\ Z2 (Z7 (Tof T0 X) h σ.ob w) cells cs.toList := by
 obtain ⟨b, hb, rfl⟩ := hv.2 cells ho
 have wV := r.obj t 0
 rw [ho] at wV
 obtain ⟨b', cs, e, wU, hh, wG⟩ := wV
 rw [hb] at wU
 cases wU
 exact ⟨b, cs, e, hb, rfl, hh, wG⟩
theorem Km {b : Nat} {cs : Array Value} {e : TypeId} {f : Nat × Nat} (hh : w.heap[b]? = some (.cells cs e f)) (k : Nat) (v : Value) (hv : cs.toList[k]? = some v) : w.cell? ⟨b, k, none⟩ = some v := by
 simp only [World.cell?, hh]
 simpa using hv
theorem Rel.arr (r : Rel T0 B σ a w X h) {t j : Nat} {q : Bool} {size : Nat} {rows : List (List D)} (ho : σ.ob t j = .arr q size rows) {i c : Nat} {v : Value} (hv : Z7 (Tof T0 X) h σ.ob w (.ptr t j i c) v) :
  ∃ b cap cur e xs, (h t j).v = .slice (some ⟨b, 0, none⟩) rows.length cap /\ v = .pointer (some ⟨b, i * size + c, none⟩) /\ w.heap[b]? = some (.cells cur e (0, 0)) /\ rows.length <= cap /\ cap <= maxLen /\ cur.size = cap * size /\
   cur.toList.take (rows.length * size) = xs /\ (∀ r ∈ rows, r.length = size) /\ xs.length = rows.flatten.length /\ (q = false -> Z2 (Rd (Tof T0 X) w) xs rows.flatten) /\
   (q = true -> Qt w xs rows.flatten (fun b => (h t j).u b /\ blk (h t j).v ≠ some b) /\ ∀ k x d, xs[k]? = some x -> rows.flatten[k]? = some d -> d.scalar = false -> (h t j).n k = x) := by
 obtain ⟨b, n, cap, hb, rfl⟩ := hv.2 q size rows ho
 have wV := r.obj t j
 rw [ho] at wV
 cases q with
 | false =>
  obtain ⟨e, xs, wJ, hz, wG⟩ := wV
  rcases wJ.2 with ⟨h0, _⟩ | ⟨g, pe, cur, hg, _, hh, hle, uO, uI, u4⟩
  ·rw [hb] at h0; cases h0
  ·rw [hb] at hg
   cases hg
   exact ⟨b, cap, cur, e, xs, hb, rfl, hh, hle, uO, uI, u4, hz, wG.length, fun _ => wG, fun hh => by cases hh⟩
 | true =>
  obtain ⟨e, xs, wJ, hz, wG, hn⟩ := wV
  rcases wJ.2 with ⟨h0, _⟩ | ⟨g, pe, cur, hg, _, hh, hle, uO, uI, u4⟩
  ·rw [hb] at h0; cases h0
  ·rw [hb] at hg
   cases hg
   exact ⟨b, cap, cur, e, xs, hb, rfl, hh, hle, uO, uI, u4, hz, wG.1, (fun hh => by cases hh), fun _ => ⟨wG, hn⟩⟩
theorem Own.hdr {v : Value} {n : Nat} {s : List (List D)} {S : Nat -> Prop} (h : Own w v (.sl n s) S) (hp : 0 < s.length) : ∃ b cap, v = .slice (some ⟨b, 0, none⟩) s.length cap := by
 cases h with
 | sl v size rows S e xs Sk ho hz hb hl hk hs hd =>
  obtain ⟨_, ⟨_, h0⟩ | ⟨g, cap, cur, hv, _⟩⟩ := ho
  ·omega
  ·exact ⟨g, cap, hv⟩
theorem Rel.nest (r : Rel T0 B σ a w X h) {t j i c size n : Nat} {rows s : List (List D)} (ho : σ.ob t j = .arr true size rows) (hi : i < rows.length) (wM : (rows.getD i [])[c]? = some (.sl n s)) : ∃ v0 S, (h t j).n (i * size + c) = v0 /\ Own w v0 (.sl n s) S := by
 have h0 := r.obj t j
 rw [ho] at h0
 obtain ⟨e, vs, uT, hz, ⟨hl, Sk, o1, o2, o3⟩, hn⟩ := h0
 have wh : rows[i]? = some (rows.getD i []) := by simp [List.getD_eq_getElem?_getD, List.getElem?_eq_getElem hi]
 have v5 : rows.flatten[i * size + c]? = some (.sl n s) := yZ rows size hz i _ wh c _ wM
 have wO : i * size + c < vs.length := by rw [hl]; exact (List.getElem?_eq_some_iff.1 v5).1
 have pf : vs[i * size + c]? = some vs[i * size + c] := List.getElem?_eq_getElem wO
 exact ⟨_, _, hn _ _ _ pf v5 rfl, o1 _ _ _ pf v5⟩
theorem Gy (r : Rel T0 B σ a w X h) {o : Oper} {T : TypeId} {x : Operand} {v : V} (wA : o.op = .load T x) (hs : YH P σ o.op o.type v) :
  ∃ val, (execOp a.eval o).run P w = .ok (.value val) w /\ Xs (Tof T0 X) h σ.ob w v val := by
 simp only [wA, YH] at hs
 obtain ⟨hg, ue, hs⟩ := hs
 have hx := r.arg (P := P) 0 x rfl hg
 have key : ∀ (b off : Nat) (xs : List At) (cs : List Value), a.eval x = .pointer (some ⟨b, off, none⟩) -> v = ldV P T xs -> cs.length = P.cellsOf T ->
   (∀ j u, cs[j]? = some u -> w.cell? ⟨b, off + j, none⟩ = some u) -> Z2 (Z7 (Tof T0 X) h σ.ob w) xs cs -> ∃ val, (execOp a.eval o).run P w = .ok (.value val) w /\ Xs (Tof T0 X) h σ.ob w v val := by
  intro b off xs cs he hv hl hc wG
  obtain ⟨val, hr, h1, h2⟩ := E4 (P := P) ue hl hc
  refine ⟨val, ?_, ?_⟩
  ·simp only [execOp, wA, he, Sem.run_bind, hr, Result.andThen_ok, Sem.run_pure]
  ·rw [hv]; exact FI ue wG h1 h2
 split at hs
 ·rename_i t c heq
  rw [heq] at hx
  obtain ⟨cells, ho, hle, hv⟩ := hs
  obtain ⟨b, cs, e, hb, he, hh, wG⟩ := r.box ho hx
  have hlen := wG.length
  refine key b c _ (cut cs.toList c (P.cellsOf T)) he hv (Xl _ _ _ (by omega)) (fun j u hu => Km hh _ _ (yJ _ _ _ _ _ hu)) (wG.cut _ _)
 ·rename_i t j i c heq
  rw [heq] at hx
  obtain ⟨q, size, rows, ho, hi, hle, hv⟩ := hs
  obtain ⟨b, cap, cur, e, xs, hb, he, hh, vn, uO, uI, u4, hz, pT, wG, wJ⟩ := r.arr ho hx
  have wh : rows[i]? = some (rows.getD i []) := by simp [List.getD_eq_getElem?_getD, List.getElem?_eq_getElem hi]
  have tu : (rows.getD i []).length = size := hz _ (List.mem_of_getElem? wh)
  have ve := YL rows size hz
  have hmul : i * size + size <= rows.length * size := by rw [<- Nat.succ_mul]; exact Nat.mul_le_mul_right _ hi
  have sf : ∀ k d', (cut (rows.getD i []) c (P.cellsOf T))[k]? = some d' -> rows.flatten[i * size + c + k]? = some d' := by
   intro k d' wR
   have h2 := yZ rows size hz i _ wh (c + k) d' (yJ _ _ _ _ _ wR)
   rw [show i * size + c + k = i * size + (c + k) by omega]; exact h2
  refine key b (i * size + c) _ (cut xs (i * size + c) (P.cellsOf T)) he hv (Xl _ _ _ (by omega)) (fun j u hu => ?_) ?_
  ·have h1 := yJ _ _ _ _ _ hu
   refine Km hh _ _ ?_
   rw [<- u4, List.getElem?_take] at h1
   split at h1
   ·exact h1
   ·cases h1
  ·refine Z2.Ku (by rw [Xl _ _ _ (by omega), Mr, Xl _ _ _ (by omega)]) (fun k x u hx hu => ?_)
   have h1 := yJ _ _ _ _ _ hu
   cases q with
   | false =>
    obtain ⟨d, hd, hr⟩ := (wG rfl).get _ _ h1
    simp only [W8] at hx
    rw [List.getElem?_map] at hx
    cases wR : (cut (rows.getD i []) c (P.cellsOf T))[k]? with
    | none => rw [wR] at hx; cases hx
    | some d' =>
     rw [wR] at hx
     cases hx
     rw [sf k d' wR] at hd
     cases hd
     exact hr
   | true =>
    obtain ⟨⟨_, Sk, wJ, _, _⟩, hn⟩ := wJ rfl
    simp only [W8] at hx
    obtain ⟨d', wR, rfl⟩ := Oq hx
    have wY := wJ _ _ _ h1 (sf k d' wR)
    cases d' with
    | sl s rs =>
     refine ⟨wY.Xa, fun wX wS tY => ?_⟩
     rw [ho] at tY; cases tY
     show _ = _
     rw [<- hn _ _ _ h1 (sf k _ wR) rfl, Nat.add_assoc]
    | int k n => cases wY; exact .int _ _
    | bool b => cases wY; exact .bool _
    | str s => cases wY; exact .str _
    | unk => exact .unk _ wY.Xa
 ·rename_i rr c heq
  rw [heq] at hx
  obtain ⟨hle, hv⟩ := hs
  obtain ⟨b, off, g, he, hk⟩ := hx
  refine key b (off + c) _ ((List.range (P.cellsOf T)).map fun j => g (c + j)) he hv (by simp) (fun j u hu => ?_) ?_
  ·rw [List.getElem?_map] at hu
   rcases Nat.lt_or_ge j (P.cellsOf T) with hj | hj
   ·rw [List.getElem?_range hj] at hu
    cases hu
    have hd := hk (c + j) (rr[c + j]'(by omega)) (List.getElem?_eq_getElem _)
    rw [Nat.add_assoc]; exact hd.1
   ·rw [List.getElem?_eq_none (by simpa using hj)] at hu; cases hu
  ·refine Z2.Ku (by rw [List.length_map, Xl _ _ _ (by omega)]; simp) (fun k x u hx hu => ?_)
   rw [List.getElem?_map] at hx hu
   cases wR : (cut rr c (P.cellsOf T))[k]? with
   | none => rw [wR] at hx; cases hx
   | some d' =>
    rw [wR] at hx
    cases hx
    have fT : k < P.cellsOf T := by have := (List.getElem?_eq_some_iff.1 wR).1; rw [Xl _ _ _ (by omega)] at this; exact this
    rw [List.getElem?_range fT] at hu
    cases hu
    exact (hk (c + k) d' (yJ _ _ _ _ _ wR)).2.2
 ·rename_i t j i c k heq
  rw [heq] at hx
  obtain ⟨size, rows, s, ho, hi, wM, hQ, fR, vf, hv⟩ := hs
  obtain ⟨v0, S, hn, wJ⟩ := r.nest ho hi wM
  obtain ⟨b, len, sD, pQ, he⟩ := hx.2 _ _ ho
  rw [hn] at pQ
  cases wJ with
  | sl v wX wS S e xs Sk tY hz hb hl hk wN hd =>
   rcases tY.2 with ⟨rfl, h0⟩ | ⟨g, cap, cur, rfl, _, hh, tU, uO, uI, u4⟩
   ·omega
   ·cases pQ
    have wh : s[k]? = some (s.getD k []) := by simp [List.getD_eq_getElem?_getD, List.getElem?_eq_getElem fR]
    have tu : (s.getD k []).length = 1 := hz _ (List.mem_of_getElem? wh)
    have ve := YL s 1 hz
    refine key b k _ (cut xs k (P.cellsOf T)) he hv (Xl _ _ _ (by omega)) (fun j u hu => ?_) ?_
    ·have h1 := yJ _ _ _ _ _ hu
     refine Km hh _ _ ?_
     rw [<- u4, List.getElem?_take] at h1
     split at h1
     ·exact h1
     ·cases h1
    ·refine Z2.Ku (by rw [List.length_map, Xl _ _ _ (by omega)]; omega) (fun q x u hx hu => ?_)
     rw [List.getElem?_map] at hx
     cases wR : (s.getD k [])[q]? with
     | none => rw [wR] at hx; cases hx
     | some d' =>
      rw [wR] at hx
      cases hx
      have hq : q = 0 := by have := (List.getElem?_eq_some_iff.1 wR).1; omega
      subst hq
      have hf := yZ s 1 hz k _ wh 0 d' wR
      rw [Nat.mul_one] at hf
      have m5 := hk _ _ _ (yJ _ _ _ _ _ hu) hf
      have fU : d'.scalar = true := List.all_eq_true.1 vf d' (List.mem_of_getElem? wR)
      cases d' with
      | sl s' rs => cases fU
      | int k' n' => cases m5; exact .int _ _
      | bool b' => cases m5; exact .bool _
      | str s' => cases m5; exact .str _
      | unk => exact .unk _ m5.Xa
 ·exact hs.elim
theorem ka {T : TypeId} {f : Nat} (hf : xA P T f = true) (b off : Nat) : (Instr.fieldAt T (.pointer (some ⟨b, off, none⟩)) f).run P w = .ok (.pointer (some ⟨b, off + Xk P T f, none⟩)) w := by
 obtain ⟨fs, fd, i, hu, rJ, rf, ue, hi, wE⟩ := TT hf
 have w6 : P.cellsOf fd.type ≠ 0 := by simpa [Program.cellsOf, hi] using wE
 simp [Instr.fieldAt, run_underlying hu, rJ, Instr.sureAddr, fieldPlace, Qk hi, w6, xC, rf]
theorem OF (r : Rel T0 B σ a w X h) {o : Oper} {T : TypeId} {x : Operand} {f : Nat} {v : V} (wA : o.op = .fieldAddr T x f) (hs : YH P σ o.op o.type v) :
  ∃ val, (execOp a.eval o).run P w = .ok (.value val) w /\ Xs (Tof T0 X) h σ.ob w v val := by
 simp only [wA, YH] at hs
 obtain ⟨hg, hf, hs⟩ := hs
 have hx := r.arg (P := P) 0 x rfl hg
 split at hs
 ·rename_i t c heq
  rw [heq] at hx
  obtain ⟨⟨cells, ho⟩, rfl⟩ := hs
  obtain ⟨b, hb, he⟩ := hx.2 cells ho
  refine ⟨.pointer (some ⟨b, c + Xk P T f, none⟩), by simp only [execOp, wA, he, Sem.run_bind, ka hf, Result.andThen_ok, Sem.run_pure], rfl, fun wK _ => ⟨b, hb, rfl⟩⟩
 ·rename_i t j i c heq
  rw [heq] at hx
  obtain ⟨⟨q, size, rows, ho⟩, rfl⟩ := hs
  obtain ⟨b, n, cap, hb, he⟩ := hx.2 q size rows ho
  refine ⟨.pointer (some ⟨b, i * size + c + Xk P T f, none⟩), by simp only [execOp, wA, he, Sem.run_bind, ka hf, Result.andThen_ok, Sem.run_pure], rfl, fun q' wX wS wY => ?_⟩
  rw [ho] at wY
  cases wY
  exact ⟨b, n, cap, hb, by rw [Nat.add_assoc]⟩
 ·rename_i rr c heq
  rw [heq] at hx
  subst hs
  obtain ⟨b, off, g, he, hk⟩ := hx
  exact ⟨.pointer (some ⟨b, off + c + Xk P T f, none⟩), by simp only [execOp, wA, he, Sem.run_bind, ka hf, Result.andThen_ok, Sem.run_pure], b, off, g, by rw [Nat.add_assoc], hk⟩
 ·rename_i t j i c k heq
  rw [heq] at hx
  obtain ⟨⟨size, rows, ho⟩, rfl⟩ := hs
  obtain ⟨b, n, cap, hb, he⟩ := hx.2 size rows ho
  refine ⟨.pointer (some ⟨b, k + Xk P T f, none⟩), by simp only [execOp, wA, he, Sem.run_bind, ka hf, Result.andThen_ok, Sem.run_pure], rfl, fun wX wS wY => ?_⟩
  rw [ho] at wY
  cases wY
  exact ⟨b, n, cap, hb, rfl⟩
 ·exact hs.elim
theorem O8 (r : Rel T0 B σ a w X h) {o : Oper} {x : Operand} {v : V} (wA : o.op = .nilCheck x) (hs : YH P σ o.op o.type v) :
  ∃ val, (execOp a.eval o).run P w = .ok (.value val) w /\ Xs (Tof T0 X) h σ.ob w v val := by
 simp only [wA, YH] at hs
 obtain ⟨hg, hs⟩ := hs
 have hx := r.arg (P := P) 0 x rfl hg
 split at hs
 ·rename_i t c heq
  rw [heq] at hx
  obtain ⟨⟨cells, ho⟩, rfl⟩ := hs
  obtain ⟨b, hb, he⟩ := hx.2 cells ho
  exact ⟨.pointer (some ⟨b, c, none⟩), by simp only [execOp, wA, he, Sem.run_pure], rfl, fun wK _ => ⟨b, hb, rfl⟩⟩
 ·exact hs.elim
theorem UW {T : TypeId} (ht : XC P T = true) (ad : Addr) (sv : ad.spot = none) (len cap : Nat) (k : IntKind) (i : Int) (h0 : 0 <= i) (hl : i < (len : Int)) :
  (Instr.indexAt T (.slice (some ad) len cap) (.int k i)).run P w = .ok (.pointer (some ⟨ad.block, ad.off + i.toNat * P.cellsOf (ZP P T), none⟩)) w := by
 obtain ⟨ti, hu, hi, vV⟩ := XV ht
 obtain ⟨b, off, sp⟩ := ad
 simp at sv; subst sv
 simp [Instr.indexAt, asIntOf, run_underlying hu, h0, hl, Qk hi, xC]
theorem ID {T : TypeId} {n : Nat} (ht : I8 P T = some n) (ee : 1 < n) (b off : Nat) (k : IntKind) (i : Int) (h0 : 0 <= i) (hl : i < (n : Int)) :
  (Instr.indexAt T (.pointer (some ⟨b, off, none⟩)) (.int k i)).run P w = .ok (.pointer (some ⟨b, off + i.toNat * P.cellsOf (ZP P T), none⟩)) w := by
 obtain ⟨ti, hu, hi, vV⟩ := Nw ht
 simp [Instr.indexAt, Instr.sureAddr, asIntOf, run_underlying hu, h0, hl, Qk hi, xC]
theorem P1 (r : Rel T0 B σ a w X h) {o : Oper} {T : TypeId} {x ix : Operand} {v : V} (wA : o.op = .indexAddr T x ix) (hs : YH P σ o.op o.type v) :
  ∃ val, (execOp a.eval o).run P w = .ok (.value val) w /\ Xs (Tof T0 X) h σ.ob w v val := by
 simp only [wA, YH] at hs
 obtain ⟨k, i, iH, h0, hg, hs⟩ := hs
 have hx := r.arg (P := P) 0 x rfl hg
 have pO := zH r iH
 split at hs
 ·rename_i size rows heq
  rw [heq] at hx
  obtain ⟨ht, rfl, vY, wO, rfl⟩ := hs
  have mR : i.toNat < rows.length := by omega
  obtain ⟨ad, len, cap, he, hlen, sv, g, hk⟩ := Rd.row (show Rd _ _ _ _ from hx) i.toNat mR vY
  refine ⟨.pointer (some ⟨ad.block, ad.off + i.toNat * P.cellsOf (ZP P T), none⟩), by simp only [execOp, wA, he, pO, Sem.run_bind, UW ht ad sv len cap k i h0 (by omega), Result.andThen_ok, Sem.run_pure], ad.block, ad.off + i.toNat * P.cellsOf (ZP P T), g, by simp, hk⟩
 ·rename_i t j lo len heq
  rw [heq] at hx
  obtain ⟨ht, vY, ⟨q, rows, ho⟩, wO, rfl⟩ := hs
  obtain ⟨hle, _, _, base, cap, he, vn, _, _, hb⟩ := hx.2.1 _ _ rows ho
  obtain ⟨b, sD, hh, pA⟩ := hb (by omega)
  rw [pA] at he
  refine ⟨.pointer (some ⟨b, lo * P.cellsOf (ZP P T) + i.toNat * P.cellsOf (ZP P T), none⟩), by simp only [execOp, wA, he, pO, Sem.run_bind, UW ht ⟨b, lo * P.cellsOf (ZP P T), none⟩ rfl len cap k i h0 wO, Result.andThen_ok, Sem.run_pure], rfl, fun q' wX wS wY => ?_⟩
  rw [ho] at wY
  cases wY
  exact ⟨b, rows.length, sD, hh, by simp [Nat.add_mul]⟩
 ·rename_i t c heq
  rw [heq] at hx
  obtain ⟨⟨cells, ho⟩, ⟨n, hn, h1, wO⟩, rfl⟩ := hs
  obtain ⟨b, hb, he⟩ := hx.2 cells ho
  exact ⟨.pointer (some ⟨b, c + i.toNat * P.cellsOf (ZP P T), none⟩), by simp only [execOp, wA, he, pO, Sem.run_bind, ID hn h1 b c k i h0 wO, Result.andThen_ok, Sem.run_pure], rfl, fun wK _ => ⟨b, hb, rfl⟩⟩
 ·rename_i t j m c heq
  rw [heq] at hx
  obtain ⟨ht, vY, ⟨size, rows, s, ho, hm, wM, wO⟩, rfl⟩ := hs
  obtain ⟨v0, S, hn, wJ⟩ := r.nest ho hm wM
  have he : a.eval x = v0 := by rw [<- hn]; exact hx.2 size rows ho
  obtain ⟨b, cap, pQ⟩ := wJ.hdr (by omega)
  rw [pQ] at he hn
  refine ⟨.pointer (some ⟨b, 0 + i.toNat * P.cellsOf (ZP P T), none⟩), by simp only [execOp, wA, he, pO, Sem.run_bind, UW ht ⟨b, 0, none⟩ rfl s.length cap k i h0 wO, Result.andThen_ok, Sem.run_pure], rfl, fun wX wS wY => ?_⟩
  rw [ho] at wY
  cases wY
  exact ⟨b, s.length, cap, hn, by simp⟩
 ·exact hs.elim
end
end Go.Vm
namespace Go.Vm
section
variable {P : Program} {T0 : CS} {B : Nat -> Prop} {σ : St} {a : Act} {w : World} {X : Nat -> Prop} {h : Nat -> Nat -> Hd}
theorem Ew {T : TypeId} (ht : zz P T = true) {cs : Array Value} {off : Nat} (hl : off + P.cellsOf T <= cs.size) :
  ∃ val, (part T cs off).run P w = .ok val w /\ (Wm P T = true -> val = .agg (cut cs.toList off (P.cellsOf T)).toArray) /\ (Wm P T = false -> cut cs.toList off (P.cellsOf T) = [val]) := by
 obtain ⟨d, i, hd, hi, vV, vC⟩ := xT ht
 cases sO : Wm P T with
 | true =>
  refine ⟨.agg (cs.extract off (off + P.cellsOf T)), ?_, fun _ => ?_, (fun hh => by cases hh)⟩
  ·simp only [part, Sem.run_bind, TE hd, sO, Result.andThen_ok, if_true, Qk hi, Sem.run_pure]
  ·congr 1
   apply Array.toList_inj.1
   simp [cut, Array.toList_extract, List.extract_eq_take_drop]
 | false =>
  rcases vC with vC | vC
  ·rw [sO] at vC; cases vC
  ·rw [vC] at hl ⊢
   have wO : off < cs.size := by omega
   refine ⟨cs[off], ?_, (fun hh => by cases hh), fun _ => ?_⟩
   ·simp [part, TE hd, sO, Array.getElem?_eq_getElem wO]
   ·have : cut cs.toList off 1 = [cs.toList[off]'(by simpa using wO)] := by
     simp only [cut]
     rw [List.drop_eq_getElem_cons (by simpa using wO)]
     simp
    rw [this]
    simp
theorem GA {T : TypeId} (ht : zz P T = true) {xs : List At} {x : Value} {off : Nat} (hx : Xs (Tof T0 X) h σ.ob w (.agg xs) x) (hl : off + P.cellsOf T <= xs.length) :
  ∃ cs : Array Value, x = .agg cs /\ ∃ val, (part T cs off).run P w = .ok val w /\ Xs (Tof T0 X) h σ.ob w (ldV P T (cut xs off (P.cellsOf T))) val := by
 obtain ⟨cs, rfl, wG⟩ := hx
 obtain ⟨val, hr, h1, h2⟩ := Ew (P := P) (w := w) ht (cs := cs) (off := off) (by have := wG.length; simp at this; omega)
 exact ⟨cs, rfl, val, hr, FI ht (wG.cut _ _) h1 h2⟩
theorem Hj (r : Rel T0 B σ a w X h) {o : Oper} {T : TypeId} {x ix : Operand} {v : V} (wA : o.op = .index T x ix) (hs : YH P σ o.op o.type v) :
  ∃ val, (execOp a.eval o).run P w = .ok (.value val) w /\ Xs (Tof T0 X) h σ.ob w v val := by
 simp only [wA, YH] at hs
 obtain ⟨k, i, iH, h0, hg, hs⟩ := hs
 have hx := r.arg (P := P) 0 x rfl hg
 have pO := zH r iH
 split at hs
 ·rename_i s heq
  rw [heq] at hx
  obtain ⟨ht, wO, rfl⟩ := hs
  have he := Up hx
  have mR : i.toNat < s.size := by omega
  refine ⟨.int .u8 (s.data.toList.getD i.toNat 0).toNat, ?_, .int _ _⟩
  have vK : s[i.toNat]? = some (s.data.toList.getD i.toNat 0) := by
   rw [List.getD_eq_getElem?_getD]
   have h1 : s.data.toList[i.toNat]? = some (s.data[i.toNat]'mR) := by
    rw [List.getElem?_eq_getElem (by simpa using mR)]; simp
   rw [h1, getElem?_pos s i.toNat mR]
   rfl
  simp [execOp, wA, he, pO, Instr.index, asIntOf, run_underlying (yN ht), h0, vK]
 ·rename_i xs heq
  rw [heq] at hx
  obtain ⟨⟨n, hn, wO⟩, ht, hl, rfl⟩ := hs
  obtain ⟨ti, hu, hi, vV⟩ := Nw hn
  obtain ⟨cs, he, val, hr, hv⟩ := GA ht hx hl
  refine ⟨val, ?_, hv⟩
  simp [execOp, wA, he, pO, Instr.index, asIntOf, run_underlying hu, h0, wO, Qk hi, hr]
 ·exact hs.elim
theorem HV (r : Rel T0 B σ a w X h) {o : Oper} {T : TypeId} {x : Operand} {f : Nat} {v : V} (wA : o.op = .field T x f) (hs : YH P σ o.op o.type v) :
  ∃ val, (execOp a.eval o).run P w = .ok (.value val) w /\ Xs (Tof T0 X) h σ.ob w v val := by
 simp only [wA, YH] at hs
 obtain ⟨hg, hf, ht, hs⟩ := hs
 have hx := r.arg (P := P) 0 x rfl hg
 split at hs
 ·rename_i xs heq
  rw [heq] at hx
  obtain ⟨hl, rfl⟩ := hs
  obtain ⟨fs, fd, i, hu, rJ, rf, ue, hi, wE⟩ := TT hf
  obtain ⟨cs, he, val, hr, hv⟩ := GA ht hx hl
  refine ⟨val, ?_, hv⟩
  rw [<- rf, <- ue] at hr
  simp [execOp, wA, he, Instr.field, run_underlying hu, rJ, asAgg, hr]
 ·exact hs.elim
theorem Lx (r : Rel T0 B σ a w X h) {vi n y : Nat} {x : Option Operand} {code : BoundsCode} (hb : bnd P σ vi x n) (hy : n <= y) (wE : x ≠ none) :
  (Instr.sliceBound ((x.map a.eval).getD undef) y code).run P w = .ok n w := by
 cases x with
 | none => exact absurd rfl wE
 | some x =>
  obtain ⟨k, i, hg, hx, h0, rfl⟩ := hb
  have he := VS (r.arg (P := P) 0 x hx hg)
  have : i <= (y : Int) := by omega
  simp [he, Instr.sliceBound, asIntOf, h0, this]
theorem Tm (r : Rel T0 B σ a w X h) {sl : Bool} {len cap l hh : Nat} {lo hi : Option Operand} (u7 : bnd P σ 0 lo l) (sV : bnd P σ len hi hh) (h1 : l <= hh) (h2 : hh <= cap) :
  (Instr.sliceBounds sl len cap (lo.map a.eval) (hi.map a.eval) none).run P w = .ok (l, hh, cap) w := by
 unfold Instr.sliceBounds
 cases hi with
 | none =>
  cases sV
  cases lo with
  | none => cases u7; simp
  | some x =>
   have := Lx (w := w) r (code := .sliceB) u7 h1 (by simp)
   simp at this
   simp [this]
 | some y =>
  have hb := Lx (w := w) r (code := if sl then .sliceAcap else .sliceAlen) sV h2 (by simp)
  simp at hb
  cases lo with
  | none => cases u7; simp [hb]
  | some x =>
   have := Lx (w := w) r (code := .sliceB) u7 h1 (by simp)
   simp at this
   simp [this, hb]
theorem yg {α : Type} (rows : List (List α)) (size l n : Nat) (hz : ∀ r ∈ rows, r.length = size) (k : Nat) (d : α) (hd : (cut rows l n).flatten[k]? = some d) : rows.flatten[l * size + k]? = some d := by
 induction rows generalizing l with
 | nil => simp [cut] at hd
 | cons r rows ih =>
  have hr : r.length = size := hz r (by simp)
  cases l with
  | zero =>
   simp only [cut, List.drop_zero, Nat.zero_mul, Nat.zero_add] at hd ⊢
   have oe : (r :: rows).flatten = ((r :: rows).take n).flatten ++ ((r :: rows).drop n).flatten := by rw [<- List.flatten_append, List.take_append_drop]
   rw [oe, List.getElem?_append_left (List.getElem?_eq_some_iff.1 hd).1]; exact hd
  | succ l =>
   have := ih l (fun r hr => hz r (by simp [hr])) (by simpa [cut] using hd)
   rw [List.flatten_cons, List.getElem?_append_right (by rw [hr, Nat.add_mul]; omega), hr]
   rw [show (l + 1) * size + k - size = l * size + k by rw [Nat.add_mul]; omega]; exact this
theorem Rd.cut {T : CS} {v : Value} {size : Nat} {rows : List (List D)} {base : Option Addr} {len cap : Nat} (hv : v = .slice base len cap) (r : Rd T w v (.sl size rows)) (l hh : Nat) (h1 : l <= hh) (h2 : hh <= rows.length) (fQ : 0 < size \/ True) :
  Rd T w (.slice (if cap = l then base else base.map (·.add (l * size))) (hh - l) (cap - l)) (.sl size (Vm.cut rows l (hh - l))) := by
 subst hv
 cases r with
 | nil =>
  simp at h2; subst h2
  have : l = 0 := by omega
  subst this
  simp [Vm.cut]; exact .nil _
 | sl a len cap size rows g hl hc hm hz hs hg hr =>
  have hlen : (Vm.cut rows l (hh - l)).length = hh - l := Xl _ _ _ (by omega)
  have ur : ∀ r ∈ Vm.cut rows l (hh - l), r.length = size := fun r hr => hz r (List.mem_of_mem_drop (List.mem_of_mem_take hr))
  by_cases wq : cap = l
  ·have h0 : hh - l = 0 := by omega
   have tD : Vm.cut rows l (hh - l) = [] := List.eq_nil_of_length_eq_zero (by omega)
   rw [if_pos wq, tD, h0]
   exact .sl a 0 (cap - l) size [] g rfl (Nat.zero_le _) (by omega) (by intro r hr; cases hr) (by simp) (by simp) (by simp)
  ·rw [if_neg wq]
   refine .sl (a.add (l * size)) (hh - l) (cap - l) size _ (fun k => g (l * size + k)) hlen (by omega) (by omega) ur (fun wE => ?_) (fun k d hd => ?_) (fun k d hd => hr _ _ (yg rows size l _ hz k d hd))
   ·have : rows.flatten ≠ [] := by
     intro he
     apply wE
     cases wv : (Vm.cut rows l (hh - l)).flatten with
     | nil => rfl
     | cons d ds =>
      have := yg rows size l (hh - l) hz 0 d (by rw [wv]; rfl)
      rw [he] at this; simp at this
    have sv := hs this
    unfold Addr.add; split <;> simp [sv]
   ·have sv : a.spot = none := hs (by
     intro he
     have := yg rows size l (hh - l) hz k d hd
     rw [he] at this; simp at this)
    have := hg _ _ (yg rows size l (hh - l) hz k d hd)
    obtain ⟨b, off, sp⟩ := a
    simp at sv; subst sv
    rw [xC]
    simp only [Nat.add_assoc] at this ⊢
    exact this
theorem HA (r : Rel T0 B σ a w X h) {o : Oper} {T : TypeId} {x : Operand} {lo hi : Option Operand} {v : V} (wA : o.op = .slice T x lo hi none) (hs : YH P σ o.op o.type v) :
  ∃ val, (execOp a.eval o).run P w = .ok (.value val) w /\ Xs (Tof T0 X) h σ.ob w v val := by
 simp only [wA, YH] at hs
 obtain ⟨hg, hs⟩ := hs
 have hx := r.arg (P := P) 0 x rfl hg
 split at hs
 ·rename_i s heq
  rw [heq] at hx
  obtain ⟨ht, l, hh, u7, sV, h1, h2, rfl⟩ := hs
  have he := Up hx
  have hb := Tm (w := w) r (sl := false) u7 sV h1 h2
  refine ⟨.string (s.extract l hh), ?_, .str _⟩
  simp [execOp, wA, he, Instr.sliceAt, Instr.slice, run_underlying (yN ht), hb]
 ·rename_i size rows heq
  rw [heq] at hx
  obtain ⟨ht, rfl, l, hh, u7, sV, h1, h2, rfl⟩ := hs
  obtain ⟨ti, hu, vq, vV⟩ := XV ht
  obtain ⟨base, cap, he, vn, uO⟩ := Gf (show Rd _ _ _ _ from hx)
  have hb := Tm (w := w) r (sl := true) (cap := cap) u7 sV h1 (by omega)
  refine ⟨_, ?_, Rd.cut he hx l hh h1 h2 (.inr trivial)⟩
  simp [execOp, wA, he, Instr.sliceAt, Instr.slice, run_underlying hu, hb, Qk vq]
 ·rename_i t j ef len heq
  rw [heq] at hx
  obtain ⟨ht, ⟨q, rows, ho⟩, l, hh, u7, sV, h1, h2, rfl⟩ := hs
  obtain ⟨ti, hu, vq, vV⟩ := XV ht
  obtain ⟨hle, uK, uE, base, cap, he, vn, uO, pH, lg⟩ := hx.2.1 _ _ rows ho
  have hb := Tm (w := w) r (sl := true) (cap := cap) u7 sV h1 (by omega)
  refine ⟨.slice (if cap = l then base else base.map (·.add (l * P.cellsOf (ZP P T)))) (hh - l) (cap - l), ?_, rfl, fun q' wX wS wY => ?_, fun wX wS wY => by rw [ho] at wY; cases wY⟩
  ·simp [execOp, wA, he, Instr.sliceAt, Instr.slice, run_underlying hu, hb, Qk vq]
  ·rw [ho] at wY
   cases wY
   refine ⟨by omega, fun m0 mD => ?_, fun mD => ?_, _, cap - l, rfl, by omega, by omega, fun hn => ?_, fun vY => ?_⟩
   ·have hl : l = 0 := by omega
    subst hl
    have : len = rows.length := by omega
    have hv := uK this (by omega)
    rw [<- hv, he]
    simp only [Nat.sub_zero, Nat.zero_mul]
    have h3 : hh = len := by omega
    rw [h3]
    congr 1
    split
    ·rfl
    ·cases base <;> simp [Addr.add]
   ·have hl : l = 0 := by omega
    subst hl
    have hv := uE (by omega)
    rw [he] at hv
    have n7 : (if cap = 0 then base else base.map (·.add (0 * P.cellsOf (ZP P T)))) = base := by
     split
     ·rfl
     ·cases base <;> simp [Addr.add]
    rw [n7]
    unfold PY at hv ⊢
    revert hv
    cases (h t j).v with
    | slice b n c => intro hv; cases hv; simp
    | _ => intro hv; cases hv
   ·have mS : base = none := by
     by_cases wq : cap = l
     ·rw [if_pos wq] at hn; exact hn
     ·rw [if_neg wq] at hn; simpa using hn
    have := pH mS; omega
   ·obtain ⟨b, sD, rm, pA⟩ := lg (by omega)
    refine ⟨b, sD, rm, ?_⟩
    rw [if_neg (by omega), pA]
    simp [xC, Nat.add_mul]
 ·exact hs.elim
end
end Go.Vm
namespace Go.Vm
section
variable {P : Program} {T0 : CS} {B : Nat -> Prop} {σ : St} {a : Act} {w : World} {X : Nat -> Prop} {h : Nat -> Nat -> Hd}
theorem G0 {α : Type} (l : List α) (k : Nat) (v : α) (vs : List α) (hk : k + (vs.length + 1) <= l.length) : place (l.set k v) (k + 1) vs = place l k (v :: vs) := by
 unfold place
 have h1 : (l.set k v).take (k + 1) = l.take k ++ [v] := by
  rw [List.take_set, List.take_succ_eq_append_getElem (by omega)]
  rw [List.set_append_right _ _ (by simp; omega)]
  simp [Nat.min_eq_left (show k <= l.length by omega)]
 have h2 : (l.set k v).drop (k + 1 + vs.length) = l.drop (k + (vs.length + 1)) := by
  rw [List.drop_set_of_lt (by omega)]; congr 1; omega
 rw [h1, h2]; simp
theorem PN (off : Nat) : ∀ (vs : List Value) (j : Nat) (cs : Array Value), off + j + vs.length <= cs.size ->
  ((vs.zipIdx j).foldl (fun cs x => cs.setIfInBounds (off + x.2) x.1) cs).toList = place cs.toList (off + j) vs
 | [], j, cs, _ => by simp [place]
 | v :: vs, j, cs, hl => by
  rw [List.zipIdx_cons, List.foldl_cons, PN off vs (j + 1) _ (by simp at hl ⊢; omega)]
  rw [Array.toList_setIfInBounds, show off + (j + 1) = off + j + 1 by omega, G0 _ _ _ _ (by simp at hl ⊢; omega)]
theorem Vk (off : Nat) (vs cs : Array Value) (hl : off + vs.size <= cs.size) :
  (vs.zipIdx.foldl (fun cs x => cs.setIfInBounds (off + x.2) x.1) cs).toList = place cs.toList off vs.toList := by
 rw [<- Array.foldl_toList, Array.toList_zipIdx, PN off vs.toList 0 cs (by simpa using hl)]
 rfl
theorem XF {α : Type} (r : List α) (off : Nat) (xs : List α) (hl : off + xs.length <= r.length) : (place r off xs).length = r.length := by
 simp [place]; omega
theorem Z2.place {α β : Type} {R : α -> β -> Prop} {l : List α} {m : List β} (x : Z2 R l m) (off : Nat) {l' : List α} {m' : List β} (y : Z2 R l' m') : Z2 R (Vm.place l off l') (Vm.place m off m') := by
 unfold Vm.place
 rw [y.length]
 exact ((x.take _).append y).append (x.drop _)
theorem qH {T' : CS} {ob : Nat -> Nat -> Ob} {x : V} {v : Value} (hf : x.flat = true) (hv : Xs T' h ob w x v) : Z2 (Z7 T' h ob w) x.cells v.cells.toList := by
 cases x with
 | one c =>
  have h1 := Z7.Xa (show Z7 _ _ _ _ _ _ from hv)
  have : v.cells = #[v] := by cases v <;> first | rfl | (simp [Value.oneCell'] at h1)
  rw [this]
  exact .cons hv .nil
 | agg xs => obtain ⟨cs, rfl, wG⟩ := hv; exact wG
 | any => cases hf
 | tup xs => cases hf
 | cnd g x => cases hf
 | fix u x => cases hf
theorem O9 (r : Rel T0 B σ a w X h) (T : TypeId) (pl : Nat -> Option (Nat × Nat)) (sU : ∀ i, bOk P T i = true -> pl i = some (V5 P T i, P.cellsOf (bTy P T i))) :
  ∀ (ps : List (Nat × Operand)) (row out : List At) (cells : Array Value), Z2 (Z7 (Tof T0 X) h σ.ob w) row cells.toList -> WC P σ T ps row out ->
   ∃ wK, Instr.fill pl cells (ps.map fun x => (x.1, a.eval x.2)) = some wK /\ Z2 (Z7 (Tof T0 X) h σ.ob w) out wK.toList
 | [], row, out, cells, wG, hb => by cases hb; exact ⟨cells, rfl, wG⟩
 | (i, x) :: ps, row, out, cells, wG, hb => by
  obtain ⟨we, hg, hf, hlen, hle, hb⟩ := hb
  have hx := qH hf (r.arg (P := P) (bTy P T i) x rfl hg)
  have pb := hx.length
  have mD := wG.length
  have e1 : cells.toList.length = cells.size := Array.length_toList
  have e2 : (a.eval x).cells.toList.length = (a.eval x).cells.size := Array.length_toList
  have tr := wG.place (V5 P T i) hx
  have heq := Vk (V5 P T i) (a.eval x).cells cells (by omega)
  rw [<- heq] at tr
  obtain ⟨wK, h1, h2⟩ := O9 r T pl sU ps _ out _ tr hb
  refine ⟨wK, ?_, h2⟩
  have vV : (a.eval x).cells.size = P.cellsOf (bTy P T i) := by omega
  simp only [List.map_cons, Instr.fill, sU i we]
  rw [if_neg (by simp [vV]; omega)]
  exact h1
theorem run_places (fs : List Field) (rU : ∀ f ∈ fs, (P.info? f.type).isSome = true) (w : World) :
  (fs.mapM (m := Sem) fun f => do pure (f.offset, <- sizeOf f.type)).run P w = .ok (fs.map fun f => (f.offset, P.cellsOf f.type)) w := by
 induction fs with
 | nil => simp
 | cons f fs ih =>
  obtain ⟨i, hi⟩ := Option.isSome_iff_exists.1 (rU f (by simp))
  simp only [List.mapM_cons, Sem.run_bind, Qk hi, Result.andThen_ok, Sem.run_pure, ih (fun f hf => rU f (by simp [hf])), List.map_cons]
theorem HG (r : Rel T0 B σ a w X h) {o : Oper} {T : TypeId} {parts : Array (Nat × Operand)} {v : V} (wA : o.op = .build T parts) (hs : YH P σ o.op o.type v) :
  ∃ val, (execOp a.eval o).run P w = .ok (.value val) w /\ Xs (Tof T0 X) h σ.ob w v val := by
 simp only [wA, YH] at hs
 obtain ⟨hz, sO, z, out, ud, hb, rfl⟩ := hs
 obtain ⟨i, zv, hi, iI, vV, ug⟩ := MA hz ud
 have uY : (zeroValue T).run P w = .ok zv w := by simp [zeroValue, typeInfo, hi, iI]
 have u5 : (parts.map fun (x : Nat × Operand) => (x.1, a.eval x.2)).toList = parts.toList.map fun x => (x.1, a.eval x.2) := by simp
 unfold Wm at sO
 split at sO
 ·rename_i fs hu
  by_cases vD : ∀ f ∈ fs.toList, (P.info? f.type).isSome = true
  ·have sU : ∀ i, bOk P T i = true -> (fs.toList.map fun f => (f.offset, P.cellsOf f.type)).toArray[i]? = some (V5 P T i, P.cellsOf (bTy P T i)) := by
    intro i we
    simp only [bOk, hu, Bool.and_eq_true, decide_eq_true_eq] at we
    have wO := we.2
    simp [V5, bTy, hu, Xk, zq, wO]
   obtain ⟨wK, h1, h2⟩ := O9 r T _ sU parts.toList z out zv.cells (ug _ _ _ _) hb
   refine ⟨.agg wK, ?_, wK, rfl, h2⟩
   have hm := run_places (P := P) fs.toList vD w
   have : (fs.mapM (m := Sem) fun f => do pure (f.offset, <- sizeOf f.type)).run P w = .ok (fs.toList.map fun f => (f.offset, P.cellsOf f.type)).toArray w := by
    rw [Array.mapM_eq_mapM_toList]
    change ((fs.toList.mapM (m := Sem) fun f => do pure (f.offset, <- sizeOf f.type)) >>= fun l => pure l.toArray).run P w = _
    simp only [Sem.run_bind, hm, Result.andThen_ok, Sem.run_pure]
   simp only [execOp, wA, Instr.build, Sem.run_bind, uY, Result.andThen_ok, run_underlying hu, this, u5, h1, Sem.run_pure]
  · -- no part can be placed: then there are none
   have tD : parts.toList = [] := by
    cases hp : parts.toList with
    | nil => rfl
    | cons p ps =>
     obtain ⟨i, x⟩ := p
     rw [hp] at hb
     have we := hb.1
     simp only [bOk, hu, Bool.and_eq_true] at we
     exact absurd (by intro f hf; exact Array.all_eq_true'.1 we.1 f (by simpa using hf)) vD
   exfalso
   rw [show (12 : Nat) = 11 + 1 from rfl, qF, hu] at ud
   simp only [Option.map_eq_some_iff] at ud
   obtain ⟨rs, uf, _⟩ := ud
   apply vD
   intro f hf
   have : ∀ (l : List Field) (rs : List (List At)), l.mapM (fun f => qF P 11 f.type) = some rs -> ∀ f ∈ l, (P.info? f.type).isSome = true := by
    intro l
    induction l with
    | nil => intro rs _ f hf; cases hf
    | cons g l ih =>
     intro rs uf f hf
     simp only [List.mapM_cons, Option.bind_eq_bind, Option.bind_eq_some_iff] at uf
     obtain ⟨r0, tG, nB, oU, _⟩ := uf
     rcases List.mem_cons.1 hf with rfl | hf
     ·rw [show (11 : Nat) = 10 + 1 from rfl, qF] at tG
      cases hi0 : P.info? f.type with
      | some i => rfl
      | none => simp [Program.underlying, hi0] at tG
     ·exact ih nB oU f hf
   exact this fs.toList rs uf f hf
 ·rename_i n e hu
  cases pO : P.info? e with
  | none =>
   exfalso
   rw [show (12 : Nat) = 11 + 1 from rfl, qF, hu] at ud
   simp only [Option.map_eq_some_iff] at ud
   obtain ⟨r0, tG, _⟩ := ud
   rw [show (11 : Nat) = 10 + 1 from rfl, qF] at tG
   simp [Program.underlying, pO] at tG
  | some ie =>
   have sU : ∀ i, bOk P T i = true -> (fun i => some (i * P.cellsOf e, P.cellsOf e)) i = some (V5 P T i, P.cellsOf (bTy P T i)) := by
    intro i _
    simp [V5, bTy, hu]
   obtain ⟨wK, h1, h2⟩ := O9 r T _ sU parts.toList z out zv.cells (ug _ _ _ _) hb
   refine ⟨.agg wK, ?_, wK, rfl, h2⟩
   simp only [execOp, wA, Instr.build, Sem.run_bind, uY, Result.andThen_ok, run_underlying hu, Qk pO, u5, h1, Sem.run_pure]
 ·cases sO
theorem SJ {t : TypeId} (ht : Il P t = true) {cs : Array Value} {i : Nat} {v : Value} (hv : cs[i]? = some v) : (part t cs i).run P w = .ok v w := by
 unfold Il at ht
 split at ht <;> first | (rename_i hu; simp [part, isAgg, run_underlying hu, hv]) | cases ht
theorem Ep {t : TypeId} {T' : CS} {ob : Nat -> Nat -> Ob} {x y : At} {u v : Value} {p : Bool} (hp : EJ P t x y = some p) (hx : Z7 T' h ob w x u) (hy : Z7 T' h ob w y v) (d : Nat) (w' : World) :
  (Op.equalIn (d + 1) t u v).run P w' = .ok p w' := by
 unfold EJ at hp
 split at hp
 ·rename_i k a' k' b'
  split at hp
  ·rename_i hc
   obtain ⟨rfl, hi⟩ := hc
   obtain ⟨k2, p8⟩ := Option.isSome_iff_exists.1 hi
   cases hp
   rw [VS hx, VS hy]
   exact Go.run_equalIn_int w' d t _ _ _ _ (N2 p8)
  ·cases hp
 ·split at hp
  ·rename_i hc
   cases hp
   rw [xL hx, xL hy]
   have hu : P.underlying t = some .bool := by
    unfold PO at hc; split at hc <;> first | assumption | cases hc
   exact Go.run_equalIn_bool' w' d t _ _ hu
  ·cases hp
 ·split at hp
  ·rename_i hc
   cases hp
   rw [Up hx, Up hy]
   rw [Go.run_equalIn_string w' d t _ _ (yN hc), G4]
  ·cases hp
 ·cases hp
theorem LN {T' : CS} {ob : Nat -> Nat -> Ob} (d : Nat) (cs ds : Array Value) (w' : World) : ∀ (fs : List Field) (i : Nat) (xs ys : List At) (q : Bool), Vn P fs i = true -> yy P fs xs ys = some q ->
  Z2 (Z7 T' h ob w) xs (cs.toList.drop i) -> Z2 (Z7 T' h ob w) ys (ds.toList.drop i) -> (Op.eqFields (d + 1) cs ds fs).run P w' = .ok q w'
 | [], i, xs, ys, q, _, hq, _, _ => by simp [yy] at hq; subst hq; simp [Op.eqFields]
 | f :: fs, i, [], ys, q, _, hq, _, _ => by simp [yy] at hq
 | f :: fs, i, x :: xs, [], q, _, hq, _, _ => by simp [yy] at hq
 | f :: fs, i, x :: xs, y :: ys, q, we, hq, hx, hy => by
  simp only [Vn, Bool.and_eq_true, decide_eq_true_eq, beq_iff_eq] at we
  obtain ⟨⟨⟨hn, ho⟩, vf⟩, we⟩ := we
  simp only [yy] at hq
  split at hq
  ·rename_i p q' hp tA
   cases hq
   cases hcd : cs.toList.drop i with
   | nil => rw [hcd] at hx; cases hx
   | cons u us =>
    cases uC : ds.toList.drop i with
    | nil => rw [uC] at hy; cases hy
    | cons v vs =>
     rw [hcd] at hx; rw [uC] at hy
     cases hx with
     | cons fY hx =>
      cases hy with
      | cons fZ hy =>
       have hu : cs[i]? = some u := by
        have : (cs.toList.drop i)[0]? = some u := by rw [hcd]; rfl
        simpa using this
       have hv : ds[i]? = some v := by
        have : (ds.toList.drop i)[0]? = some v := by rw [uC]; rfl
        simpa using this
       have fV : cs.toList.drop (i + 1) = us := by rw [<- List.drop_drop, hcd]; rfl
       have pf : ds.toList.drop (i + 1) = vs := by rw [<- List.drop_drop, uC]; rfl
       have ih := LN d cs ds w' fs (i + 1) xs ys q' we tA (by rw [fV]; exact hx) (by rw [pf]; exact hy)
       subst ho
       simp only [Op.eqFields, if_pos hn, Sem.run_bind, SJ vf hu, SJ vf hv, Result.andThen_ok, Ep hp fY fZ d w']
       cases p
       ·simp
       ·simpa using ih
  ·cases hq
theorem FU {T : TypeId} {T' : CS} {ob : Nat -> Nat -> Ob} {xs ys : List At} {u v : Value} {q : Bool} (we : Ti P T = true) (hq : yy P (P.fieldsOf T).toList xs ys = some q)
  (hx : Xs T' h ob w (.agg xs) u) (hy : Xs T' h ob w (.agg ys) v) (op : BinOp) (x y : Operand) (w' : World) :
  (eqGuard op T x y u v).run P w' = .ok () w' /\ (binOp .eql T u v).run P w' = .ok (.bool q) w' /\ (binOp .neq T u v).run P w' = .ok (.bool (!q)) w' := by
 obtain ⟨cs, rfl, uI⟩ := hx
 obtain ⟨ds, rfl, sw⟩ := hy
 unfold Ti at we
 split at we
 ·rename_i fs hu
  simp only [Bool.and_eq_true, Bool.not_eq_true'] at we
  have hf : P.fieldsOf T = fs := by simp [Program.fieldsOf, hu]
  have uD : P.underlying T = some (.struct (P.fieldsOf T)) := by rw [hf]; exact hu
  have wW : (Op.equalIn 10000 T (.agg cs) (.agg ds)).run P w' = .ok q w' := by
   rw [show (10000 : Nat) = 9999 + 1 from rfl, Go.run_equalIn_struct w' 9999 T cs ds uD we.1.1, show (9999 : Nat) = 9998 + 1 from rfl]
   exact LN 9998 cs ds w' _ 0 xs ys q (by rw [hf]; exact we.2) hq (by simpa using uI) (by simpa using sw)
  refine ⟨Go.run_eqGuard_agg w' op T x y cs ds we.1.2, ?_, ?_⟩
  ·rw [Go.run_eql_struct, wW]; rfl
  ·rw [Go.run_neq_struct, wW]; rfl
 ·cases we
end
end Go.Vm
namespace Go.Vm
section
variable {P : Program} {T0 : CS} {B : Nat -> Prop} {σ : St} {a : Act} {w : World} {X : Nat -> Prop} {h : Nat -> Nat -> Hd}
theorem Nb (r : Rel T0 B σ a w X h) {o : Oper} {x : Operand} {v : V} (wA : o.op = .move x \/ o.op = .assign x) (hs : YH P σ o.op o.type v) :
  ∃ val, (execOp a.eval o).run P w = .ok (.value val) w /\ Xs (Tof T0 X) h σ.ob w v val := by
 rcases wA with wA | wA <;>
 ·simp only [wA, YH] at hs
  subst hs
  exact ⟨a.eval x, by simp [execOp, wA], r.look _ x⟩
theorem Gu (r : Rel T0 B σ a w X h) {o : Oper} {c x y : Operand} {v : V} (wA : o.op = .pick c x y) (hs : YH P σ o.op o.type v) :
  ∃ val, (execOp a.eval o).run P w = .ok (.value val) w /\ Xs (Tof T0 X) h σ.ob w v val := by
 simp only [wA, YH] at hs
 obtain ⟨bc, p, q, hg, hc, hp, hq, lA, fS, rfl⟩ := hs
 have he := xL (r.arg (P := P) o.type c hc hg)
 cases bc with
 | true =>
  have hx := xL (r.arg (P := P) o.type x (hp rfl) (lA rfl))
  exact ⟨.bool p, by simp [execOp, wA, he, asBool, hx], .bool _⟩
 | false =>
  have hy := xL (r.arg (P := P) o.type y (hq rfl) (fS rfl))
  exact ⟨.bool q, by simp [execOp, wA, he, asBool, hy], .bool _⟩
theorem xM (op : BinOp) (T : TypeId) (x y : Operand) {v u : Value} (hv : ∀ cs, v ≠ .agg cs) (hn : v ≠ .nilIface) : (eqGuard op T x y v u).run P w = .ok () w := by
 unfold eqGuard
 cases op <;> simp <;> (split <;> first | exact absurd rfl hn | exact absurd rfl (hv _) | simp)
theorem Fi (r : Rel T0 B σ a w X h) {o : Oper} {op : BinOp} {T T' : TypeId} {x y : Operand} {v : V} (wA : o.op = .binOp op T x y T') (hs : YH P σ o.op o.type v) :
  ∃ val, (execOp a.eval o).run P w = .ok (.value val) w /\ Xs (Tof T0 X) h σ.ob w v val := by
 simp only [wA, YH] at hs
 obtain ⟨sM, sN, hs⟩ := hs
 have hx := r.arg (P := P) T x rfl sM
 have hy := r.arg (P := P) T y rfl sN
 unfold I7 at hs
 split at hs
 ·rename_i k m k' n heq tB
  rw [heq] at hx; rw [tB] at hy
  have ex := VS hx
  have ey := VS hy
  obtain ⟨d, rfl, val, hr, hd⟩ := Gn (P := P) (t := T) hs.1 hs.2 w
  refine ⟨val, ?_, hd _ _⟩
  simp only [execOp, wA, ex, ey, Sem.run_bind, xM op T x y (v := .int k m) (u := .int k' n) (by simp) (by simp), Result.andThen_ok, hr, Sem.run_pure]
 ·rename_i m n heq tB
  rw [heq] at hx; rw [tB] at hy
  have ex := Up hx
  have ey := Up hy
  obtain ⟨d, rfl, val, hr, hd⟩ := GU (P := P) (t := T) hs w
  refine ⟨val, ?_, hd _ _⟩
  simp only [execOp, wA, ex, ey, Sem.run_bind, xM op T x y (v := .string m) (u := .string n) (by simp) (by simp), Result.andThen_ok, hr, Sem.run_pure]
 ·rename_i m n heq tB
  rw [heq] at hx; rw [tB] at hy
  have ex := xL hx
  have ey := xL hy
  obtain ⟨d, rfl, val, hr, hd⟩ := Hw (P := P) (t := T) hs.1 hs.2 w
  refine ⟨val, ?_, hd _ _⟩
  simp only [execOp, wA, ex, ey, Sem.run_bind, xM op T x y (v := .bool m) (u := .bool n) (by simp) (by simp), Result.andThen_ok, hr, Sem.run_pure]
 ·rename_i xs ys heq tB
  rw [heq] at hx; rw [tB] at hy
  obtain ⟨we, q, hq, hs⟩ := hs
  obtain ⟨h1, h2, h3⟩ := FU (P := P) we hq hx hy op x y w
  rcases hs with ⟨rfl, rfl⟩ | ⟨rfl, rfl⟩
  ·exact ⟨.bool q, by simp only [execOp, wA, Sem.run_bind, h1, Result.andThen_ok, h2, Sem.run_pure], .bool _⟩
  ·exact ⟨.bool (!q), by simp only [execOp, wA, Sem.run_bind, h1, Result.andThen_ok, h3, Sem.run_pure], .bool _⟩
 ·exact hs.elim
theorem EV (r : Rel T0 B σ a w X h) {o : Oper} {op : UnOp} {T : TypeId} {x : Operand} {v : V} (wA : o.op = .unOp op T x) (hs : YH P σ o.op o.type v) :
  ∃ val, (execOp a.eval o).run P w = .ok (.value val) w /\ Xs (Tof T0 X) h σ.ob w v val := by
 simp only [wA, YH] at hs
 obtain ⟨hg, hs⟩ := hs
 have hx := r.arg (P := P) 0 x rfl hg
 split at hs
 ·rename_i b heq
  rw [heq] at hx
  subst hs
  have he := xL hx
  exact ⟨.bool (!b), by simp [execOp, wA, he, Op.unary], .bool _⟩
 ·rename_i k n heq
  rw [heq] at hx
  subst hs
  have he := VS hx
  exact ⟨.int k (k.wrap (-n)), by simp [execOp, wA, he, Op.unary, Op.intArith], .int _ _⟩
 ·exact hs.elim
theorem MM (r : Rel T0 B σ a w X h) {o : Oper} {S T : TypeId} {x : Operand} {v : V} (wA : o.op = .convert S T x) (hS : (P.underlying S).isSome = true) (hs : YH P σ o.op o.type v) :
  ∃ val, (execOp a.eval o).run P w = .ok (.value val) w /\ Xs (Tof T0 X) h σ.ob w v val := by
 simp only [wA, YH] at hs
 obtain ⟨hg, _, hs⟩ := hs
 have hx := r.arg (P := P) 0 x rfl hg
 split at hs
 ·rename_i k' n heq
  rw [heq] at hx
  obtain ⟨k, hk, rfl⟩ := hs
  have he := VS hx
  obtain ⟨d, hd⟩ := Option.isSome_iff_exists.1 hS
  exact ⟨.int k (k.wrap n), by simp [execOp, wA, he, convert, run_underlying hd, run_underlying (N2 hk), Conv.intToInt], .int _ _⟩
 ·exact hs.elim
theorem MZ (r : Rel T0 B σ a w X h) {o : Oper} {x : Operand} {i : Nat} {v : V} (wA : o.op = .extract x i) (hs : YH P σ o.op o.type v) :
  ∃ val, (execOp a.eval o).run P w = .ok (.value val) w /\ Xs (Tof T0 X) h σ.ob w v val := by
 simp only [wA, YH] at hs
 obtain ⟨hg, hs⟩ := hs
 have hx := r.arg (P := P) 0 x rfl hg
 split at hs
 ·rename_i xs heq
  rw [heq] at hx
  obtain ⟨vs, he, wG⟩ := hx
  obtain ⟨val, uv, hr⟩ := wG.get i v hs.1
  have : vs[i]? = some val := by simpa using uv
  exact ⟨val, by simp [execOp, wA, he, Instr.extract, this], hr.up⟩
 ·exact hs.elim
theorem Hh (r : Rel T0 B σ a w X h) {o : Oper} {c : Call} {v : V} (wA : o.op = .call c) (hs : YH P σ o.op o.type v) :
  ∃ val, (execOp a.eval o).run P w = .ok (.value val) w /\ Xs (Tof T0 X) h σ.ob w v val := by
 simp only [wA, YH] at hs
 obtain ⟨callee, args, argTypes⟩ := c
 simp only at hs
 split at hs
 ·rename_i x t ha ht
  obtain rfl : args = #[x] := by apply Array.toList_inj.1; simpa using ha
  obtain rfl : argTypes = #[t] := by apply Array.toList_inj.1; simpa using ht
  obtain ⟨hg, hs⟩ := hs
  have hx := r.arg (P := P) t x rfl hg
  split at hs
  ·rename_i s heq
   rw [heq] at hx
   obtain ⟨wb, rfl⟩ := hs
   have he := Up hx
   exact ⟨.int .i64 s.size, by simp [execOp, wA, resolve, invoke, builtin, he, Builtin.len_, run_underlying (yN wb), goInt], .int _ _⟩
  ·rename_i size rows heq
   rw [heq] at hx
   obtain ⟨wb, rfl⟩ := hs
   obtain ⟨ti, hu, _, _⟩ := XV wb
   obtain ⟨base, cap, he, _, _⟩ := Gf (show Rd _ _ _ _ from hx)
   exact ⟨.int .i64 rows.length, by simp [execOp, wA, resolve, invoke, builtin, he, Builtin.len_, run_underlying hu, goInt], .int _ _⟩
  ·rename_i size heq
   rw [heq] at hx
   obtain ⟨wb, rfl⟩ := hs
   obtain ⟨ti, hu, _, _⟩ := XV wb
   have he : a.eval x = .slice none 0 0 := hx
   exact ⟨.int .i64 0, by simp [execOp, wA, resolve, invoke, builtin, he, Builtin.len_, run_underlying hu, goInt], .int _ _⟩
  ·rename_i u j lo len heq
   rw [heq] at hx
   obtain ⟨wb, ho, rfl⟩ := hs
   obtain ⟨ti, hu, _, _⟩ := XV wb
   have rm : ∃ base cap, a.eval x = .slice base len cap := by
    rcases ho with ⟨q, size, rows, ho⟩ | ⟨size, rows, ho⟩
    ·obtain ⟨_, _, _, base, cap, he, _, _, _, _⟩ := hx.2.1 _ _ _ ho
     exact ⟨base, cap, he⟩
    ·obtain ⟨_, _, _, base, cap, he, _, _, _, _⟩ := hx.2.2 _ _ ho
     exact ⟨base, cap, he⟩
   obtain ⟨base, cap, he⟩ := rm
   exact ⟨.int .i64 len, by simp [execOp, wA, resolve, invoke, builtin, he, Builtin.len_, run_underlying hu, goInt], .int _ _⟩
  ·rename_i u j i c heq
   rw [heq] at hx
   obtain ⟨wb, size, rows, n, s, ho, hi, wM, rfl⟩ := hs
   obtain ⟨ti, hu, _, _⟩ := XV wb
   obtain ⟨v0, S, hn, wJ⟩ := r.nest ho hi wM
   have pq : a.eval x = _ := hx.2 _ _ ho
   rw [hn] at pq
   have he : ∃ base cap, a.eval x = .slice base s.length cap := by
    rw [pq]
    cases wJ with
    | sl v size rows S e xs Sk tY hz hb hl hk hs hd =>
     rcases tY.2 with ⟨rfl, h0⟩ | ⟨g, cap, cur, rfl, _⟩
     ·exact ⟨none, 0, by rw [h0]⟩
     ·exact ⟨_, cap, rfl⟩
   obtain ⟨base, cap, he⟩ := he
   exact ⟨.int .i64 s.length, by simp [execOp, wA, resolve, invoke, builtin, he, Builtin.len_, run_underlying hu, goInt], .int _ _⟩
  ·exact hs.elim
 ·rename_i x y ha
  obtain rfl : args = #[x, y] := by apply Array.toList_inj.1; simpa using ha
  obtain ⟨k, m, n, hx, hy, rfl⟩ := hs
  have ex := zH r hx
  have ey := zH r hy
  exact ⟨.int k (if n > m then n else m), by simp [execOp, wA, resolve, invoke, builtin, ex, ey, Builtin.max_, Builtin.max2], .int _ _⟩
 ·rename_i x y ha
  obtain rfl : args = #[x, y] := by apply Array.toList_inj.1; simpa using ha
  obtain ⟨k, m, n, hx, hy, rfl⟩ := hs
  have ex := zH r hx
  have ey := zH r hy
  exact ⟨.int k (if n < m then n else m), by simp [execOp, wA, resolve, invoke, builtin, ex, ey, Builtin.min_, Builtin.min2], .int _ _⟩
 ·exact hs.elim
theorem qO (r : Rel T0 B σ a w X h) {o : Oper} {v : V} (hs : YH P σ o.op o.type v) :
  ∃ val, (execOp a.eval o).run P w = .ok (.value val) w /\ Xs (Tof T0 X) h σ.ob w v val := by
 cases wA : o.op with
 | move x => exact Nb r (.inl wA) hs
 | assign x => exact Nb r (.inr wA) hs
 | pick c x y => exact Gu r wA hs
 | load T x => exact Gy r wA hs
 | fieldAddr T x f => exact OF r wA hs
 | nilCheck x => exact O8 r wA hs
 | indexAddr T x i => exact P1 r wA hs
 | index T x i => exact Hj r wA hs
 | field T x f => exact HV r wA hs
 | slice T x lo hi m =>
  cases m with
  | none => exact HA r wA hs
  | some m => rw [wA] at hs; exact hs.elim
 | binOp op T x y T' => exact Fi r wA hs
 | unOp op T x => exact EV r wA hs
 | convert S T x => rw [wA] at hs; exact MM r wA hs.2.1 (by rw [wA]; exact hs)
 | extract x i => exact MZ r wA hs
 | call c => exact Hh r wA hs
 | build T ps => exact HG r wA hs
 | _ => rw [wA] at hs; exact hs.elim
end
end Go.Vm
namespace Go.Vm
def At.ref (d : Nat) : At -> Bool
 | .sref t _ _ _ => t == d
 | .ptr t _ _ _ => t == d
 | .bptr t _ => t == d
 | .fn _ t => t == d
 | .tref t _ _ _ _ => t == d
 | _ => false
def YG (d : Nat) : List At -> Bool
 | [] => false
 | x :: xs => x.ref d || YG d xs
def V.RB (d : Nat) : V -> Bool
 | .one x => x.ref d
 | .agg xs => YG d xs
 | _ => false
def Ws (d : Nat) : List V -> Bool
 | [] => false
 | x :: xs => x.RB d || Ws d xs
def V.ref (d : Nat) : V -> Bool
 | .tup xs => Ws d xs
 | .cnd _ x => x.RB d || (match x with | .tup xs => Ws d xs | _ => false)
 | .one x => x.ref d
 | .agg xs => YG d xs
 | .fix _ x => x.RB d || (match x with | .tup xs => Ws d xs | _ => false)
 | .any => false
def Yf (d : Nat) : List Ob -> Bool
 | [] => false
 | .box cells :: os => YG d cells || Yf d os
 | .lit _ rows :: os => YG d rows.flatten || Yf d os
 | _ :: os => Yf d os
def J8 (d : Nat) : Nat -> St -> Bool
 | _, [] => true
 | k, e :: σ => (k == d || (!e.1.ref d && !Yf d e.2)) && J8 d (k + 1) σ
def St.fresh (σ : St) (d : Nat) : Bool := decide (d < σ.length) && J8 d 0 σ
theorem Ko {d : Nat} : ∀ {σ : St} {k : Nat}, J8 d k σ = true -> ∀ t e, σ[t]? = some e -> k + t ≠ d -> e.1.ref d = false /\ Yf d e.2 = false
 | [], _, _, t, e, he, _ => by simp at he
 | e0 :: σ, k, hf, t, e, he, wE => by
  simp only [J8, Bool.and_eq_true, Bool.or_eq_true, beq_iff_eq, Bool.not_eq_true'] at hf
  cases t with
  | zero =>
   simp at he; subst he
   rcases hf.1 with h | h
   ·omega
   ·exact h
  | succ t => exact Ko hf.2 t e (by simpa using he) (by omega)
theorem St.Fv {σ : St} {d : Nat} (hf : σ.fresh d = true) (t : Nat) (wE : t ≠ d) : (σ.get t).ref d = false := by
 simp only [St.fresh, Bool.and_eq_true] at hf
 unfold St.get
 cases he : σ[t]? with
 | none => rfl
 | some e => exact (Ko hf.2 t e he (by omega)).1
theorem La {d : Nat} : ∀ {os : List Ob}, Yf d os = false -> ∀ j cells, YO os j = .box cells -> YG d cells = false
 | [], _, j, cells, h => by simp [YO] at h
 | o :: os, hr, j, cells, h => by
  cases j with
  | zero =>
   simp [YO] at h; subst h
   simp [Yf] at hr; exact hr.1
  | succ j =>
   have : YO os j = .box cells := by simpa [YO] using h
   refine La (os := os) ?_ j cells this
   cases o <;> simp_all [Yf]
theorem MH {d : Nat} : ∀ {os : List Ob}, Yf d os = false -> ∀ j size rows, YO os j = .lit size rows -> YG d rows.flatten = false
 | [], _, j, _, _, h => by simp [YO] at h
 | o :: os, hr, j, size, rows, h => by
  cases j with
  | zero =>
   simp [YO] at h; subst h
   simp [Yf] at hr; exact hr.1
  | succ j =>
   have : YO os j = .lit size rows := by simpa [YO] using h
   refine MH (os := os) ?_ j size rows this
   cases o <;> simp_all [Yf]
theorem St.Fu {σ : St} {d : Nat} (hf : σ.fresh d = true) (t j : Nat) (wE : t ≠ d) (size : Nat) (rows : List (List At)) (ho : σ.ob t j = .lit size rows) : YG d rows.flatten = false := by
 simp only [St.fresh, Bool.and_eq_true] at hf
 unfold St.ob at ho
 cases he : σ[t]? with
 | none => rw [he] at ho; cases ho
 | some e => rw [he] at ho; exact MH (Ko hf.2 t e he (by omega)).2 j size rows ho
theorem St.EU {σ : St} {d : Nat} (hf : σ.fresh d = true) (t j : Nat) (wE : t ≠ d) (cells : List At) (ho : σ.ob t j = .box cells) : YG d cells = false := by
 simp only [St.fresh, Bool.and_eq_true] at hf
 unfold St.ob at ho
 cases he : σ[t]? with
 | none => rw [he] at ho; cases ho
 | some e => rw [he] at ho; exact La (Ko hf.2 t e he (by omega)).2 j cells ho
theorem St.JT {σ : St} {d : Nat} (hf : σ.fresh d = true) : d < σ.length := by
 simp only [St.fresh, Bool.and_eq_true, decide_eq_true_eq] at hf; exact hf.1
def Cpt (h h' : Nat -> Nat -> Hd) (ob v8 : Nat -> Nat -> Ob) (t j : Nat) : Prop :=
 (∀ q size rows, v8 t j = .arr q size rows -> h' t j = h t j /\ ∃ wQ, ob t j = .arr q size wQ /\ wQ.length = rows.length) /\
 (∀ size rows, v8 t j = .lit size rows -> h' t j = h t j /\ ∃ wQ, ob t j = .lit size wQ /\ wQ.length = rows.length) /\
 (∀ cells, v8 t j = .box cells -> h' t j = h t j /\ ∃ va, ob t j = .box va)
theorem Cpt.same {h h' : Nat -> Nat -> Hd} {ob v8 : Nat -> Nat -> Ob} {t j : Nat} (hh : h' t j = h t j) (ho : v8 t j = ob t j) : Cpt h h' ob v8 t j :=
 ⟨fun q size rows e => ⟨hh, rows, by rw [<- ho]; exact e, rfl⟩, fun size rows e => ⟨hh, rows, by rw [<- ho]; exact e, rfl⟩, fun cells e => ⟨hh, cells, by rw [<- ho]; exact e⟩⟩
section
variable {T T' : CS} {h h' : Nat -> Nat -> Hd} {ob v8 : Nat -> Nat -> Ob} {w w' : World} {d : Nat}
theorem Z7.carry (hT : ∀ b k v, T b k -> w.cell? ⟨b, k, none⟩ = some v -> w'.cell? ⟨b, k, none⟩ = some v /\ T' b k) (hc : ∀ t j, t ≠ d -> Cpt h h' ob v8 t j)
  {x : At} {v : Value} (hx : x.ref d = false) (r : Z7 T h ob w x v) : Z7 T' h' v8 w' x v := by
 cases x with
 | any => exact r
 | d x => exact Rd.mono hT r
 | nil s => exact r
 | sref t j lo len =>
  have ht : t ≠ d := by simpa [At.ref] using hx
  refine ⟨r.1, fun q size rows ho => ?_, fun size rows ho => ?_⟩
  ·obtain ⟨hh, wQ, vI, hl⟩ := (hc t j ht).1 q size rows ho
   rw [hh, <- hl]; exact r.2.1 q size wQ vI
  ·obtain ⟨hh, wQ, vI, hl⟩ := (hc t j ht).2.1 size rows ho
   rw [hh, <- hl]; exact r.2.2 size wQ vI
 | ptr t j i c =>
  have ht : t ≠ d := by simpa [At.ref] using hx
  refine ⟨r.1, fun q size rows ho => ?_⟩
  obtain ⟨hh, wQ, vI, hl⟩ := (hc t j ht).1 q size rows ho
  rw [hh]; exact r.2 q size wQ vI
 | bptr t c =>
  have ht : t ≠ d := by simpa [At.ref] using hx
  refine ⟨r.1, fun cells ho => ?_⟩
  obtain ⟨hh, va, vI⟩ := (hc t 0 ht).2.2 cells ho
  rw [hh]; exact r.2 va vI
 | fn f t =>
  have ht : t ≠ d := by simpa [At.ref] using hx
  refine ⟨r.1, fun cells ho => ?_⟩
  obtain ⟨hh, va, vI⟩ := (hc t 0 ht).2.2 cells ho
  rw [hh]; exact r.2 va vI
 | tref t j i c o =>
  have ht : t ≠ d := by simpa [At.ref] using hx
  refine ⟨r.1, fun size rows ho => ?_⟩
  obtain ⟨hh, wQ, vI, hl⟩ := (hc t j ht).1 true size rows ho
  rw [hh]; exact r.2 size wQ vI
 | rptr rr c =>
  obtain ⟨b, off, g, e, hk⟩ := r
  exact ⟨b, off, g, e, fun k d hd => ⟨(hT _ _ _ (hk k d hd).2.1 (hk k d hd).1).1, (hT _ _ _ (hk k d hd).2.1 (hk k d hd).1).2, Rd.mono hT (hk k d hd).2.2⟩⟩
theorem jG (hT : ∀ b k v, T b k -> w.cell? ⟨b, k, none⟩ = some v -> w'.cell? ⟨b, k, none⟩ = some v /\ T' b k) (hc : ∀ t j, t ≠ d -> Cpt h h' ob v8 t j)
  {xs : List At} {vs : List Value} (hx : YG d xs = false) (r : Z2 (Z7 T h ob w) xs vs) : Z2 (Z7 T' h' v8 w') xs vs := by
 induction r with
 | nil => exact .nil
 | cons r _ ih =>
  simp only [YG, Bool.or_eq_false_iff] at hx
  exact .cons (Z7.carry hT hc hx.1 r) (ih hx.2)
theorem JP.carry (hT : ∀ b k v, T b k -> w.cell? ⟨b, k, none⟩ = some v -> w'.cell? ⟨b, k, none⟩ = some v /\ T' b k) (hc : ∀ t j, t ≠ d -> Cpt h h' ob v8 t j)
  {x : V} {v : Value} (hx : x.RB d = false) (r : JP T h ob w x v) : JP T' h' v8 w' x v := by
 cases x with
 | any => exact r
 | one x => exact Z7.carry hT hc hx r
 | agg xs => obtain ⟨cs, e, r⟩ := r; exact ⟨cs, e, jG hT hc hx r⟩
 | tup xs => exact r.elim
 | cnd g x => exact r.elim
 | fix u x => exact r.elim
theorem Xs.carry (hT : ∀ b k v, T b k -> w.cell? ⟨b, k, none⟩ = some v -> w'.cell? ⟨b, k, none⟩ = some v /\ T' b k) (hc : ∀ t j, t ≠ d -> Cpt h h' ob v8 t j)
  {x : V} {v : Value} (hx : x.ref d = false) (r : Xs T h ob w x v) : Xs T' h' v8 w' x v := by
 cases x with
 | any => exact r
 | one x => exact Z7.carry hT hc hx r
 | agg xs => obtain ⟨cs, e, r⟩ := r; exact ⟨cs, e, jG hT hc hx r⟩
 | tup xs =>
  obtain ⟨vs, e, r⟩ := r
  refine ⟨vs, e, ?_⟩
  clear e
  generalize vs.toList = vl at r
  simp only [V.ref] at hx
  induction r with
  | nil => exact .nil
  | cons r _ ih =>
   simp only [Ws, Bool.or_eq_false_iff] at hx
   exact .cons (JP.carry hT hc hx.1 r) (ih hx.2)
 | cnd g x =>
  simp only [V.ref, Bool.or_eq_false_iff] at hx
  exact ⟨fun hg => JP.carry hT hc hx.1 (r.1 hg), r.2⟩
 | fix u x =>
  simp only [V.ref, Bool.or_eq_false_iff] at hx
  exact ⟨r.1, JP.carry hT hc hx.1 r.2⟩
end
section
variable {P : Program} {T0 : CS} {B : Nat -> Prop} {σ : St} {a : Act} {w w' : World} {X X' : Nat -> Prop} {h : Nat -> Nat -> Hd}
theorem Rel.Tlt (r : Rel T0 B σ a w X h) {b k : Nat} (hb : Tof T0 X b k) : b < w.heap.size := by
 rcases hb with hb | hb
 ·exact r.hB b (r.hT b k hb)
 ·exact (r.hX b hb).2
theorem zj {e : TypeId} {size n : Nat} {v : Value} {xs : List Value} (hb : ∀ b, blk v = some b -> w'.heap[b]? = w.heap[b]?) (ho : w.ownsRow 0 e size v n xs) : w'.ownsRow 0 e size v n xs := by
 refine ⟨ho.1, ?_⟩
 rcases ho.2 with hn | ⟨g, cap, cur, rfl, h0, hg, rest⟩
 ·exact .inl hn
 ·exact .inr ⟨g, cap, cur, rfl, h0, by rw [hb g rfl]; exact hg, rest⟩
theorem Own.Tt {v : Value} {d : D} {S : Nat -> Prop} (hb : ∀ b, S b -> w'.heap[b]? = w.heap[b]?) (ho : Own w v d S) : Own w' v d S := by
 induction ho with
 | int k n S => exact .int k n S
 | bool b S => exact .bool b S
 | str s S => exact .str s S
 | unk v h S => exact .unk v h S
 | sl v size rows S e xs Sk ho hz wU hl hk hs hd ih =>
  exact .sl v size rows S e xs Sk (zj (fun b h => hb b (wU b h)) ho) hz wU hl (fun k x d hx wR => ih k x d hx wR (fun b h => hb b (hs k b h).1)) hs hd
theorem Own.mono {v : Value} {d : D} {S S' : Nat -> Prop} (hS : ∀ b, S b -> S' b) (ho : Own w v d S) : Own w v d S' := by
 cases ho with
 | int k n S => exact .int k n S'
 | bool b S => exact .bool b S'
 | str s S => exact .str s S'
 | unk v h S => exact .unk v h S'
 | sl v size rows S e xs Sk ho hz wU hl hk hs hd => exact .sl v size rows S' e xs Sk ho hz (fun b h => hS b (wU b h)) hl hk (fun k b h => ⟨hS b (hs k b h).1, (hs k b h).2⟩) hd
theorem Qt.Tt {xs : List Value} {ds : List D} {S : Nat -> Prop} (hb : ∀ b, S b -> w'.heap[b]? = w.heap[b]?) (ho : Qt w xs ds S) : Qt w' xs ds S := by
 obtain ⟨hl, Sk, h1, h2, h3⟩ := ho
 exact ⟨hl, Sk, fun k x d hx hd => (h1 k x d hx hd).Tt (fun b h => hb b (h2 k b h)), h2, h3⟩
theorem QP.Tt {T T' : CS} {h h' : Nat -> Nat -> Hd} {ob v8 : Nat -> Nat -> Ob} {d : Nat} {hd : Hd} {o : Ob}
  (hT : ∀ b k v, T b k -> w.cell? ⟨b, k, none⟩ = some v -> w'.cell? ⟨b, k, none⟩ = some v /\ T' b k) (hc : ∀ t j, t ≠ d -> Cpt h h' ob v8 t j)
  (vR : o ≠ .none -> ∀ b, blk hd.v = some b -> hd.u b) (hb : o ≠ .none -> ∀ b, hd.u b -> w'.heap[b]? = w.heap[b]?) (hr : Yf d [o] = false) (r : QP T h ob w hd o) : QP T' h' v8 w' hd o := by
 cases o with
 | none => trivial
 | box cells =>
  obtain ⟨b, cs, e, hv, hh, wG⟩ := r
  simp only [Yf, Bool.or_false] at hr
  exact ⟨b, cs, e, hv, by rw [hb (by simp) b (vR (by simp) b (by rw [hv]; rfl))]; exact hh, jG hT hc hr wG⟩
 | arr q size rows =>
  have hk : ∀ {e : TypeId} {n : Nat} {xs : List Value}, w.ownsRow 0 e size hd.v n xs -> w'.ownsRow 0 e size hd.v n xs := fun ho => zj (fun b h => hb (by simp) b (vR (by simp) b h)) ho
  cases q with
  | false =>
   obtain ⟨e, xs, ho, hz, wG⟩ := r
   exact ⟨e, xs, hk ho, hz, wG.imp fun _ _ => Rd.mono hT⟩
  | true =>
   obtain ⟨e, xs, ho, hz, wG, hn⟩ := r
   exact ⟨e, xs, hk ho, hz, wG.Tt (fun b h => hb (by simp) b h.1), hn⟩
 | lit size rows =>
  obtain ⟨e, xs, ho, hz, wG⟩ := r
  simp only [Yf, Bool.or_false] at hr
  exact ⟨e, xs, zj (fun b h => hb (by simp) b (vR (by simp) b h)) ho, hz, jG hT hc hr wG⟩
theorem St.FV {σ : St} {d : Nat} (hf : σ.fresh d = true) (t j : Nat) (wE : t ≠ d) : Yf d [σ.ob t j] = false := by
 cases ho : σ.ob t j with
 | none => rfl
 | box cells => simp [Yf, St.EU hf t j wE cells ho]
 | arr q size rows => rfl
 | lit size rows => simp only [Yf, St.Fu hf t j wE size rows ho, Bool.or_false]
theorem Rel.GR (r : Rel T0 B σ a w X h) {d : Nat} (hf : σ.fresh d = true) (M : Nat -> Prop) (vV : w.heap.size <= w'.heap.size) (hg : ∀ k, k < w.heap.size -> ¬ M k -> w'.heap[k]? = w.heap[k]?)
  (hm : ∀ b, M b -> ¬ B b /\ ¬ X b /\ ∀ t j, t ≠ d -> σ.ob t j ≠ .none -> ¬ (h t j).u b) (hX : ∀ b, X b -> X' b) (sX : ∀ b, X' b -> X b \/ (w.heap.size <= b /\ b < w'.heap.size))
  (v : V) (val : Value) (os : List Ob) (hd : Nat -> Hd)
  (hv : Xs (Tof T0 X') (fun t j => if t = d then hd j else h t j) (σ.new d v os).ob w' v val)
  (mQ : ∀ j, QP (Tof T0 X') (fun t j => if t = d then hd j else h t j) (σ.new d v os).ob w' (hd j) (YO os j))
  (vR : ∀ j b, YO os j ≠ .none -> blk (hd j).v = some b -> (hd j).u b)
  (wJ : ∀ j b, YO os j ≠ .none -> (hd j).u b -> (w.heap.size <= b \/ M b) /\ ¬ X' b /\ b < w'.heap.size)
  (rl : ∀ j j' b, YO os j ≠ .none -> YO os j' ≠ .none -> (hd j).u b -> (hd j').u b -> j = j') :
  Rel T0 B (σ.new d v os) (a.put (some d) val) w' X' (fun t j => if t = d then hd j else h t j) := by
 have wO := St.JT hf
 have fW : ∀ b k, Tof T0 X b k -> ¬ M b := by
  intro b k hb m3
  rcases hb with hb | hb
  ·exact (hm b m3).1 (r.hT b k hb)
  ·exact (hm b m3).2.1 hb
 have hT : ∀ b k v, Tof T0 X b k -> w.cell? ⟨b, k, none⟩ = some v -> w'.cell? ⟨b, k, none⟩ = some v /\ Tof T0 X' b k := by
  intro b k v hb wM
  refine ⟨?_, hb.imp id (hX b)⟩
  rw [World.cell?_of_block (hg b (r.Tlt hb) (fW b k hb))]; exact wM
 have hc : ∀ t j, t ≠ d -> Cpt h (fun t j => if t = d then hd j else h t j) σ.ob (σ.new d v os).ob t j := by
  intro t j wE
  have he : (σ.new d v os).ob t j = σ.ob t j := by rw [St.QE, if_neg (fun hh => wE hh.1)]
  exact Cpt.same (by simp [wE]) he
 refine ⟨by simp [Act.put, r.size, St.xq], r.defers, fun b hb => Nat.lt_of_lt_of_le (r.hB b hb) vV, fun b hb => ?_, r.hT, fun t ht => ?_, fun t j => ?_, fun t j b ho hb => ?_, fun t j b ho hb => ?_, fun t j t' j' b ho wY hb wU => ?_⟩
 ·rcases sX b hb with hb | hb
  ·have := r.hX b hb; exact ⟨this.1, by omega⟩
  ·exact ⟨fun uS => by have := r.hB b uS; omega, hb.2⟩
 ·rw [St.xq] at ht
  rw [St.kS]
  by_cases wR : t = d
  ·subst wR
   simp only [wO, and_self, if_true]
   have : (a.tmps.setIfInBounds t val).getD t undef = val := by simp [r.size, wO]
   simp only [Act.put, this]; exact hv
  ·rw [if_neg (fun hh => wR hh.1)]
   have : (a.tmps.setIfInBounds d val).getD t undef = a.tmps.getD t undef := by simp [Array.getElem?_setIfInBounds_ne (Ne.symm wR)]
   simp only [Act.put, this]
   exact Xs.carry hT hc (St.Fv hf t wR) (r.slot t ht)
 ·rw [St.QE]
  by_cases wR : t = d
  ·subst wR
   simp only [wO, and_self, if_true]; exact mQ j
  ·have wE : ¬ (t = d /\ d < σ.length) := fun hh => wR hh.1
   rw [if_neg wE]
   simp only [if_neg wR]
   exact QP.Tt hT hc (fun ho b => r.ub t j b ho) (fun ho b hu => hg b (r.own t j b ho hu).2.2 (fun m3 => (hm b m3).2.2 t j wR ho hu)) (St.FV hf t j wR) (r.obj t j)
 ·rw [St.QE] at ho
  by_cases wR : t = d
  ·subst wR
   simp only [wO, and_self, if_true] at ho hb ⊢
   exact vR j b ho hb
  ·rw [if_neg (fun hh => wR hh.1)] at ho
   simp only [wR, if_false] at hb ⊢
   exact r.ub t j b ho hb
 ·rw [St.QE] at ho
  by_cases wR : t = d
  ·subst wR
   simp only [wO, and_self, if_true] at ho hb
   have h1 := wJ j b ho hb
   refine ⟨?_, h1.2.1, h1.2.2⟩
   rcases h1.1 with h2 | h2
   ·exact fun uS => by have := r.hB b uS; omega
   ·exact (hm b h2).1
  ·rw [if_neg (fun hh => wR hh.1)] at ho
   simp only [wR, if_false] at hb
   have := r.own t j b ho hb
   refine ⟨this.1, fun hx => ?_, by omega⟩
   rcases sX b hx with hx | hx
   ·exact this.2.1 hx
   ·omega
 ·rw [St.QE] at ho wY
  by_cases hd1 : t = d
  ·by_cases sQ : t' = d
   ·subst hd1; subst sQ
    simp only [wO, and_self, if_true] at ho hb wY wU
    exact ⟨rfl, rl j j' b ho wY hb wU⟩
   ·subst hd1
    simp only [wO, and_self, if_true] at ho hb
    rw [if_neg (fun hh => sQ hh.1)] at wY
    simp only [sQ, if_false] at wU
    have h1 := wJ j b ho hb
    have h2 := r.own t' j' b wY wU
    rcases h1.1 with h3 | h3
    ·omega
    ·exact absurd wU ((hm b h3).2.2 t' j' sQ wY)
  ·by_cases sQ : t' = d
   ·subst sQ
    simp only [wO, and_self, if_true] at wY wU
    rw [if_neg (fun hh => hd1 hh.1)] at ho
    simp only [hd1, if_false] at hb
    have h1 := wJ j' b wY wU
    have h2 := r.own t j b ho hb
    rcases h1.1 with h3 | h3
    ·omega
    ·exact absurd hb ((hm b h3).2.2 t j hd1 ho)
   ·rw [if_neg (fun hh => hd1 hh.1)] at ho
    rw [if_neg (fun hh => sQ hh.1)] at wY
    simp only [hd1, sQ, if_false] at hb wU
    exact r.inj t j t' j' b ho wY hb wU
theorem Rel.new (r : Rel T0 B σ a w X h) {d : Nat} (hf : σ.fresh d = true) (hg : w.grownBy w' none) (hX : ∀ b, X b -> X' b) (sX : ∀ b, X' b -> X b \/ (w.heap.size <= b /\ b < w'.heap.size))
  (v : V) (val : Value) (os : List Ob) (hd : Nat -> Hd)
  (hv : Xs (Tof T0 X') (fun t j => if t = d then hd j else h t j) (σ.new d v os).ob w' v val)
  (mQ : ∀ j, QP (Tof T0 X') (fun t j => if t = d then hd j else h t j) (σ.new d v os).ob w' (hd j) (YO os j))
  (vR : ∀ j b, YO os j ≠ .none -> blk (hd j).v = some b -> (hd j).u b)
  (wJ : ∀ j b, YO os j ≠ .none -> (hd j).u b -> w.heap.size <= b /\ ¬ X' b /\ b < w'.heap.size)
  (rl : ∀ j j' b, YO os j ≠ .none -> YO os j' ≠ .none -> (hd j).u b -> (hd j').u b -> j = j') :
  Rel T0 B (σ.new d v os) (a.put (some d) val) w' X' (fun t j => if t = d then hd j else h t j) :=
 r.GR hf (fun _ => False) hg.size (fun k hk _ => hg.block k hk (by simp)) (fun _ hh => hh.elim) hX sX v val os hd hv mQ vR (fun j b h1 h2 => ⟨.inl (wJ j b h1 h2).1, (wJ j b h1 h2).2⟩) rl
end
end Go.Vm
namespace Go.Vm
open Go.RowKit
def KC (v : Value) (cs : List Value) : Prop := (∃ c, cs = [c] /\ v = c /\ c.oneCell' = true) \/ (cs.length ≠ 1 /\ v = .agg cs.toArray)
def V7 : List Value -> Value
 | [v] => v
 | vs => .tuple vs.toArray
def Qc (T : CS) (w : World) (v : Value) : D -> Prop
 | .sl size rows => ∃ e xs, w.ownsRow 0 e size v rows.length xs /\ (∀ r ∈ rows, r.length = size) /\ Z2 (Rd T w) xs rows.flatten
 | d => Rd T w v d
def zf (own : Bool) (T : CS) (w : World) (v : Value) (d : D) : Prop := if own then Qc T w v d else Rd T w v d
def WW (P : Program) (f : FuncId) : Bool :=
 match P.funcs[f]? with
 | some fn => fn.body.isSome && fn.name != "runtime.NumGoroutine"
 | none => false
def Cr (B N : Nat) (Y : Nat -> Prop) (cs : List Value) (ds : List D) : Prop :=
 (∀ (i : Nat) (c : Value) (d : D) (b : Nat), cs[i]? = some c -> ds[i]? = some d -> d.scalar = false -> blk c = some b -> B <= b /\ b < N /\ ¬ Y b) /\
 (∀ (i j : Nat) (c c' : Value) (d d' : D) (b : Nat), cs[i]? = some c -> ds[i]? = some d -> cs[j]? = some c' -> ds[j]? = some d' -> d.scalar = false -> d'.scalar = false -> blk c = some b -> blk c' = some b -> i = j)
def Cm (own : Bool) (T : CS) (w : World) (res : List (List D)) (e : Ending) (w' : World) : Prop :=
 ∃ (vs : List Value) (wi : List (List Value)) (Y : Nat -> Prop), e = .returned (V7 vs) /\ Below w.heap.size w w' /\ (∀ b, Y b -> w.heap.size <= b /\ b < w'.heap.size) /\
  Z2 KC vs wi /\ Z2 (fun cs row => Z2 (zf own (Tof T Y) w') cs row) wi res /\ (own = true -> Cr w.heap.size w'.heap.size Y wi.flatten res.flatten)
def Xm (P : Program) (f : FuncId) (own : Bool) (args res : List (List D)) : Prop :=
 WW P f = true /\ ∀ (T : CS) (w : World) (wx : List Value), (∀ b k, T b k -> b < w.heap.size) -> Z2 (fun v row => ∃ cs, KC v cs /\ Z2 (Rd T w) cs row) wx args ->
  Calls P f wx.toArray w (Cm own T w res)
def vOf : List At -> V
 | [x] => .one x
 | xs => .agg xs
def Qz (t : Nat) : Nat -> List D -> List At
 | _, [] => []
 | k, .sl _ rows :: ds => .sref t k 0 rows.length :: Qz t (k + 1) ds
 | k, d :: ds => .d d :: Qz t (k + 1) ds
def Kv : List D -> List Ob
 | [] => []
 | .sl size rows :: ds => .arr false size rows :: Kv ds
 | _ :: ds => .none :: Kv ds
def Lo (t : Nat) : Nat -> List (List D) -> List V
 | _, [] => []
 | k, r :: rs => vOf (Qz t k r) :: Lo t (k + r.length) rs
def yh (t : Nat) : List (List D) -> V
 | [r] => vOf (Qz t 0 r)
 | rs => .tup (Lo t 0 rs)
def zx : List (List D) -> V
 | [r] => vOf (r.map .d)
 | rs => .tup (rs.map fun r => vOf (r.map .d))
def J0 (σ : St) : At -> Option D
 | .d x => some x
 | .nil s => some (.sl s [])
 | .sref t j lo len => (match σ.ob t j with | .arr _ size rows => some (.sl size (cut rows lo len)) | _ => none)
 | _ => none
def rowOf (σ : St) : List At -> Option (List D)
 | [] => some []
 | x :: xs => (match J0 σ x, rowOf σ xs with | some d, some ds => some (d :: ds) | _, _ => none)
def V.JU (σ : St) : V -> Option (List D)
 | .one x => rowOf σ [x]
 | .agg [_] => none
 | .agg xs => rowOf σ xs
 | _ => none
def Xg (P : Program) (σ : St) : List Operand -> List TypeId -> List (List D) -> Prop
 | [], _, rs => rs = []
 | x :: xs, t :: ts, rs => gOf (look P σ t x) = true /\ ∃ r rest, (unc (look P σ t x)).JU σ = some r /\ Xg P σ xs ts rest /\ rs = r :: rest
 | _ :: _, [], _ => False
def At.IC : At -> Bool
 | .sref _ _ _ _ => false
 | .tref _ _ _ _ _ => false
 | _ => true
def JZ : List At -> Bool
 | [] => true
 | x :: xs => x.IC && JZ xs
def YI (P : Program) (σ : St) : List Operand -> List TypeId -> Bool
 | x :: xs, t :: ts => JZ (unc (look P σ t x)).cells && YI P σ xs ts
 | _, _ => true
section
variable {P : Program} {T0 : CS} {B : Nat -> Prop} {σ : St} {a : Act} {w w' : World} {X X' : Nat -> Prop} {h : Nat -> Nat -> Hd}
theorem Rel.grow (r : Rel T0 B σ a w X h) (hg : w.grownBy w' none) (hX : ∀ b, X b -> X' b) (sX : ∀ b, X' b -> X b \/ (w.heap.size <= b /\ b < w'.heap.size)) : Rel T0 B σ a w' X' h := by
 have hT : ∀ b k v, Tof T0 X b k -> w.cell? ⟨b, k, none⟩ = some v -> w'.cell? ⟨b, k, none⟩ = some v /\ Tof T0 X' b k := by
  intro b k v hb wM
  refine ⟨?_, hb.imp id (hX b)⟩
  rw [World.cell?_of_block (hg.block b (r.Tlt hb) (by simp))]; exact wM
 have hB : w.heap.size <= w'.heap.size := hg.size
 refine ⟨r.size, r.defers, fun b hb => Nat.lt_of_lt_of_le (r.hB b hb) hB, fun b hb => ?_, r.hT, fun t ht => Xs.mono hT (r.slot t ht), fun t j => ?_, r.ub, fun t j b ho hb => ?_, r.inj⟩
 ·rcases sX b hb with hb | hb
  ·have := r.hX b hb; exact ⟨this.1, by omega⟩
  ·exact ⟨fun uS => by have := r.hB b uS; omega, hb.2⟩
 ·have h0 := r.obj t j
  have hk : σ.ob t j ≠ .none -> ∀ b, (h t j).u b -> w'.heap[b]? = w.heap[b]? := fun ho b hu => hg.block b (r.own t j b ho hu).2.2 (by simp)
  have wV := r.ub t j
  cases ho : σ.ob t j with
  | none => trivial
  | box cells =>
   rw [ho] at h0 hk wV
   obtain ⟨b, cs, e, hv, hh, wG⟩ := h0
   exact ⟨b, cs, e, hv, by rw [hk (by simp) b (wV b (by simp) (by rw [hv]; rfl))]; exact hh, wG.imp fun _ _ => Z7.mono hT⟩
  | arr q size rows =>
   rw [ho] at h0 hk wV
   cases q with
   | false =>
    obtain ⟨e, xs, uT, hz, wG⟩ := h0
    exact ⟨e, xs, zj (fun b hb => hk (by simp) b (wV b (by simp) hb)) uT, hz, wG.imp fun _ _ => Rd.mono hT⟩
   | true =>
    obtain ⟨e, xs, uT, hz, wG, hn⟩ := h0
    exact ⟨e, xs, zj (fun b hb => hk (by simp) b (wV b (by simp) hb)) uT, hz, wG.Tt (fun b hb => hk (by simp) b hb.1), hn⟩
  | lit size rows =>
   rw [ho] at h0 hk wV
   obtain ⟨e, xs, uT, hz, wG⟩ := h0
   exact ⟨e, xs, zj (fun b hb => hk (by simp) b (wV b (by simp) hb)) uT, hz, wG.imp fun _ _ => Z7.mono hT⟩
 ·have := r.own t j b ho hb
  refine ⟨this.1, fun hx => ?_, by omega⟩
  rcases sX b hx with hx | hx
  ·exact this.2.1 hx
  ·omega
def Tk (T0 : CS) (X : Nat -> Prop) (h : Nat -> Nat -> Hd) (σ : St) : CS := fun b k => Tof T0 X b k \/ ∃ t j q size rows, σ.ob t j = .arr q size rows /\ (h t j).u b
theorem Rel.Ix (r : Rel T0 B σ a w X h) {b k : Nat} (hb : Tk T0 X h σ b k) : b < w.heap.size := by
 rcases hb with hb | ⟨t, j, q, size, rows, ho, hb⟩
 ·exact r.Tlt hb
 ·exact (r.own t j b (by rw [ho]; simp) hb).2.2
theorem FM {T : CS} {w : World} {e : TypeId} {size : Nat} {v : Value} {rows : List (List D)} {xs : List Value} (ho : w.ownsRow 0 e size v rows.length xs) (hz : ∀ r ∈ rows, r.length = size) (hT : ∀ b k, blk v = some b -> T b k)
  (wG : Z2 (Rd T w) xs rows.flatten) : Rd T w v (.sl size rows) := by
 rcases ho.2 with ⟨rfl, hn⟩ | ⟨g, cap, cur, rfl, _, hh, tU, uO, uI, u4⟩
 ·have : rows = [] := List.eq_nil_of_length_eq_zero hn
  subst this; exact .nil _
 ·refine .sl ⟨g, 0, none⟩ _ cap size rows (fun k => (xs[k]?).getD undef) rfl tU uO hz (fun _ => rfl) (fun k d hd => ?_) (fun k d hd => ?_)
  ·obtain ⟨u, hu, _⟩ := wG.get' k d hd
   have wO : k < rows.length * size := by
    have := (List.getElem?_eq_some_iff.1 hd).1
    rw [YL rows size hz] at this; exact this
   rw [hu]
   refine ⟨?_, hT g _ rfl⟩
   simp only [Nat.zero_add]
   refine Km hh _ _ ?_
   rw [<- u4, List.getElem?_take, if_pos wO] at hu
   exact hu
  ·obtain ⟨u, hu, hr⟩ := wG.get' k d hd
   rw [hu]; exact hr
theorem Own.rd {T : CS} {w : World} {v : Value} {d : D} {S : Nat -> Prop} (ho : Own w v d S) (hT : ∀ b k, S b -> T b k) : Rd T w v d := by
 induction ho with
 | int k n S => exact .int k n
 | bool b S => exact .bool b
 | str s S => exact .str s
 | unk v h S => exact .unk v h
 | sl v size rows S e xs Sk ho hz wU hl hk hs hd ih =>
  exact FM ho hz (fun b k hb => hT b k (wU b hb)) (Z2.Ku hl (fun k x d hx wR => ih k x d hx wR (fun b k' hb => hT b k' (hs k b hb).1)))
theorem Qt.rd {T : CS} {w : World} {xs : List Value} {ds : List D} {S : Nat -> Prop} (ho : Qt w xs ds S) (hT : ∀ b k, S b -> T b k) : Z2 (Rd T w) xs ds := by
 obtain ⟨hl, Sk, h1, h2, h3⟩ := ho
 exact Z2.Ku hl (fun k x d hx hd => (h1 k x d hx hd).rd (fun b k' hb => hT b k' (h2 k b hb)))
theorem Rel.cells (r : Rel T0 B σ a w X h) {t j size : Nat} {q : Bool} {rows : List (List D)} (ho : σ.ob t j = .arr q size rows) :
  ∃ e xs, w.ownsRow 0 e size (h t j).v rows.length xs /\ (∀ r ∈ rows, r.length = size) /\ ∀ T : CS, (∀ b k, Tof T0 X b k -> T b k) -> (∀ b k, (h t j).u b -> T b k) -> Z2 (Rd T w) xs rows.flatten := by
 have h0 := r.obj t j
 rw [ho] at h0
 cases q with
 | false =>
  obtain ⟨e, xs, uT, hz, wG⟩ := h0
  exact ⟨e, xs, uT, hz, fun T h1 _ => wG.imp fun _ _ => Rd.mono (fun b k v hb hc => ⟨hc, h1 b k hb⟩)⟩
 | true =>
  obtain ⟨e, xs, uT, hz, wG, hn⟩ := h0
  exact ⟨e, xs, uT, hz, fun T _ h2 => wG.rd (fun b k hb => h2 b k hb.1)⟩
theorem Rel.FC (r : Rel T0 B σ a w X h) {t j lo len size : Nat} {q : Bool} {rows : List (List D)} (ho : σ.ob t j = .arr q size rows) {v : Value} (hv : Z7 (Tof T0 X) h σ.ob w (.sref t j lo len) v)
  (T : CS) (hQ : ∀ b k, Tof T0 X b k -> T b k) (hR : ∀ b k, (h t j).u b -> T b k) : Rd T w v (.sl size (cut rows lo len)) := by
 obtain ⟨hle, uK, _, base, cap, rfl, vn, pt, pH, hb⟩ := hv.2.1 q size rows ho
 obtain ⟨e, xs, ⟨hl, wJ⟩, hz, oW⟩ := r.cells ho
 have wG := oW T hQ hR
 have vR := r.ub t j
 have wq : (cut rows lo len).length = len := Xl _ _ _ hle
 have ur : ∀ x ∈ cut rows lo len, x.length = size := fun x hx => hz x (List.mem_of_mem_drop (List.mem_of_mem_take hx))
 by_cases vY : 0 < len
 ·obtain ⟨b, sD, hh, rfl⟩ := hb vY
  rcases wJ with ⟨hn, _⟩ | ⟨g, pe, cur, sP, _, iJ, tU, uO, uI, u4⟩
  ·rw [hh] at hn; cases hn
  ·rw [hh] at sP
   cases sP
   have key : ∀ k d, (cut rows lo len).flatten[k]? = some d -> ∃ u, w.cell? ⟨b, lo * size + k, none⟩ = some u /\ T b (lo * size + k) /\ Rd T w u d := by
    intro k d hd
    have wR := yg rows size lo len hz k d hd
    obtain ⟨u, hu, hr⟩ := wG.get' _ _ wR
    have wO : lo * size + k < rows.length * size := by
     have := (List.getElem?_eq_some_iff.1 wR).1
     rw [YL rows size hz] at this; exact this
    refine ⟨u, Km iJ _ _ ?_, hR b _ (vR b (by rw [ho]; simp) (by rw [hh]; rfl)), hr⟩
    rw [<- u4, List.getElem?_take, if_pos wO] at hu
    exact hu
   refine .sl ⟨b, lo * size, none⟩ len cap size _ (fun k => (w.cell? ⟨b, lo * size + k, none⟩).getD undef) wq vn pt ur (fun _ => rfl) (fun k d hd => ?_) (fun k d hd => ?_)
   ·obtain ⟨u, hu, ht, _⟩ := key k d hd
    rw [hu]; exact ⟨rfl, ht⟩
   ·obtain ⟨u, hu, _, hr⟩ := key k d hd
    rw [hu]; exact hr
 ·have fX : len = 0 := by omega
  subst fX
  have tD : cut rows lo 0 = [] := by simp [cut]
  rw [tD]
  cases base with
  | none => have := pH rfl; subst this; exact .nil _
  | some ad => exact .sl ad 0 cap size [] (fun _ => undef) rfl vn pt (by intro r hr; cases hr) (by simp) (by simp) (by simp)
end
end Go.Vm
namespace Go.Vm
open Go.RowKit
def D.Ij : D -> Prop
 | .sl _ rows => ∀ r ∈ rows, ∀ d ∈ r, d.scalar = true
 | _ => True
def Qn (own : Bool) (res : List (List D)) : Prop := ∀ r ∈ res, ∀ d ∈ r, if own = true then d.Ij else d.scalar = true
theorem Rd.scalar {T T' : CS} {w : World} {v : Value} {d : D} (hd : d.scalar = true) (r : Rd T w v d) : Rd T' w v d := by
 cases r with
 | int k n => exact .int k n
 | bool b => exact .bool b
 | str s => exact .str s
 | unk v h => exact .unk v h
 | nil => cases hd
 | sl => cases hd
theorem Qc.flat {T T' : CS} {w : World} {v : Value} {d : D} (hd : d.Ij) (r : Qc T w v d) : Qc T' w v d := by
 cases d with
 | sl size rows =>
  obtain ⟨e, xs, ho, hz, wG⟩ := r
  refine ⟨e, xs, ho, hz, ?_⟩
  refine Z2.Ku wG.length (fun i x d hx wR => ?_)
  obtain ⟨d2, sQ, hr⟩ := wG.get i x hx
  rw [wR] at sQ; cases sQ
  have hm : d ∈ rows.flatten := List.mem_of_getElem? wR
  obtain ⟨r0, tG, hdr⟩ := List.mem_flatten.1 hm
  exact Rd.scalar (hd r0 tG d hdr) hr
 | int k n => exact Rd.scalar rfl r
 | bool b => exact Rd.scalar rfl r
 | str s => exact Rd.scalar rfl r
 | unk => exact Rd.scalar rfl r
theorem jB {w : World} {e : TypeId} {size : Nat} {v : Value} {n : Nat} {xs : List Value} (ho : w.ownsRow 0 e size v n xs) : EK v size n 0 n v := by
 refine ⟨by omega, fun _ _ => rfl, ?_, ?_⟩
 ·intro _
  rcases ho.2 with ⟨rfl, rfl⟩ | ⟨g, cap, cur, rfl, _⟩ <;> rfl
 rcases ho.2 with ⟨rfl, rfl⟩ | ⟨g, cap, cur, rfl, _, _, tU, uO, _, _⟩
 ·exact ⟨none, 0, rfl, by omega, by simp [maxLen], fun _ => rfl, fun hh => by omega⟩
 ·exact ⟨_, cap, rfl, tU, uO, (fun hh => by cases hh), fun _ => ⟨g, cap, rfl, by simp⟩⟩
theorem Qe {w : World} {e : TypeId} {size : Nat} {v : Value} {n : Nat} {xs : List Value} (ho : w.ownsRow 0 e size v n xs) : v.oneCell' = true := by
 rcases ho.2 with ⟨rfl, rfl⟩ | ⟨g, cap, cur, rfl, _⟩ <;> rfl
theorem Qc.Xa {T : CS} {w : World} {v : Value} {d : D} (r : Qc T w v d) : v.oneCell' = true := by
 cases d with
 | sl size rows => obtain ⟨e, xs, ho, _⟩ := r; exact Qe ho
 | int k n => exact Rd.Xa r
 | bool b => exact Rd.Xa r
 | str s => exact Rd.Xa r
 | unk => exact Rd.Xa r
theorem Qc.rd {T T' : CS} {w : World} {v : Value} {d : D} (r : Qc T w v d) (h1 : ∀ b k, T b k -> T' b k) (h2 : d.scalar = false -> ∀ b k, blk v = some b -> T' b k) : Rd T' w v d := by
 cases d with
 | sl size rows =>
  obtain ⟨e, xs, ⟨hl, wJ⟩, hz, wG⟩ := r
  rcases wJ with ⟨rfl, hn⟩ | ⟨g, cap, cur, rfl, _, hh, tU, uO, uI, u4⟩
  ·have : rows = [] := List.eq_nil_of_length_eq_zero hn
   subst this; exact .nil _
  ·refine .sl ⟨g, 0, none⟩ _ cap size rows (fun k => (xs[k]?).getD undef) rfl tU uO hz (fun _ => rfl) (fun k d hd => ?_) (fun k d hd => ?_)
   ·obtain ⟨u, hu, _⟩ := wG.get' k d hd
    have wO : k < rows.length * size := by
     have := (List.getElem?_eq_some_iff.1 hd).1
     rw [YL rows size hz] at this; exact this
    rw [hu]
    refine ⟨?_, h2 rfl g _ rfl⟩
    simp only [Nat.zero_add]
    refine Km hh _ _ ?_
    rw [<- u4, List.getElem?_take, if_pos wO] at hu
    exact hu
   ·obtain ⟨u, hu, hr⟩ := wG.get' k d hd
    rw [hu]; exact Rd.mono (fun b k v hb hc => ⟨hc, h1 b k hb⟩) hr
 | int k n => exact Rd.scalar rfl r
 | bool b => exact Rd.scalar rfl r
 | str s => exact Rd.scalar rfl r
 | unk => exact Rd.scalar rfl r
section
variable {P : Program} {T0 : CS} {B : Nat -> Prop} {σ : St} {a : Act} {w w' : World} {X X' : Nat -> Prop} {h : Nat -> Nat -> Hd}
theorem Rel.J0 (r : Rel T0 B σ a w X h) {x : At} {v : Value} {d : D} (hd : J0 σ x = some d) (hv : Z7 (Tof T0 X) h σ.ob w x v) (st : Bool) (wb : st = true -> x.IC = true) :
  Rd (if st then Tof T0 X else Tk T0 X h σ) w v d := by
 cases x with
 | d x => simp [Vm.J0] at hd; subst hd; cases st <;> simp <;> first | exact hv | exact Rd.mono (fun b k v hb hc => ⟨hc, .inl hb⟩) hv
 | nil s => simp [Vm.J0] at hd; subst hd; cases hv; exact .nil _
 | sref t j lo len =>
  cases st with
  | true => have := wb rfl; simp [At.IC] at this
  | false =>
   simp only [Vm.J0] at hd
   split at hd
   ·rename_i q size rows ho
    cases hd
    exact r.FC ho hv _ (fun b k hb => .inl hb) (fun b k hb => .inr ⟨t, j, _, size, rows, ho, hb⟩)
   ·cases hd
 | any => simp [Vm.J0] at hd
 | ptr => simp [Vm.J0] at hd
 | bptr => simp [Vm.J0] at hd
 | fn => simp [Vm.J0] at hd
 | rptr => simp [Vm.J0] at hd
 | tref => simp [Vm.J0] at hd
theorem Rel.rowOf (r : Rel T0 B σ a w X h) (st : Bool) : ∀ {xs : List At} {vs : List Value} {ds : List D}, rowOf σ xs = some ds -> Z2 (Z7 (Tof T0 X) h σ.ob w) xs vs -> (st = true -> JZ xs = true) ->
  Z2 (Rd (if st then Tof T0 X else Tk T0 X h σ) w) vs ds
 | [], _, ds, hd, wG, _ => by cases wG; simp [Vm.rowOf] at hd; subst hd; exact .nil
 | x :: xs, _, ds, hd, wG, wb => by
  cases wG with
  | cons hx wG =>
   simp only [Vm.rowOf] at hd
   split at hd
   ·rename_i d rF h1 h2
    cases hd
    refine .cons (r.J0 h1 hx st (fun hs => ?_)) (Rel.rowOf r st h2 wG (fun hs => ?_))
    ·have := wb hs; simp [JZ] at this; exact this.1
    ·have := wb hs; simp [JZ] at this; exact this.2
   ·cases hd
theorem Rel.JU (r : Rel T0 B σ a w X h) (st : Bool) {v : V} {val : Value} {row : List D} (hr : v.JU σ = some row) (hv : Xs (Tof T0 X) h σ.ob w v val) (wb : st = true -> JZ v.cells = true) :
  ∃ cs, KC val cs /\ Z2 (Rd (if st then Tof T0 X else Tk T0 X h σ) w) cs row := by
 cases v with
 | one x => exact ⟨[val], .inl ⟨val, rfl, rfl, Z7.Xa (show Z7 _ _ _ _ _ _ from hv)⟩, r.rowOf st (xs := [x]) hr (.cons hv .nil) wb⟩
 | agg xs =>
  obtain ⟨cs, rfl, wG⟩ := hv
  have hl := wG.length
  match xs, hr, wG, hl, wb with
  | [], hr, wG, hl, wb => exact ⟨cs.toList, .inr ⟨by rw [<- hl]; simp, by simp⟩, r.rowOf st hr wG wb⟩
  | [_], hr, _, _, _ => simp [V.JU] at hr
  | x :: y :: xs, hr, wG, hl, wb => exact ⟨cs.toList, .inr ⟨by rw [<- hl]; simp, by simp⟩, r.rowOf st hr wG wb⟩
 | any => simp [V.JU] at hr
 | tup xs => simp [V.JU] at hr
 | cnd g x => simp [V.JU] at hr
 | fix u x => simp [V.JU] at hr
theorem Rel.Xg (r : Rel T0 B σ a w X h) (st : Bool) : ∀ {xs : List Operand} {ts : List TypeId} {rs : List (List D)}, Xg P σ xs ts rs -> (st = true -> YI P σ xs ts = true) ->
  Z2 (fun v row => ∃ cs, KC v cs /\ Z2 (Rd (if st then Tof T0 X else Tk T0 X h σ) w) cs row) (xs.map a.eval) rs
 | [], _, rs, hr, _ => by cases hr; exact .nil
 | x :: xs, [], rs, hr, _ => hr.elim
 | x :: xs, t :: ts, rs, hr, wb => by
  obtain ⟨hg, row, rest, h1, h2, rfl⟩ := hr
  refine .cons (r.JU st h1 (r.arg t x rfl hg) (fun hs => ?_)) (Rel.Xg r st h2 (fun hs => ?_))
  ·have := wb hs; simp [YI] at this; exact this.1
  ·have := wb hs; simp [YI] at this; exact this.2
theorem ju {o : Oper} {c : Call} {f : FuncId} (wA : o.op = .call c) (hc : c.callee = .value (.func f)) (hf : WW P f = true) : (execOp a.eval o).run P w = .ok (.enter f (c.args.toList.map a.eval).toArray) w := by
 unfold WW at hf
 split at hf
 ·rename_i fn nI
  simp only [Bool.and_eq_true, bne_iff_ne, ne_eq] at hf
  obtain ⟨cd, hb⟩ := Option.isSome_iff_exists.1 hf.1
  obtain ⟨callee, args, tW⟩ := c
  simp only at hc; subst hc
  have hm : (args.toList.map a.eval).toArray = args.map a.eval := by apply Array.toList_inj.1; simp
  rw [hm]
  simp [execOp, wA, resolve, Act.eval, Deferred.ofValue, invoke, callFunc, nI, hf.2, hb]
 ·cases hf
end
end Go.Vm
namespace Go.Vm
open Go.RowKit
section
variable {P : Program} {T0 : CS} {B : Nat -> Prop} {σ : St} {a : Act} {w w' : World} {X X' : Nat -> Prop} {h : Nat -> Nat -> Hd}
theorem Below.grownBy (hb : Below w.heap.size w w') : w.grownBy w' none := ⟨hb.os, hb.tape, hb.output, hb.size, fun k hk _ => hb.block k hk⟩
theorem Oa {T : CS} {ob : Nat -> Nat -> Ob} {xs : List At} {v : Value} {cs : List Value} (hf : KC v cs) (wG : Z2 (Z7 T h ob w) xs cs) : JP T h ob w (vOf xs) v := by
 have hl := wG.length
 rcases hf with ⟨c, rfl, rfl, h1⟩ | ⟨wE, rfl⟩
 ·cases wG with
  | cons hx wG => cases wG; exact hx
 ·match xs, wG, hl with
  | [], wG, _ => exact ⟨_, rfl, by simpa using wG⟩
  | [x], wG, hl => exact absurd hl.symm (by simpa using wE)
  | x :: y :: xs, wG, _ => exact ⟨_, rfl, by simpa using wG⟩
theorem jD {T : CS} {ob : Nat -> Nat -> Ob} {cs : List Value} {row : List D} (wG : Z2 (Rd T w) cs row) : Z2 (Z7 T h ob w) (row.map .d) cs := by
 induction wG with
 | nil => exact .nil
 | cons r _ ih => exact .cons r ih
theorem GS {T : CS} {ob : Nat -> Nat -> Ob} {res : List (List D)} {vs : List Value} {wi : List (List Value)} (hf : Z2 KC vs wi) (wG : Z2 (fun cs row => Z2 (Rd T w) cs row) wi res) :
  Z2 (JP T h ob w) (res.map fun r => vOf (r.map .d)) vs := by
 induction hf generalizing res with
 | nil => cases wG; exact .nil
 | cons f _ ih => cases wG with
  | cons r wG => exact .cons (Oa f (jD r)) (ih wG)
theorem Ll {T : CS} {ob : Nat -> Nat -> Ob} {res : List (List D)} {vs : List Value} {wi : List (List Value)} (hf : Z2 KC vs wi) (wG : Z2 (fun cs row => Z2 (Rd T w) cs row) wi res) :
  Xs T h ob w (zx res) (V7 vs) := by
 have hl := GS (h := h) (ob := ob) hf wG
 have h1 := hl.length
 match res, vs, hl, h1 with
 | [r], [v], hl, _ => cases hl with | cons x _ => exact x.up
 | [], [], hl, _ => exact ⟨_, rfl, by simpa using hl⟩
 | r :: r' :: rs, v :: v' :: vs, hl, _ => exact ⟨_, rfl, by simpa using hl⟩
 | [], v :: vs, _, h1 => simp at h1
 | [r], [], _, h1 => simp at h1
 | [r], v :: v' :: vs, _, h1 => simp at h1
 | r :: r' :: rs, [], _, h1 => simp at h1
 | r :: r' :: rs, [v], _, h1 => simp at h1
theorem PC {α β : Type} {R S : α -> β -> Prop} {l : List (List α)} {m : List (List β)} (uf : ∀ (a : α) (b : β) (row : List β), row ∈ m -> b ∈ row -> R a b -> S a b) (wG : Z2 (fun x y => Z2 R x y) l m) : Z2 (fun x y => Z2 S x y) l m := by
 induction wG with
 | nil => exact .nil
 | @cons x y _ _ tQ _ ih =>
  refine .cons ?_ (ih (fun a b row hr => uf a b row (by simp [hr])))
  have vw : ∀ b ∈ y, ∀ a, R a b -> S a b := fun b hb a hr => uf a b y (by simp) hb hr
  clear ih uf
  induction tQ with
  | nil => exact .nil
  | cons r _ pW => exact .cons (vw _ (by simp) _ r) (pW (fun b hb => vw b (by simp [hb])))
theorem qn (r : Rel T0 B σ a w X h) {o : Oper} {c : Call} {f : FuncId} {d : Nat} {own : Bool} {rows res : List (List D)} (wA : o.op = .call c) (hc : c.callee = .value (.func f)) (hd : o.dst = some d)
  (wI : Xg P σ c.args.toList c.argTypes.toList rows) (st : Bool) (wb : st = true -> YI P σ c.args.toList c.argTypes.toList = true) (ve : st = false -> Qn own res) (hs : Xm P f own rows res)
  {K : Act -> World -> Prop} {Q : Exit -> Act -> World -> Prop} (hK : ∀ a' w', QX T0 B (σ.put d (zx res)) a' w' -> Yw B w w' -> K a' w') : o.wp P a w K Q := by
 unfold Oper.wp
 rw [ju wA hc hs.1, Oper.upon_enter]
 refine (hs.2 (if st then Tof T0 X else Tk T0 X h σ) w _ (fun b k hb => ?_) (r.Xg st wI wb)).mono ?_
 ·cases st
  ·exact r.Ix hb
  ·exact r.Tlt hb
 ·rintro e w' ⟨vs, wi, Y, rfl, vt, hY, wo, uF, rX⟩
  have sX : ∀ b, (X b \/ (w.heap.size <= b /\ b < w'.heap.size)) -> X b \/ (w.heap.size <= b /\ b < w'.heap.size) := fun b hb => hb
  have r2 := r.grow (X' := fun b => X b \/ (w.heap.size <= b /\ b < w'.heap.size)) (Below.grownBy vt) (fun b hb => .inl hb) sX
  have uk : Z2 (fun cs row => Z2 (Rd (Tof T0 fun b => X b \/ (w.heap.size <= b /\ b < w'.heap.size)) w') cs row) wi res := by
   have vw : ∀ (i : Nat) (c : Value) (d : D), wi.flatten[i]? = some c -> res.flatten[i]? = some d -> own = true -> d.scalar = false -> ∀ b, blk c = some b -> w.heap.size <= b /\ b < w'.heap.size := by
    intro i c d h1 h2 ho vf b hb
    have := (rX ho).1 i c d b h1 h2 vf hb
    exact ⟨this.1, this.2.1⟩
   have conv : ∀ (c : Value) (d : D), (∀ b, own = true -> d.scalar = false -> blk c = some b -> w.heap.size <= b /\ b < w'.heap.size) -> (st = false -> if own = true then d.Ij else d.scalar = true) ->
     zf own (Tof (if st then Tof T0 X else Tk T0 X h σ) Y) w' c d -> Rd (Tof T0 fun b => X b \/ (w.heap.size <= b /\ b < w'.heap.size)) w' c d := by
    intro c d wc ri hr
    cases own with
    | true =>
     have vS : Qc (Tof (if st then Tof T0 X else Tk T0 X h σ) Y) w' c d := by simpa [zf] using hr
     cases st with
     | true =>
      refine Qc.rd vS (fun b k hb => ?_) (fun vf b k hb => .inr (.inr (wc b rfl vf hb)))
      rcases hb with hb | hb
      ·rcases (show Tof T0 X b k from by simpa using hb) with hb | hb
       ·exact .inl hb
       ·exact .inr (.inl hb)
      ·exact .inr (.inr (hY b hb))
     | false =>
      exact Qc.rd (Qc.flat (T' := fun _ _ => False) (by simpa using ri rfl) vS) (fun b k hb => hb.elim) (fun vf b k hb => .inr (.inr (wc b rfl vf hb)))
    | false =>
     have vS : Rd (Tof (if st then Tof T0 X else Tk T0 X h σ) Y) w' c d := by simpa [zf] using hr
     cases st with
     | true =>
      refine Rd.mono (fun b k v hb hc => ⟨hc, ?_⟩) vS
      rcases hb with hb | hb
      ·rcases (show Tof T0 X b k from by simpa using hb) with hb | hb
       ·exact .inl hb
       ·exact .inr (.inl hb)
      ·exact .inr (.inr (hY b hb))
     | false => exact Rd.scalar (by simpa using ri rfl) vS
   have go : ∀ (wi : List (List Value)) (res : List (List D)), Z2 (fun cs row => Z2 (zf own (Tof (if st then Tof T0 X else Tk T0 X h σ) Y) w') cs row) wi res ->
     (∀ (i : Nat) (c : Value) (d : D), wi.flatten[i]? = some c -> res.flatten[i]? = some d -> own = true -> d.scalar = false -> ∀ b, blk c = some b -> w.heap.size <= b /\ b < w'.heap.size) ->
     (st = false -> Qn own res) -> Z2 (fun cs row => Z2 (Rd (Tof T0 fun b => X b \/ (w.heap.size <= b /\ b < w'.heap.size)) w') cs row) wi res := by
    intro wi res wG
    induction wG with
    | nil => intro _ _; exact .nil
    | @cons cs row iK iL wh _ ih =>
     intro hm hf
     have hlen := wh.length
     refine .cons (Z2.Ku hlen (fun i c d hc wR => ?_)) (ih (fun i c d h1 h2 => ?_) (fun hs r hr => hf hs r (by simp [hr])))
     ·obtain ⟨d2, sQ, hr⟩ := wh.get i c hc
      rw [wR] at sQ; cases sQ
      refine conv c d (fun b ho vf hb => hm i c d ?_ ?_ ho vf b hb) (fun hs => hf hs row (by simp) d (List.mem_of_getElem? wR)) hr
      ·rw [List.flatten_cons, List.getElem?_append_left (List.getElem?_eq_some_iff.1 hc).1]; exact hc
      ·rw [List.flatten_cons, List.getElem?_append_left (List.getElem?_eq_some_iff.1 wR).1]; exact wR
     ·refine hm (cs.length + i) c d ?_ ?_
      ·rw [List.flatten_cons, List.getElem?_append_right (by omega)]; simpa using h1
      ·rw [List.flatten_cons, List.getElem?_append_right (by omega), hlen]; simpa using h2
   exact go wi res uF vw ve
  rw [hd]
  exact hK _ _ ⟨_, _, r2.put d _ _ (Ll wo uk)⟩ (Yw.Sh vt r.hB)
end
end Go.Vm
namespace Go.Vm
open Go.RowKit
section
variable {P : Program} {T0 : CS} {B : Nat -> Prop} {σ : St} {a : Act} {w w' : World} {X X' : Nat -> Prop} {h : Nat -> Nat -> Hd}
theorem Vo : ∀ (ds : List D) (k : Nat), YO (Kv ds) k = (match ds[k]? with | some (.sl size rows) => .arr false size rows | _ => .none)
 | [], k => by simp [Kv, YO]
 | d :: ds, 0 => by cases d <;> simp [Kv, YO]
 | d :: ds, k + 1 => by
  have := Vo ds k
  cases d <;> simpa [Kv, YO] using this
def qA (T : CS) (w : World) (v : Value) : D -> Prop
 | .sl size rows => ∃ e xs, w.ownsRow 0 e size v rows.length xs
 | d => Rd T w v d
theorem Qc.top {T : CS} {v : Value} {d : D} (r : Qc T w v d) : qA T w v d := by
 cases d with
 | sl size rows => obtain ⟨e, xs, ho, _⟩ := r; exact ⟨e, xs, ho⟩
 | int k n => exact r
 | bool b => exact r
 | str s => exact r
 | unk => exact r
theorem qA.Xa {T : CS} {v : Value} {d : D} (r : qA T w v d) : v.oneCell' = true := by
 cases d with
 | sl size rows => obtain ⟨e, xs, ho⟩ := r; exact Qe ho
 | int k n => exact Rd.Xa r
 | bool b => exact Rd.Xa r
 | str s => exact Rd.Xa r
 | unk => exact Rd.Xa r
theorem VZ {T : CS} {ob : Nat -> Nat -> Ob} {t : Nat} : ∀ {ds : List D} {cs : List Value} {k : Nat}, Z2 (qA T w) cs ds ->
  (∀ i size rows, ds[i]? = some (.sl size rows) -> ∃ q, ob t (k + i) = .arr q size rows) -> (∀ i c, cs[i]? = some c -> (h t (k + i)).v = c) -> Z2 (Z7 T h ob w) (Qz t k ds) cs
 | [], _, k, wG, _, _ => by cases wG; exact .nil
 | d :: ds, _, k, wG, ho, hh => by
  cases wG with
  | @cons c _ cs _ hc wG =>
   have ih := VZ (k := k + 1) wG (fun i size rows hi => by have := ho (i + 1) size rows (by simpa using hi); rw [show k + 1 + i = k + (i + 1) by omega]; exact this)
    (fun i c' wv => by have := hh (i + 1) c' (by simpa using wv); rw [show k + 1 + i = k + (i + 1) by omega]; exact this)
   cases d with
   | sl size rows =>
    obtain ⟨q0, h0⟩ := ho 0 size rows (by simp)
    have h1 := hh 0 c (by simp)
    rw [Nat.add_zero] at h0 h1
    refine .cons ⟨qA.Xa hc, fun q' wX wS wY => ?_, fun wX wS wY => by rw [h0] at wY; cases wY⟩ ih
    rw [h0] at wY; cases wY
    obtain ⟨e, xs, wJ⟩ := hc
    rw [h1]; exact jB wJ
   | int k' n => exact .cons hc ih
   | bool b => exact .cons hc ih
   | str s => exact .cons hc ih
   | unk => exact .cons hc ih
theorem FX {T : CS} {ob : Nat -> Nat -> Ob} {t : Nat} {vs : List Value} {wi : List (List Value)} (hf : Z2 KC vs wi) : ∀ {res : List (List D)} {k : Nat}, Z2 (fun cs row => Z2 (qA T w) cs row) wi res ->
  (∀ i size rows, res.flatten[i]? = some (.sl size rows) -> ∃ q, ob t (k + i) = .arr q size rows) -> (∀ i c, wi.flatten[i]? = some c -> (h t (k + i)).v = c) -> Z2 (JP T h ob w) (Lo t k res) vs := by
 induction hf with
 | nil => intro res k wG _ _; cases wG; exact .nil
 | @cons v cs eg iK f _ ih =>
  intro res k wG ho hh
  cases wG with
  | @cons _ row _ iL r wG =>
   have hlen := r.length
   refine .cons (Oa f (VZ r (fun i size rows hi => ho i size rows ?_) (fun i c hc => hh i c ?_))) (ih wG (fun i size rows hi => ?_) (fun i c hc => ?_))
   ·rw [List.flatten_cons, List.getElem?_append_left (List.getElem?_eq_some_iff.1 hi).1]; exact hi
   ·rw [List.flatten_cons, List.getElem?_append_left (List.getElem?_eq_some_iff.1 hc).1]; exact hc
   ·have := ho (row.length + i) size rows (by rw [List.flatten_cons, List.getElem?_append_right (by omega)]; simpa using hi)
    rw [Nat.add_assoc]; exact this
   ·have := hh (row.length + i) c (by rw [List.flatten_cons, List.getElem?_append_right (by omega), <- hlen]; simpa using hc)
    rw [Nat.add_assoc]; exact this
theorem NV {T : CS} {ob : Nat -> Nat -> Ob} {t : Nat} {vs : List Value} {wi : List (List Value)} {res : List (List D)} (hf : Z2 KC vs wi) (wG : Z2 (fun cs row => Z2 (qA T w) cs row) wi res)
  (ho : ∀ i size rows, res.flatten[i]? = some (.sl size rows) -> ∃ q, ob t i = .arr q size rows) (hh : ∀ i c, wi.flatten[i]? = some c -> (h t i).v = c) : Xs T h ob w (yh t res) (V7 vs) := by
 have hl := FX (k := 0) hf wG (by simpa using ho) (by simpa using hh)
 have h1 : res.length = vs.length := by rw [hf.length, wG.length]
 match res, vs, hl, h1 with
 | [r], [v], hl, _ => cases hl with | cons x _ => exact x.up
 | [], [], hl, _ => exact ⟨_, rfl, by simpa using hl⟩
 | r :: r' :: rs, v :: v' :: vs, hl, _ => exact ⟨_, rfl, by simpa using hl⟩
 | [], v :: vs, _, h1 => simp at h1
 | [r], [], _, h1 => simp at h1
 | [r], v :: v' :: vs, _, h1 => simp at h1
 | r :: r' :: rs, [], _, h1 => simp at h1
 | r :: r' :: rs, [v], _, h1 => simp at h1
theorem zb {α β : Type} {R : α -> β -> Prop} {l : List (List α)} {m : List (List β)} (wG : Z2 (fun x y => Z2 R x y) l m) : Z2 R l.flatten m.flatten := by
 induction wG with
 | nil => exact .nil
 | cons r _ ih => rw [List.flatten_cons, List.flatten_cons]; exact r.append ih
theorem Tf (r : Rel T0 B σ a w X h) {o : Oper} {c : Call} {f : FuncId} {d : Nat} {rows res : List (List D)} (wA : o.op = .call c) (hc : c.callee = .value (.func f)) (hd : o.dst = some d) (w8 : σ.fresh d = true)
  (wI : Xg P σ c.args.toList c.argTypes.toList rows) (st : Bool) (wb : st = true -> YI P σ c.args.toList c.argTypes.toList = true) (ve : st = false -> Qn true res) (hs : Xm P f true rows res)
  {K : Act -> World -> Prop} {Q : Exit -> Act -> World -> Prop} (hK : ∀ a' w', QX T0 B (σ.new d (yh d res) (Kv res.flatten)) a' w' -> Yw B w w' -> K a' w') : o.wp P a w K Q := by
 have wO := St.JT w8
 unfold Oper.wp
 rw [ju wA hc hs.1, Oper.upon_enter]
 refine (hs.2 (if st then Tof T0 X else Tk T0 X h σ) w _ (fun b k hb => ?_) (r.Xg st wI wb)).mono ?_
 ·cases st
  ·exact r.Ix hb
  ·exact r.Tlt hb
 ·rintro e w' ⟨vs, wi, Y, rfl, vt, hY, wo, uF, rX⟩
  have rX := rX rfl
  have uk : Z2 (fun cs row => Z2 (Qc (Tof T0 fun b => X b \/ Y b) w') cs row) wi res := by
   refine PC (fun c d row wh hdr hr => ?_) uF
   have vS : Qc (Tof (if st then Tof T0 X else Tk T0 X h σ) Y) w' c d := by simpa [zf] using hr
   cases st with
   | true =>
    have hT : ∀ b k, Tof (if true = true then Tof T0 X else Tk T0 X h σ) Y b k -> Tof T0 (fun b => X b \/ Y b) b k := by
     intro b k hb
     rcases hb with hb | hb
     ·rcases (show Tof T0 X b k from by simpa using hb) with hb | hb
      ·exact .inl hb
      ·exact .inr (.inl hb)
     ·exact .inr (.inr hb)
    cases d with
    | sl size rows =>
     obtain ⟨e, xs, ho, hz, wG⟩ := vS
     exact ⟨e, xs, ho, hz, wG.imp fun _ _ => Rd.mono (fun b k v hb hc => ⟨hc, hT b k hb⟩)⟩
    | int k n => exact Rd.scalar rfl vS
    | bool b => exact Rd.scalar rfl vS
    | str s => exact Rd.scalar rfl vS
    | unk => exact Rd.scalar rfl vS
   | false => exact Qc.flat (by simpa using ve rfl row wh d hdr) vS
  have v5 := zb uk
  rw [hd]
  refine hK _ _ ⟨fun b => X b \/ Y b, fun t j => if t = d then Hd.of ((wi.flatten[j]?).getD undef) else h t j, ?_⟩ (Yw.Sh vt r.hB)
  have wM : ∀ (j size : Nat) (rows : List (List D)), res.flatten[j]? = some (D.sl size rows) -> ∃ c, wi.flatten[j]? = some c /\ Qc (Tof T0 fun b => X b \/ Y b) w' c (D.sl size rows) := fun j size rows hj => v5.get' j _ hj
  have wV : ∀ j, (σ.new d (yh d res) (Kv res.flatten)).ob d j = YO (Kv res.flatten) j := fun j => by rw [St.QE]; simp [wO]
  have og : ∀ j, YO (Kv res.flatten) j ≠ .none -> ∃ size rows, res.flatten[j]? = some (D.sl size rows) := by
   intro j wE
   rw [Vo] at wE
   split at wE
   ·rename_i size rows hj; exact ⟨size, rows, hj⟩
   ·exact absurd rfl wE
  refine r.new w8 (Below.grownBy vt) (fun b hb => .inl hb) (fun b hb => hb.imp id (fun hy => hY b hy)) (yh d res) (V7 vs) (Kv res.flatten) (fun j => Hd.of ((wi.flatten[j]?).getD undef)) ?_ (fun j => ?_) (fun j b _ hb => hb) (fun j b wE hb => ?_) (fun j j' b wE w6 hb wU => ?_)
  ·refine NV wo (PC (fun _ _ _ _ _ hr => Qc.top hr) uk) (fun i size rows hi => ⟨false, ?_⟩) (fun i c hi => by simp [hi, Hd.of])
   rw [wV, Vo, hi]
  ·rw [Vo]
   split
   ·rename_i size rows hj
    obtain ⟨c, wv, wJ⟩ := wM j size rows hj
    obtain ⟨e, xs, ho, hz, wG⟩ := wJ
    exact ⟨e, xs, by rw [wv]; exact ho, hz, wG⟩
   ·trivial
  ·obtain ⟨size, rows, hj⟩ := og j wE
   obtain ⟨c, wv, _⟩ := wM j size rows hj
   have wU : blk c = some b := by simpa [Hd.of, wv] using hb
   have := rX.1 j c _ b wv hj rfl wU
   refine ⟨this.1, ?_, this.2.1⟩
   rintro (hx | hy)
   ·have := r.hX b hx; omega
   ·exact this.2.2 hy
  ·obtain ⟨size, rows, hj⟩ := og j wE
   obtain ⟨wX, wS, uu⟩ := og j' w6
   obtain ⟨c, wv, _⟩ := wM j size rows hj
   obtain ⟨c2, sY, _⟩ := wM j' wX wS uu
   exact rX.2 j j' c c2 _ _ b wv hj sY uu rfl rfl (by simpa [Hd.of, wv] using hb) (by simpa [Hd.of, sY] using wU)
end
end Go.Vm
namespace Go.Vm
open Go.RowKit
section
variable {P : Program} {T0 : CS} {B : Nat -> Prop} {σ : St} {a : Act} {w w' : World} {X X' : Nat -> Prop} {h : Nat -> Nat -> Hd}
theorem Yw.Wy {B : Nat -> Prop} (hg : w.grownBy w' none) (hB : ∀ b, B b -> b < w.heap.size) : Yw B w w' := ⟨hg.os, hg.tape, hg.output, hg.size, fun k hk => hg.block k (hB k hk) (by simp)⟩
theorem Rel.Eh (r : Rel T0 B σ a w X h) {d : Nat} (hf : σ.fresh d = true) (cs : Array Value) (T : TypeId) (xs : List At) (hx : YG d xs = false) (wG : Z2 (Z7 (Tof T0 X) h σ.ob w) xs cs.toList) :
  QX T0 B (σ.new d (.one (.bptr d 0)) [.box xs]) (a.put (some d) (.pointer (some ⟨w.heap.size, 0, none⟩))) (w.alloc (.cells cs T)) /\ Yw B w (w.alloc (.cells cs T)) := by
 have hg := World.grownBy_alloc w (.cells cs T) none
 have wO := St.JT hf
 have hT : ∀ b k v, Tof T0 X b k -> w.cell? ⟨b, k, none⟩ = some v -> (w.alloc (.cells cs T)).cell? ⟨b, k, none⟩ = some v /\ Tof T0 X b k := by
  intro b k v hb wM
  refine ⟨?_, hb⟩
  rw [World.cell?_of_block (hg.block b (r.Tlt hb) (by simp))]; exact wM
 refine ⟨⟨X, fun t j => if t = d then Hd.of (.pointer (some ⟨w.heap.size, 0, none⟩)) else h t j, ?_⟩, Yw.Wy hg r.hB⟩
 have vA : (σ.new d (.one (.bptr d 0)) [.box xs]).ob d 0 = .box xs := by rw [St.QE]; simp [wO, YO]
 have hc : ∀ t j, t ≠ d -> Cpt h (fun t j => if t = d then Hd.of (.pointer (some ⟨w.heap.size, 0, none⟩)) else h t j) σ.ob (σ.new d (.one (.bptr d 0)) [.box xs]).ob t j := by
  intro t j wE
  have he : (σ.new d (.one (.bptr d 0)) [.box xs]).ob t j = σ.ob t j := by rw [St.QE, if_neg (fun hh => wE hh.1)]
  exact Cpt.same (by simp [wE]) he
 refine r.new hf hg (fun _ hb => hb) (fun _ hb => .inl hb) _ _ [.box xs] (fun _ => Hd.of (.pointer (some ⟨w.heap.size, 0, none⟩))) ?_ (fun j => ?_) (fun j b _ hb => hb) (fun j b _ hb => ?_) (fun j j' b wE w6 _ _ => ?_)
 ·exact ⟨rfl, fun cells _ => ⟨w.heap.size, by simp [Hd.of], rfl⟩⟩
 ·cases j with
  | zero =>
   refine ⟨w.heap.size, cs, T, rfl, ?_, jG hT hc hx wG⟩
   exact heap_alloc_new w _
  | succ j => simp [YO, QP]
 ·simp [Hd.of, blk] at hb; subst hb
  refine ⟨Nat.le_refl _, fun tb => ?_, by simp⟩
  have := (r.hX _ tb).2; omega
 ·have : ∀ j, YO [Ob.box xs] j ≠ .none -> j = 0 := by
   intro j hj
   cases j with
   | zero => rfl
   | succ j => simp [YO] at hj
  rw [this j wE, this j' w6]
theorem Rel.Ek (r : Rel T0 B σ a w X h) {d : Nat} (hf : σ.fresh d = true) (hg : w.grownBy w' none) (v : Value) {size : Nat} {rows : List (List D)}
  (ho : Qc (Tof T0 X) w' v (.sl size rows)) (hb : ∀ b, blk v = some b -> w.heap.size <= b /\ b < w'.heap.size) :
  QX T0 B (σ.new d (.one (.sref d 0 0 rows.length)) [.arr false size rows]) (a.put (some d) v) w' /\ Yw B w w' := by
 have wO := St.JT hf
 refine ⟨⟨X, fun t j => if t = d then Hd.of v else h t j, ?_⟩, Yw.Wy hg r.hB⟩
 have vA : (σ.new d (.one (.sref d 0 0 rows.length)) [.arr false size rows]).ob d 0 = .arr false size rows := by rw [St.QE]; simp [wO, YO]
 obtain ⟨e, xs, wJ, hz, wG⟩ := ho
 refine r.new hf hg (fun _ hb => hb) (fun _ hb => .inl hb) _ _ [.arr false size rows] (fun _ => Hd.of v) ?_ (fun j => ?_) (fun j b _ hb => hb) (fun j b _ wU => ?_) (fun j j' b wE w6 _ _ => ?_)
 ·refine ⟨Qe wJ, fun q' wX wS wY => ?_, fun wX wS wY => by rw [vA] at wY; cases wY⟩
  rw [vA] at wY; cases wY
  simp only [if_true]
  exact jB wJ
 ·cases j with
  | zero => exact ⟨e, xs, wJ, hz, wG⟩
  | succ j => simp [YO, QP]
 ·have := hb b wU
  refine ⟨this.1, fun tb => ?_, this.2⟩
  have := (r.hX _ tb).2; omega
 ·have : ∀ j, YO [Ob.arr false size rows] j ≠ .none -> j = 0 := by
   intro j hj
   cases j with
   | zero => rfl
   | succ j => simp [YO] at hj
  rw [this j wE, this j' w6]
theorem Rel.DQ (r : Rel T0 B σ a w X h) {d : Nat} (hf : σ.fresh d = true) (hg : w.grownBy w' none) (v : Value) {e : TypeId} {size : Nat} {rows : List (List D)} {xs : List Value}
  (wJ : w'.ownsRow 0 e size v rows.length xs) (hz : ∀ r ∈ rows, r.length = size) (wG : Qt w' xs rows.flatten (fun _ => False)) (hb : ∀ b, blk v = some b -> w.heap.size <= b /\ b < w'.heap.size) :
  QX T0 B (σ.new d (.one (.sref d 0 0 rows.length)) [.arr true size rows]) (a.put (some d) v) w' /\ Yw B w w' := by
 have wO := St.JT hf
 refine ⟨⟨X, fun t j => if t = d then ⟨v, fun k => (xs[k]?).getD undef, fun b => blk v = some b⟩ else h t j, ?_⟩, Yw.Wy hg r.hB⟩
 have vA : (σ.new d (.one (.sref d 0 0 rows.length)) [.arr true size rows]).ob d 0 = .arr true size rows := by rw [St.QE]; simp [wO, YO]
 refine r.new hf hg (fun _ hb => hb) (fun _ hb => .inl hb) _ _ [.arr true size rows] (fun _ => ⟨v, fun k => (xs[k]?).getD undef, fun b => blk v = some b⟩) ?_ (fun j => ?_) (fun j b _ hb => hb) (fun j b _ wU => ?_) (fun j j' b wE w6 _ _ => ?_)
 ·refine ⟨Qe wJ, fun q' wX wS wY => ?_, fun wX wS wY => by rw [vA] at wY; cases wY⟩
  rw [vA] at wY; cases wY
  simp only [if_true]
  exact jB wJ
 ·cases j with
  | zero =>
   obtain ⟨hl, Sk, h1, h2, h3⟩ := wG
   exact ⟨e, xs, wJ, hz, ⟨hl, Sk, h1, fun k b hk => (h2 k b hk).elim, h3⟩, fun k x d hx _ _ => by simp [hx]⟩
  | succ j => simp [YO, QP]
 ·have := hb b wU
  refine ⟨this.1, fun tb => ?_, this.2⟩
  have := (r.hX _ tb).2; omega
 ·have : ∀ j, YO [Ob.arr true size rows] j ≠ .none -> j = 0 := by
   intro j hj
   cases j with
   | zero => rfl
   | succ j => simp [YO] at hj
  rw [this j wE, this j' w6]
theorem HI (r : Rel T0 B σ a w X h) {o : Oper} {T : TypeId} {d : Nat} {row : List At} (wA : o.op = .alloc T) (hd : o.dst = some d) (hf : σ.fresh d = true) (hz : Xy P T = true) (ud : qF P 12 T = some row) (wh : YG d row = false)
  {K : Act -> World -> Prop} {Q : Exit -> Act -> World -> Prop} (hK : ∀ a' w', QX T0 B (σ.new d (.one (.bptr d 0)) [.box row]) a' w' -> Yw B w w' -> K a' w') : o.wp P a w K Q := by
 obtain ⟨i, z, hi, iI, vV, wG⟩ := MA hz ud
 have wW : (execOp a.eval o).run P w = .ok (.value (.pointer (some ⟨w.heap.size, 0, none⟩))) (w.alloc (.cells z.cells T)) := by
  simp [execOp, wA, Instr.alloc, zeroValue, typeInfo, hi, iI, newVar, newRow]
 unfold Oper.wp
 rw [wW, Oper.upon_value, hd]
 have := r.Eh hf z.cells T row wh (wG _ _ _ _)
 exact hK _ _ this.1 this.2
theorem Fh (r : Rel T0 B σ a w X h) {o : Oper} {T : TypeId} {x : Operand} {d : Nat} (wA : o.op = .box T x) (hd : o.dst = some d) (hf : σ.fresh d = true) (hg : gOf (look P σ T x) = true) (ve : (unc (look P σ T x)).flat = true) (wh : YG d (unc (look P σ T x)).cells = false)
  {K : Act -> World -> Prop} {Q : Exit -> Act -> World -> Prop} (hK : ∀ a' w', QX T0 B (σ.new d (.one (.bptr d 0)) [.box (unc (look P σ T x)).cells]) a' w' -> Yw B w w' -> K a' w') : o.wp P a w K Q := by
 have wG := qH ve (r.arg (P := P) T x rfl hg)
 have wW : (execOp a.eval o).run P w = .ok (.value (.pointer (some ⟨w.heap.size, 0, none⟩))) (w.alloc (.cells (a.eval x).cells T)) := by
  simp [execOp, wA, Instr.box, newVar, newRow]
 unfold Oper.wp
 rw [wW, Oper.upon_value, hd]
 have := r.Eh hf (a.eval x).cells T _ wh wG
 exact hK _ _ this.1 this.2
end
end Go.Vm
