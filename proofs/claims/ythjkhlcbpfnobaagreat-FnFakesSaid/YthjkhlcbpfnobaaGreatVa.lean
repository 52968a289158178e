/- An abstract machine Oe the model of Go, by value, and that it is sound: part Va. No condition. -/
import Derived.WalkKit
import Derived.Below
set_option linter.unusedVariables false
set_option linter.unusedSimpArgs false
namespace Go.Vm
inductive D where
 | int (k : IntKind) (n : Int)
 | bool (b : Bool)
 | str (s : ByteArray)
 | sl (size : Nat) (rows : List (List D))
 | unk
 deriving Inhabited
def D.scalar : D -> Bool
 | .sl _ _ => false
 | _ => true
abbrev CS := Nat -> Nat -> Prop
inductive Rd (T : CS) (w : World) : Value -> D -> Prop
 | int (k : IntKind) (n : Int) : Rd T w (.int k n) (.int k n)
 | bool (b : Bool) : Rd T w (.bool b) (.bool b)
 | str (s : ByteArray) : Rd T w (.string s) (.str s)
 | unk (v : Value) (h : v.oneCell' = true) : Rd T w v .unk
 | nil (size : Nat) : Rd T w (.slice none 0 0) (.sl size [])
 | sl (a : Addr) (len cap size : Nat) (rows : List (List D)) (g : Nat -> Value)
   (hl : rows.length = len) (hc : len <= cap) (hm : cap <= maxLen) (hz : ∀ r ∈ rows, r.length = size) (hs : rows.flatten ≠ [] -> a.spot = none)
   (hg : ∀ k d, rows.flatten[k]? = some d -> w.cell? ⟨a.block, a.off + k, none⟩ = some (g k) /\ T a.block (a.off + k))
   (hr : ∀ k d, rows.flatten[k]? = some d -> Rd T w (g k) d) : Rd T w (.slice (some a) len cap) (.sl size rows)
theorem Rd.mono {T T' : CS} {w w' : World} (hT : ∀ b k v, T b k -> w.cell? ⟨b, k, none⟩ = some v -> w'.cell? ⟨b, k, none⟩ = some v /\ T' b k)
  {v : Value} {d : D} (h : Rd T w v d) : Rd T' w' v d := by
 induction h with
 | int k n => exact .int k n
 | bool b => exact .bool b
 | str s => exact .str s
 | unk v h => exact .unk v h
 | nil s => exact .nil s
 | sl a len cap size rows g hl hc hm hz hs hg hr ih =>
  exact .sl a len cap size rows g hl hc hm hz hs (fun k d hk => hT _ _ _ (hg k d hk).2 (hg k d hk).1) (fun k d hk => ih k d hk)
theorem Rd.QN {T : CS} {w : World} {v : Value} {d : D} (h : Rd T w v d) : v.oneCell' = true := by
 cases h <;> first | rfl | assumption
inductive At where
 | any
 | d (x : D)
 | nil (size : Nat)
 | sref (t j lo len : Nat)
 | ptr (t j i c : Nat)
 | bptr (t c : Nat)
 | fn (f t : Nat)
 | rptr (r : List D) (c : Nat)
 | tref (t j i c : Nat) (o : Option Nat)
 deriving Inhabited
inductive V where
 | any
 | one (x : At)
 | agg (xs : List At)
 | tup (xs : List V)
 | cnd (g : Bool) (x : V)
 | fix (v : Value) (x : V)
 deriving Inhabited
inductive Ob where
 | none
 | box (cells : List At)
 | arr (q : Bool) (size : Nat) (rows : List (List D))
 | lit (size : Nat) (rows : List (List At))
 deriving Inhabited
structure Hd where
 v : Value
 n : Nat -> Value
 u : Nat -> Prop
abbrev Ent := V × List Ob
abbrev St := List Ent
def St.get (σ : St) (t : Nat) : V := match σ[t]? with | some e => e.1 | none => .any
def Yo (os : List Ob) (j : Nat) : Ob := match os[j]? with | some o => o | none => .none
def St.ob (σ : St) (t j : Nat) : Ob := match σ[t]? with | some e => Yo e.2 j | none => .none
def St.put : St -> Nat -> V -> St
 | [], _, _ => []
 | e :: σ, 0, v => (v, e.2) :: σ
 | e :: σ, t + 1, v => e :: St.put σ t v
def St.YC : St -> Nat -> Nat -> Ob -> St
 | [], _, _, _ => []
 | e :: σ, 0, j, o => (e.1, e.2.set j o) :: σ
 | e :: σ, t + 1, j, o => e :: St.YC σ t j o
def St.new : St -> Nat -> V -> List Ob -> St
 | [], _, _, _ => []
 | _ :: σ, 0, v, os => (v, os) :: σ
 | e :: σ, t + 1, v, os => e :: St.new σ t v os
theorem St.Q0 (σ : St) (t : Nat) (v : V) : (σ.put t v).length = σ.length := by
 induction σ generalizing t with
 | nil => rfl
 | cons e σ ih => cases t <;> simp [St.put, ih]
theorem St.Xa (σ : St) (t j : Nat) (o : Ob) : (σ.YC t j o).length = σ.length := by
 induction σ generalizing t with
 | nil => rfl
 | cons e σ ih => cases t <;> simp [St.YC, ih]
theorem St.kE (σ : St) (t : Nat) (v : V) (os : List Ob) : (σ.new t v os).length = σ.length := by
 induction σ generalizing t with
 | nil => rfl
 | cons e σ ih => cases t <;> simp [St.new, ih]
theorem St.K4 (σ : St) (t : Nat) (v : V) (u : Nat) : (σ.put t v).get u = if u = t /\ t < σ.length then v else σ.get u := by
 induction σ generalizing t u with
 | nil => simp [St.put, St.get]
 | cons e σ ih =>
  cases t with
  | zero => cases u <;> simp [St.put, St.get]
  | succ t => cases u with
   | zero => simp [St.put, St.get]
   | succ u => have := ih t u; simp only [St.get, St.put] at this ⊢; simpa using this
theorem St.Q7 (σ : St) (t : Nat) (v : V) : (σ.put t v).ob = σ.ob := by
 funext u j
 induction σ generalizing t u with
 | nil => simp [St.put, St.ob]
 | cons e σ ih =>
  cases t with
  | zero => cases u <;> simp [St.put, St.ob]
  | succ t => cases u with
   | zero => simp [St.put, St.ob]
   | succ u => have := ih t u; simp only [St.ob, St.put] at this ⊢; simpa using this
theorem St.QL (σ : St) (t j : Nat) (o : Ob) (u : Nat) : (σ.YC t j o).get u = σ.get u := by
 induction σ generalizing t u with
 | nil => simp [St.YC, St.get]
 | cons e σ ih =>
  cases t with
  | zero => cases u <;> simp [St.YC, St.get]
  | succ t => cases u with
   | zero => simp [St.YC, St.get]
   | succ u => have := ih t u; simp only [St.get, St.YC] at this ⊢; simpa using this
theorem Dw (os : List Ob) (j : Nat) (o : Ob) (i : Nat) : Yo (os.set j o) i = if i = j /\ j < os.length then o else Yo os i := by
 unfold Yo
 rw [List.getElem?_set]
 by_cases h : j = i
 ·subst h
  by_cases h2 : j < os.length
  ·simp [h2]
  ·simp [h2]
 ·simp [h, Ne.symm h]
theorem St.JC (σ : St) (t j : Nat) (o : Ob) (u i : Nat) (hl : σ.ob t j ≠ .none) : (σ.YC t j o).ob u i = if u = t /\ i = j then o else σ.ob u i := by
 induction σ generalizing t u with
 | nil => simp [St.ob] at hl
 | cons e σ ih =>
  cases t with
  | zero =>
   have hj : j < e.2.length := by
    simp only [St.ob, List.getElem?_cons_zero, Yo] at hl
    rcases Nat.lt_or_ge j e.2.length with h | h
    ·exact h
    ·simp [List.getElem?_eq_none h] at hl
   cases u with
   | zero => simp [St.YC, St.ob, Dw, hj]
   | succ u => simp [St.YC, St.ob]
  | succ t => cases u with
   | zero => simp [St.YC, St.ob]
   | succ u =>
    have := ih t u (by simpa [St.ob] using hl)
    simp only [St.ob, St.YC] at this ⊢; simpa using this
theorem St.Wi (σ : St) (t : Nat) (v : V) (os : List Ob) (u : Nat) : (σ.new t v os).get u = if u = t /\ t < σ.length then v else σ.get u := by
 induction σ generalizing t u with
 | nil => simp [St.new, St.get]
 | cons e σ ih =>
  cases t with
  | zero => cases u <;> simp [St.new, St.get]
  | succ t => cases u with
   | zero => simp [St.new, St.get]
   | succ u => have := ih t u; simp only [St.get, St.new] at this ⊢; simpa using this
theorem St.Jx (σ : St) (t : Nat) (v : V) (os : List Ob) (u j : Nat) : (σ.new t v os).ob u j = if u = t /\ t < σ.length then Yo os j else σ.ob u j := by
 induction σ generalizing t u with
 | nil => simp [St.new, St.ob]
 | cons e σ ih =>
  cases t with
  | zero => cases u <;> simp [St.new, St.ob]
  | succ t => cases u with
   | zero => simp [St.new, St.ob]
   | succ u => have := ih t u; simp only [St.ob, St.new] at this ⊢; simpa using this
def CU (h : Value) (len : Nat) : Value := match h with | .slice b _ c => .slice b len c | v => v
def wk (h : Value) (size n lo len : Nat) (v : Value) : Prop :=
 lo + len <= n /\ (len = n -> lo = 0 -> v = h) /\ (lo = 0 -> v = CU h len) /\ ∃ base cap, v = .slice base len cap /\ len <= cap /\ cap <= maxLen /\ (base = none -> cap = 0) /\ (0 < len -> ∃ b lb, h = .slice (some ⟨b, 0, none⟩) n lb /\ base = some ⟨b, lo * size, none⟩)
def s6 : Option Nat -> Value -> Value -> Prop
 | none, x, v => v = x
 | some k, x, v => ∃ b n cap, x = .slice (some ⟨b, 0, none⟩) n cap /\ v = .pointer (some ⟨b, k, none⟩)
def YO (T : CS) (h : Nat -> Nat -> Hd) (ob : Nat -> Nat -> Ob) (w : World) : At -> Value -> Prop
 | .any, v => v.oneCell' = true
 | .d x, v => Rd T w v x
 | .nil _, v => v = .slice none 0 0
 | .sref t j lo len, v => v.oneCell' = true /\ (∀ q size rows, ob t j = .arr q size rows -> wk (h t j).v size rows.length lo len v) /\ (∀ size rows, ob t j = .lit size rows -> wk (h t j).v size rows.length lo len v)
 | .ptr t j i c, v => v.oneCell' = true /\ (∀ q size rows, ob t j = .arr q size rows -> ∃ b n cap, (h t j).v = .slice (some ⟨b, 0, none⟩) n cap /\ v = .pointer (some ⟨b, i * size + c, none⟩))
 | .bptr t c, v => v.oneCell' = true /\ ∀ cells, ob t 0 = .box cells -> ∃ b, (h t 0).v = .pointer (some ⟨b, 0, none⟩) /\ v = .pointer (some ⟨b, c, none⟩)
 | .fn f t, v => v.oneCell' = true /\ ∀ cells, ob t 0 = .box cells -> ∃ b, (h t 0).v = .pointer (some ⟨b, 0, none⟩) /\ v = .func (.func f) #[] #[.pointer (some ⟨b, 0, none⟩)]
 | .rptr r c, v => ∃ b off, ∃ g : Nat -> Value, v = .pointer (some ⟨b, off + c, none⟩) /\ ∀ k d, r[k]? = some d -> w.cell? ⟨b, off + k, none⟩ = some (g k) /\ T b (off + k) /\ Rd T w (g k) d
 | .tref t j i c o, v => v.oneCell' = true /\ ∀ size rows, ob t j = .arr true size rows -> s6 o ((h t j).n (i * size + c)) v
theorem YO.QN {T : CS} {h : Nat -> Nat -> Hd} {ob : Nat -> Nat -> Ob} {w : World} {x : At} {v : Value} (r : YO T h ob w x v) : v.oneCell' = true := by
 cases x with
 | any => exact r
 | d x => exact Rd.QN r
 | nil s => cases r; rfl
 | sref => exact r.1
 | ptr => exact r.1
 | bptr => exact r.1
 | fn => exact r.1
 | tref => exact r.1
 | rptr r' c => obtain ⟨b, off, g, rfl, _⟩ := r; rfl
inductive YB {α β : Type} (R : α -> β -> Prop) : List α -> List β -> Prop
 | nil : YB R [] []
 | cons {a b l m} : R a b -> YB R l m -> YB R (a :: l) (b :: m)
theorem YB.imp {α β : Type} {R S : α -> β -> Prop} (h : ∀ a b, R a b -> S a b) {l : List α} {m : List β} (x : YB R l m) : YB S l m := by
 induction x with
 | nil => exact .nil
 | cons r _ ih => exact .cons (h _ _ r) ih
theorem YB.length {α β : Type} {R : α -> β -> Prop} {l : List α} {m : List β} (x : YB R l m) : l.length = m.length := by
 induction x with
 | nil => rfl
 | cons r _ ih => simp [ih]
theorem YB.get {α β : Type} {R : α -> β -> Prop} {l : List α} {m : List β} (x : YB R l m) : ∀ (i : Nat) (a : α), l[i]? = some a -> ∃ b, m[i]? = some b /\ R a b := by
 induction x with
 | nil => intro i a h; simp at h
 | cons r _ ih =>
  intro i a h
  cases i with
  | zero => simp at h; subst h; exact ⟨_, by simp, r⟩
  | succ i => simpa using ih i a (by simpa using h)
theorem YB.get' {α β : Type} {R : α -> β -> Prop} {l : List α} {m : List β} (x : YB R l m) : ∀ (i : Nat) (b : β), m[i]? = some b -> ∃ a, l[i]? = some a /\ R a b := by
 induction x with
 | nil => intro i a h; simp at h
 | cons r _ ih =>
  intro i a h
  cases i with
  | zero => simp at h; subst h; exact ⟨_, by simp, r⟩
  | succ i => simpa using ih i a (by simpa using h)
theorem YB.xC {α β : Type} {R : α -> β -> Prop} {l : List α} {m : List β} (hl : l.length = m.length) (h : ∀ (i : Nat) (a : α) (b : β), l[i]? = some a -> m[i]? = some b -> R a b) : YB R l m := by
 induction l generalizing m with
 | nil => cases m with
  | nil => exact .nil
  | cons b m => simp at hl
 | cons a l ih => cases m with
  | nil => simp at hl
  | cons b m => exact .cons (h 0 a b (by simp) (by simp)) (ih (by simpa using hl) (fun i a b ha hb => h (i + 1) a b (by simpa using ha) (by simpa using hb)))
theorem YB.append {α β : Type} {R : α -> β -> Prop} {l l' : List α} {m m' : List β} (x : YB R l m) (y : YB R l' m') : YB R (l ++ l') (m ++ m') := by
 induction x with
 | nil => exact y
 | cons r _ ih => exact .cons r ih
theorem YB.take {α β : Type} {R : α -> β -> Prop} {l : List α} {m : List β} (x : YB R l m) (n : Nat) : YB R (l.take n) (m.take n) := by
 induction x generalizing n with
 | nil => simpa using YB.nil
 | cons r _ ih => cases n with
  | zero => simpa using YB.nil
  | succ n => simpa using YB.cons r (ih n)
theorem YB.drop {α β : Type} {R : α -> β -> Prop} {l : List α} {m : List β} (x : YB R l m) (n : Nat) : YB R (l.drop n) (m.drop n) := by
 induction x generalizing n with
 | nil => simpa using YB.nil
 | cons r x ih => cases n with
  | zero => simpa using YB.cons r x
  | succ n => simpa using ih n
theorem YB.set {α β : Type} {R : α -> β -> Prop} {l : List α} {m : List β} (x : YB R l m) (i : Nat) {a : α} {b : β} (r : R a b) : YB R (l.set i a) (m.set i b) := by
 induction x generalizing i with
 | nil => simpa using YB.nil
 | cons r' x ih => cases i with
  | zero => simpa using YB.cons r x
  | succ i => simpa using YB.cons r' (ih i)
theorem YB.mem {α β : Type} {R : α -> β -> Prop} {l : List α} {m : List β} (x : YB R l m) {b : β} (h : b ∈ m) : ∃ a, a ∈ l /\ R a b := by
 obtain ⟨i, hi⟩ := List.mem_iff_getElem?.1 h
 obtain ⟨a, ha, r⟩ := x.get' i b hi
 exact ⟨a, List.mem_of_getElem? ha, r⟩
def Kp (T : CS) (h : Nat -> Nat -> Hd) (ob : Nat -> Nat -> Ob) (w : World) : V -> Value -> Prop
 | .any, _ => True
 | .one x, v => YO T h ob w x v
 | .agg xs, v => ∃ cs : Array Value, v = .agg cs /\ YB (YO T h ob w) xs cs.toList
 | .tup _, _ => False
 | .cnd _ _, _ => False
 | .fix _ _, _ => False
def Qy (T : CS) (h : Nat -> Nat -> Hd) (ob : Nat -> Nat -> Ob) (w : World) : V -> Value -> Prop
 | .tup xs, v => ∃ vs : Array Value, v = .tuple vs /\ YB (Kp T h ob w) xs vs.toList
 | .cnd g x, v => (g = true -> Kp T h ob w x v) /\ (g = false -> v = undef)
 | .any, _ => True
 | .one x, v => YO T h ob w x v
 | .agg xs, v => Kp T h ob w (.agg xs) v
 | .fix u x, v => v = u /\ Kp T h ob w x v
theorem Kp.up {T : CS} {h : Nat -> Nat -> Hd} {ob : Nat -> Nat -> Ob} {w : World} {x : V} {v : Value} (r : Kp T h ob w x v) : Qy T h ob w x v := by
 cases x <;> first | exact r | exact r.elim
def blk : Value -> Option Nat
 | .slice (some a) _ _ => some a.block
 | .pointer (some a) => some a.block
 | _ => none
def Hd.of (v : Value) : Hd := ⟨v, fun _ => undef, fun b => blk v = some b⟩
inductive Own (w : World) : Value -> D -> (Nat -> Prop) -> Prop
 | int (k : IntKind) (n : Int) (S : Nat -> Prop) : Own w (.int k n) (.int k n) S
 | bool (b : Bool) (S : Nat -> Prop) : Own w (.bool b) (.bool b) S
 | str (s : ByteArray) (S : Nat -> Prop) : Own w (.string s) (.str s) S
 | unk (v : Value) (h : v.oneCell' = true) (S : Nat -> Prop) : Own w v .unk S
 | sl (v : Value) (size : Nat) (rows : List (List D)) (S : Nat -> Prop) (e : TypeId) (xs : List Value) (Sk : Nat -> Nat -> Prop) (ho : w.ownsRow 0 e size v rows.length xs) (hz : ∀ r ∈ rows, r.length = size)
   (hb : ∀ b, blk v = some b -> S b) (hl : xs.length = rows.flatten.length) (hk : ∀ k x d, xs[k]? = some x -> rows.flatten[k]? = some d -> Own w x d (Sk k))
   (hs : ∀ k b, Sk k b -> S b /\ blk v ≠ some b) (hd : ∀ i j b, Sk i b -> Sk j b -> i = j) : Own w v (.sl size rows) S
def KM (w : World) (xs : List Value) (ds : List D) (S : Nat -> Prop) : Prop :=
 xs.length = ds.length /\ ∃ Sk : Nat -> Nat -> Prop, (∀ k x d, xs[k]? = some x -> ds[k]? = some d -> Own w x d (Sk k)) /\ (∀ k b, Sk k b -> S b) /\ (∀ i j b, Sk i b -> Sk j b -> i = j)
def J3 (T : CS) (h : Nat -> Nat -> Hd) (ob : Nat -> Nat -> Ob) (w : World) (hd : Hd) : Ob -> Prop
 | .none => True
 | .box cells => ∃ b cs e, hd.v = .pointer (some ⟨b, 0, none⟩) /\ w.heap[b]? = some (.cells cs e (0, 0)) /\ YB (YO T h ob w) cells cs.toList
 | .arr false size rows => ∃ e xs, w.ownsRow 0 e size hd.v rows.length xs /\ (∀ r ∈ rows, r.length = size) /\ YB (Rd T w) xs rows.flatten
 | .arr true size rows => ∃ e xs, w.ownsRow 0 e size hd.v rows.length xs /\ (∀ r ∈ rows, r.length = size) /\ KM w xs rows.flatten (fun b => hd.u b /\ blk hd.v ≠ some b) /\ (∀ k x d, xs[k]? = some x -> rows.flatten[k]? = some d -> d.scalar = false -> hd.n k = x)
 | .lit size rows => ∃ e xs, w.ownsRow 0 e size hd.v rows.length xs /\ (∀ r ∈ rows, r.length = size) /\ YB (YO T h ob w) rows.flatten xs
def Tof (T0 : CS) (X : Nat -> Prop) : CS := fun b k => T0 b k \/ X b
structure XI (B : Nat -> Prop) (w w' : World) : Prop where
 os : w'.os = w.os
 tape : w'.tape = w.tape
 output : w'.output = w.output
 size : w.heap.size <= w'.heap.size
 block : ∀ k, B k -> w'.heap[k]? = w.heap[k]?
theorem XI.refl (B : Nat -> Prop) (w : World) : XI B w w := ⟨rfl, rfl, rfl, Nat.le_refl _, fun _ _ => rfl⟩
theorem XI.trans {B : Nat -> Prop} {a b c : World} (h : XI B a b) (k : XI B b c) : XI B a c :=
 ⟨k.os.trans h.os, k.tape.trans h.tape, k.output.trans h.output, Nat.le_trans h.size k.size, fun i hi => (k.block i hi).trans (h.block i hi)⟩
theorem XI.OE {B : Nat -> Prop} {w w' : World} (h : RowKit.Below w.heap.size w w') (hB : ∀ b, B b -> b < w.heap.size) : XI B w w' := ⟨h.os, h.tape, h.output, h.size, fun k hk => h.block k (hB k hk)⟩
structure Rel (T0 : CS) (B : Nat -> Prop) (σ : St) (a : Act) (w : World) (X : Nat -> Prop) (h : Nat -> Nat -> Hd) : Prop where
 size : a.tmps.size = σ.length
 defers : a.defers = []
 hB : ∀ b, B b -> b < w.heap.size
 hX : ∀ b, X b -> ¬ B b /\ b < w.heap.size
 hT : ∀ b k, T0 b k -> B b
 slot : ∀ t, t < σ.length -> Qy (Tof T0 X) h σ.ob w (σ.get t) (a.tmps.getD t undef)
 obj : ∀ t j, J3 (Tof T0 X) h σ.ob w (h t j) (σ.ob t j)
 ub : ∀ t j b, σ.ob t j ≠ .none -> blk (h t j).v = some b -> (h t j).u b
 own : ∀ t j b, σ.ob t j ≠ .none -> (h t j).u b -> ¬ B b /\ ¬ X b /\ b < w.heap.size
 inj : ∀ t j t' j' b, σ.ob t j ≠ .none -> σ.ob t' j' ≠ .none -> (h t j).u b -> (h t' j').u b -> t = t' /\ j = j'
def KF (T0 : CS) (B : Nat -> Prop) (σ : St) (a : Act) (w : World) : Prop := ∃ X h, Rel T0 B σ a w X h
theorem Rel.tY {T0 : CS} {B : Nat -> Prop} {σ : St} {a : Act} {w : World} {X : Nat -> Prop} {h : Nat -> Nat -> Hd} (r : Rel T0 B σ a w X h) {t j b : Nat} (ho : σ.ob t j ≠ .none) (hb : blk (h t j).v = some b) : ¬ B b /\ ¬ X b /\ b < w.heap.size :=
 r.own t j b ho (r.ub t j b ho hb)
section
variable {T T' : CS} {h h' : Nat -> Nat -> Hd} {ob nT : Nat -> Nat -> Ob} {w w' : World}
theorem YO.mono (hT : ∀ b k v, T b k -> w.cell? ⟨b, k, none⟩ = some v -> w'.cell? ⟨b, k, none⟩ = some v /\ T' b k) {x : At} {v : Value}
  (r : YO T h ob w x v) : YO T' h ob w' x v := by
 cases x with
 | any => exact r
 | d x => exact Rd.mono hT r
 | nil s => exact r
 | sref t j lo len => exact r
 | ptr t j i c => exact r
 | bptr t c => exact r
 | fn f t => exact r
 | tref t j i c o => exact r
 | rptr rr c =>
  obtain ⟨b, off, g, e, hk⟩ := r
  exact ⟨b, off, g, e, fun k d hd => ⟨(hT _ _ _ (hk k d hd).2.1 (hk k d hd).1).1, (hT _ _ _ (hk k d hd).2.1 (hk k d hd).1).2, Rd.mono hT (hk k d hd).2.2⟩⟩
theorem Kp.mono (hT : ∀ b k v, T b k -> w.cell? ⟨b, k, none⟩ = some v -> w'.cell? ⟨b, k, none⟩ = some v /\ T' b k) {x : V} {v : Value}
  (r : Kp T h ob w x v) : Kp T' h ob w' x v := by
 cases x with
 | any => exact r
 | one x => exact YO.mono hT r
 | agg xs => obtain ⟨cs, e, r⟩ := r; exact ⟨cs, e, r.imp fun _ _ => YO.mono hT⟩
 | tup xs => exact r.elim
 | cnd g x => exact r.elim
 | fix u x => exact r.elim
theorem Qy.mono (hT : ∀ b k v, T b k -> w.cell? ⟨b, k, none⟩ = some v -> w'.cell? ⟨b, k, none⟩ = some v /\ T' b k) {x : V} {v : Value}
  (r : Qy T h ob w x v) : Qy T' h ob w' x v := by
 cases x with
 | any => exact r
 | one x => exact YO.mono hT r
 | agg xs => exact Kp.mono (x := .agg xs) hT r
 | tup xs => obtain ⟨vs, e, r⟩ := r; exact ⟨vs, e, r.imp fun _ _ => Kp.mono hT⟩
 | cnd g x => exact ⟨fun hg => Kp.mono hT (r.1 hg), r.2⟩
 | fix u x => exact ⟨r.1, Kp.mono hT r.2⟩
end
end Go.Vm
namespace Go.Vm
def unc : V -> V
 | .cnd _ x => x
 | .fix _ x => x
 | x => x
def gOf : V -> Bool
 | .cnd g _ => g
 | _ => true
def ZT (P : Program) (t : TypeId) : TypeId :=
 match P.underlying t with
 | some (.slice e) => e
 | some (.array _ e) => e
 | _ => 0
def XW (P : Program) (t : TypeId) : Bool :=
 match P.underlying t with
 | some (.slice e) => (P.info? e).isSome
 | _ => false
def Hb (P : Program) (t : TypeId) : Option Nat :=
 match P.underlying t with
 | some (.array n e) => if (P.info? e).isSome then some n else none
 | _ => none
def Um (P : Program) (t : TypeId) : Bool :=
 match P.underlying t with
 | some (.struct _) | some (.array _ _) => true
 | _ => false
def xo (P : Program) (t : TypeId) : Bool :=
 (P.underlying t).isSome && (P.info? t).isSome && (Um P t || P.cellsOf t == 1)
def Qi (P : Program) (t : TypeId) (f : Nat) : Nat :=
 match P.underlying t with
 | some (.struct fs) => (match fs[f]? with | some fd => fd.offset | none => 0)
 | _ => 0
def qF (P : Program) (t : TypeId) (f : Nat) : TypeId :=
 match P.underlying t with
 | some (.struct fs) => (match fs[f]? with | some fd => fd.type | none => 0)
 | _ => 0
def je (P : Program) (t : TypeId) (f : Nat) : Bool :=
 match P.underlying t with
 | some (.struct fs) => (match fs[f]? with | some fd => (P.info? fd.type).isSome && decide (P.cellsOf fd.type ≠ 0) | none => false)
 | _ => false
def Cz (P : Program) (t : TypeId) : Option IntKind :=
 match P.underlying t with
 | some (.int k) => some k
 | _ => none
def TH (P : Program) (t : TypeId) : Bool :=
 match P.underlying t with
 | some .string => true
 | _ => false
def Mj (P : Program) (t : TypeId) : Bool :=
 match P.underlying t with
 | some .bool => true
 | _ => false
def cst (P : Program) (ty : TypeId) : Value -> V
 | .int k n => .one (.d (.int k n))
 | .bool b => .one (.d (.bool b))
 | .string s => .one (.d (.str s))
 | .slice none 0 0 => .one (.nil (P.cellsOf (ZT P ty)))
 | _ => .any
def look (P : Program) (σ : St) (ty : TypeId) : Operand -> V
 | .tmp t => σ.get t
 | .const v => cst P ty v
 | _ => .any
section
variable {P : Program} {T0 : CS} {B : Nat -> Prop} {σ : St} {a : Act} {w : World} {X : Nat -> Prop} {h : Nat -> Nat -> Hd}
theorem Rel.get (r : Rel T0 B σ a w X h) (t : Nat) : Qy (Tof T0 X) h σ.ob w (σ.get t) (a.tmps.getD t undef) := by
 rcases Nat.lt_or_ge t σ.length with hl | hl
 ·exact r.slot t hl
 ·simp [St.get, List.getElem?_eq_none hl, Qy]
theorem uL (T : CS) (h : Nat -> Nat -> Hd) (ob : Nat -> Nat -> Ob) (w : World) (ty : TypeId) (v : Value) : Qy T h ob w (cst P ty v) v := by
 unfold cst
 split
 ·exact .int _ _
 ·exact .bool _
 ·exact .str _
 ·rfl
 ·trivial
theorem Rel.look (r : Rel T0 B σ a w X h) (ty : TypeId) (x : Operand) : Qy (Tof T0 X) h σ.ob w (look P σ ty x) (a.eval x) := by
 cases x with
 | tmp t => exact r.get t
 | const v => exact uL _ _ _ _ _ _
 | global g => trivial
 | func f => trivial
theorem Qy.unc {T : CS} {h : Nat -> Nat -> Hd} {ob : Nat -> Nat -> Ob} {w : World} {x : V} {v : Value} (r : Qy T h ob w x v) (hg : gOf x = true) : Qy T h ob w (unc x) v := by
 cases x with
 | cnd g x => exact Kp.up (r.1 hg)
 | fix u x => exact Kp.up r.2
 | _ => exact r
theorem Rel.arg (r : Rel T0 B σ a w X h) (ty : TypeId) (x : Operand) {v : V} (he : Vm.unc (Vm.look P σ ty x) = v) (hg : gOf (Vm.look P σ ty x) = true) : Qy (Tof T0 X) h σ.ob w v (a.eval x) := by
 subst he
 exact (r.look ty x).unc hg
theorem Rel.put (r : Rel T0 B σ a w X h) (d : Nat) (v : V) (val : Value) (hv : Qy (Tof T0 X) h σ.ob w v val) : Rel T0 B (σ.put d v) (a.put (some d) val) w X h := by
 refine ⟨by simp [Act.put, r.size, St.Q0], r.defers, r.hB, r.hX, r.hT, fun t ht => ?_, fun t j => ?_, fun t j b => ?_, fun t j b => ?_, fun t j t' j' b => ?_⟩
 ·rw [St.Q7, St.K4]
  rw [St.Q0] at ht
  by_cases hd : t = d /\ d < σ.length
  ·obtain ⟨rfl, hl⟩ := hd
   simp only [hl, and_self, if_true]
   have : (a.tmps.setIfInBounds t val).getD t undef = val := by simp [r.size, hl]
   simp only [Act.put, this]; exact hv
  ·rw [if_neg hd]
   have pS : d ≠ t := fun e => hd ⟨e.symm, e ▸ ht⟩
   have : (a.tmps.setIfInBounds d val).getD t undef = a.tmps.getD t undef := by simp [Array.getElem?_setIfInBounds_ne pS]
   simp only [Act.put, this]; exact r.slot t ht
 ·rw [St.Q7]; exact r.obj t j
 ·rw [St.Q7]; exact r.ub t j b
 ·rw [St.Q7]; exact r.own t j b
 ·rw [St.Q7]; exact r.inj t j t' j' b
end
def ldV (P : Program) (T : TypeId) (xs : List At) : V := if Um P T then .agg xs else (match xs with | [x] => .one x | _ => .any)
def GZ (k : IntKind) (x y : Int) : Int := k.wrap (BitVec.ofInt k.bits x &&& BitVec.ofInt k.bits y).toNat
def iOr (k : IntKind) (x y : Int) : Int := k.wrap (BitVec.ofInt k.bits x ||| BitVec.ofInt k.bits y).toNat
def vE (k : IntKind) (x y : Int) : Int := k.wrap (BitVec.ofInt k.bits x ^^^ BitVec.ofInt k.bits y).toNat
def Hl (op : BinOp) (k : IntKind) (x y : Int) (v : V) : Prop :=
 match op with
 | .eql => v = .one (.d (.bool (x == y)))
 | .neq => v = .one (.d (.bool (x != y)))
 | .lss => v = .one (.d (.bool (decide (x < y))))
 | .leq => v = .one (.d (.bool (decide (x <= y))))
 | .gtr => v = .one (.d (.bool (decide (x > y))))
 | .geq => v = .one (.d (.bool (decide (x >= y))))
 | .add => v = .one (.d (.int k (k.wrap (x + y))))
 | .sub => v = .one (.d (.int k (k.wrap (x - y))))
 | .mul => v = .one (.d (.int k (k.wrap (x * y))))
 | .quo => y ≠ 0 /\ v = .one (.d (.int k (k.wrap (x.tdiv y))))
 | .rem => y ≠ 0 /\ v = .one (.d (.int k (x.tmod y)))
 | .and => v = .one (.d (.int k (GZ k x y)))
 | .or => v = .one (.d (.int k (iOr k x y)))
 | .xor => v = .one (.d (.int k (vE k x y)))
 | .shl => 0 <= y /\ v = .one (.d (.int k (k.wrap (x * 2 ^ (min y.toNat k.bits)))))
 | .shr => 0 <= y /\ v = .one (.d (.int k (x.fdiv (2 ^ (min y.toNat k.bits)))))
 | _ => False
def Iv (op : BinOp) (x y : ByteArray) (v : V) : Prop :=
 match op with
 | .add => ((x.size + y.size : Nat) : Int) <= 9223372036854775807 /\ v = .one (.d (.str (x ++ y)))
 | .eql => v = .one (.d (.bool (decide (x = y))))
 | .neq => v = .one (.d (.bool (!decide (x = y))))
 | _ => False
def OJ (op : BinOp) (x y : Bool) (v : V) : Prop :=
 match op with
 | .eql => v = .one (.d (.bool (x == y)))
 | .neq => v = .one (.d (.bool (!(x == y))))
 | _ => False
theorem Cs {P : Program} {op : BinOp} {k : IntKind} {x y : Int} {v : V} {t : TypeId} {kk : IntKind} (hk : (op = .shl \/ op = .shr) \/ kk = k) (hb : Hl op k x y v) (w : World) :
  ∃ d, v = .one (.d d) /\ ∃ val, (binOp op t (.int k x) (.int kk y)).run P w = .ok val w /\ ∀ T w', Rd T w' val d := by
 cases op <;> simp only [Hl] at hb
 case shl => obtain ⟨h0, rfl⟩ := hb; exact ⟨_, rfl, _, by simp [binOp, Op.shift, Int.not_lt.2 h0], fun _ _ => .int _ _⟩
 case shr => obtain ⟨h0, rfl⟩ := hb; exact ⟨_, rfl, _, by simp [binOp, Op.shift, Int.not_lt.2 h0], fun _ _ => .int _ _⟩
 all_goals (have hkk : kk = k := by rcases hk with (hk | hk) | hk <;> first | exact hk | cases hk)
 all_goals subst hkk
 case quo => obtain ⟨h0, rfl⟩ := hb; exact ⟨_, rfl, _, by simp [binOp, Op.intDiv, h0], fun _ _ => .int _ _⟩
 case rem => obtain ⟨h0, rfl⟩ := hb; exact ⟨_, rfl, _, by simp [binOp, Op.intDiv, h0], fun _ _ => .int _ _⟩
 case add => subst hb; exact ⟨_, rfl, _, by simp [binOp, Op.intArith], fun _ _ => .int _ _⟩
 case sub => subst hb; exact ⟨_, rfl, _, by simp [binOp, Op.intArith], fun _ _ => .int _ _⟩
 case mul => subst hb; exact ⟨_, rfl, _, by simp [binOp, Op.intArith], fun _ _ => .int _ _⟩
 case and => subst hb; exact ⟨_, rfl, _, by simp [binOp, Op.intBits, GZ], fun _ _ => .int _ _⟩
 case or => subst hb; exact ⟨_, rfl, _, by simp [binOp, Op.intBits, iOr], fun _ _ => .int _ _⟩
 case xor => subst hb; exact ⟨_, rfl, _, by simp [binOp, Op.intBits, vE], fun _ _ => .int _ _⟩
 all_goals (subst hb; exact ⟨_, rfl, .bool _, by simp only [binOp, Op.intCmp, ne_eq, not_true_eq_false, if_false]; rfl, fun _ _ => .bool _⟩)
theorem BS (x y : ByteArray) : (x.toList == y.toList) = decide (x = y) := by
 rw [ByteArray.toList_eq, ByteArray.toList_eq, Bool.eq_iff_iff]
 simp only [beq_iff_eq, decide_eq_true_eq]
 constructor
 ·intro hh; cases x; cases y; simp_all
 ·rintro rfl; rfl
theorem Cq {P : Program} {op : BinOp} {x y : ByteArray} {v : V} {t : TypeId} (hb : Iv op x y v) (w : World) :
  ∃ d, v = .one (.d d) /\ ∃ val, (binOp op t (.string x) (.string y)).run P w = .ok val w /\ ∀ T w', Rd T w' val d := by
 cases op <;> simp only [Iv] at hb
 case add => obtain ⟨h0, rfl⟩ := hb; exact ⟨_, rfl, _, by simp only [binOp, Op.stringOp]; rw [if_neg (by simp [IntKind.max, IntKind.signed, IntKind.bits]; omega)]; rfl, fun _ _ => .str _⟩
 case eql => subst hb; exact ⟨_, rfl, .bool _, by simp only [binOp, Op.stringOp, BS]; rfl, fun _ _ => .bool _⟩
 case neq => subst hb; exact ⟨_, rfl, .bool _, by simp only [binOp, Op.stringOp, BS]; rfl, fun _ _ => .bool _⟩
theorem run_equalIn_bool {P : Program} {t : TypeId} (hu : P.underlying t = some .bool) (d : Nat) (x y : Bool) (w : World) : (Op.equalIn (d + 1) t (.bool x) (.bool y)).run P w = .ok (x == y) w := by
 simp [Op.equalIn, run_underlying hu]
theorem E9 {P : Program} {op : BinOp} {x y : Bool} {v : V} {t : TypeId} (ht : Mj P t = true) (hb : OJ op x y v) (w : World) :
  ∃ d, v = .one (.d d) /\ ∃ val, (binOp op t (.bool x) (.bool y)).run P w = .ok val w /\ ∀ T w', Rd T w' val d := by
 have hu : P.underlying t = some .bool := by
  unfold Mj at ht; split at ht <;> first | assumption | cases ht
 cases op <;> simp only [OJ] at hb
 case eql => subst hb; exact ⟨_, rfl, _, by simp only [binOp, Op.equal, Op.maxDepth, Sem.run_bind, run_equalIn_bool hu 9999, Result.andThen_ok, Sem.run_pure], fun _ _ => .bool _⟩
 case neq => subst hb; exact ⟨_, rfl, _, by simp only [binOp, Op.equal, Op.maxDepth, Sem.run_bind, run_equalIn_bool hu 9999, Result.andThen_ok, Sem.run_pure], fun _ _ => .bool _⟩
end Go.Vm
namespace Go.Vm
def VE (P : Program) (σ : St) (x : Operand) (k : IntKind) (n : Int) : Prop := gOf (look P σ 0 x) = true /\ unc (look P σ 0 x) = .one (.d (.int k n))
def bnd (P : Program) (σ : St) (nD : Nat) : Option Operand -> Nat -> Prop
 | none, n => n = nD
 | some x, n => ∃ k i, gOf (look P σ 0 x) = true /\ unc (look P σ 0 x) = .one (.d (.int k i)) /\ 0 <= i /\ n = i.toNat
def cut {α : Type} (xs : List α) (off n : Nat) : List α := (xs.drop off).take n
def ko (P : Program) : Nat -> TypeId -> Option (List At)
 | 0, _ => none
 | n + 1, t =>
  match P.underlying t with
  | some .bool => some [.d (.bool false)]
  | some (.int k) => some [.d (.int k 0)]
  | some .string => some [.d (.str ⟨#[]⟩)]
  | some (.slice e) => some [.nil (P.cellsOf e)]
  | some (.struct fs) => (fs.toList.mapM (fun f => ko P n f.type)).map List.flatten
  | some (.array m e) => (ko P n e).map (fun r => (List.replicate m r).flatten)
  | _ => none
def zAt : At -> Value -> Bool
 | .d (.bool b), .bool b' => b == b'
 | .d (.int k n), .int k' n' => k == k' && n == n'
 | .d (.str s), .string s' => s.data.toList == s'.data.toList
 | .nil _, .slice none 0 0 => true
 | _, _ => false
def AD : List At -> List Value -> Bool
 | [], [] => true
 | x :: xs, v :: vs => zAt x v && AD xs vs
 | _, _ => false
def Qg (P : Program) (t : TypeId) : Bool :=
 match ko P 12 t, P.info? t with
 | some row, some i => (match i.zero with | some z => AD row z.cells.toList && i.size == row.length | none => false)
 | _, _ => false
theorem vu {x : At} {v : Value} (hz : zAt x v = true) (T : CS) (h : Nat -> Nat -> Hd) (ob : Nat -> Nat -> Ob) (w : World) : YO T h ob w x v := by
 unfold zAt at hz
 split at hz
 ·simp at hz; subst hz; exact .bool _
 ·simp at hz; obtain ⟨rfl, rfl⟩ := hz; exact .int _ _
 ·rename_i s s'
  simp at hz
  have : s = s' := by cases s; cases s'; simp_all
  subst this; exact .str _
 ·rfl
 ·cases hz
theorem vW {xs : List At} {vs : List Value} (hz : AD xs vs = true) (T : CS) (h : Nat -> Nat -> Hd) (ob : Nat -> Nat -> Ob) (w : World) : YB (YO T h ob w) xs vs := by
 induction xs generalizing vs with
 | nil => cases vs with
  | nil => exact .nil
  | cons v vs => simp [AD] at hz
 | cons x xs ih => cases vs with
  | nil => simp [AD] at hz
  | cons v vs => simp [AD] at hz; exact .cons (vu hz.1 _ _ _ _) (ih hz.2)
theorem IK {P : Program} {t : TypeId} {row : List At} (hz : Qg P t = true) (hr : ko P 12 t = some row) :
  ∃ i z, P.info? t = some i /\ i.zero = some z /\ i.size = row.length /\ (∀ T h ob w, YB (YO T h ob w) row z.cells.toList) := by
 unfold Qg at hz
 rw [hr] at hz
 split at hz
 ·rename_i pU i oq hi
  cases oq
  split at hz
  ·rename_i z la
   simp at hz
   exact ⟨i, z, hi, la, hz.2, fun T h ob w => vW hz.1 T h ob w⟩
  ·cases hz
 ·cases hz
def V.cells : V -> List At
 | .one c => [c]
 | .agg xs => xs
 | _ => []
def V.flat : V -> Bool
 | .one _ => true
 | .agg _ => true
 | _ => false
def place {α : Type} (r : List α) (off : Nat) (xs : List α) : List α := r.take off ++ xs ++ r.drop (off + xs.length)
def jl (P : Program) (T : TypeId) (i : Nat) : Nat := match P.underlying T with | some (.array _ e) => i * P.cellsOf e | _ => Qi P T i
def bTy (P : Program) (T : TypeId) (i : Nat) : TypeId := match P.underlying T with | some (.array _ e) => e | _ => qF P T i
def bOk (P : Program) (T : TypeId) (i : Nat) : Bool := match P.underlying T with
 | some (.array _ e) => (P.info? e).isSome
 | some (.struct fs) => fs.all (fun f => (P.info? f.type).isSome) && decide (i < fs.size)
 | _ => false
def Uf (P : Program) (σ : St) (T : TypeId) : List (Nat × Operand) -> List At -> List At -> Prop
 | [], r, out => out = r
 | (i, x) :: ps, r, out => bOk P T i = true /\ gOf (look P σ (bTy P T i) x) = true /\ (unc (look P σ (bTy P T i) x)).flat = true /\
   (unc (look P σ (bTy P T i) x)).cells.length = P.cellsOf (bTy P T i) /\ jl P T i + P.cellsOf (bTy P T i) <= r.length /\
   Uf P σ T ps (place r (jl P T i) (unc (look P σ (bTy P T i) x)).cells) out
def Rl (P : Program) (t : TypeId) : Bool := match P.underlying t with | some .bool => true | some (.int _) => true | some .string => true | _ => false
def VU (P : Program) : List Field -> Nat -> Bool
 | [], _ => true
 | f :: fs, i => decide (f.name ≠ "_") && f.offset == i && Rl P f.type && VU P fs (i + 1)
def Uy (P : Program) : List Field -> Nat -> Bool
 | [], _ => true
 | f :: fs, i => decide (f.name ≠ "_") && f.offset == i && (if Rl P f.type then Uy P fs (i + 1) else (match P.underlying f.type with | some (.struct gs) => xo P f.type && Um P f.type && P.cellsOf f.type == gs.size && decide (0 < gs.size) && !P.stoodInHeld f.type && VU P gs.toList 0 && Uy P fs (i + gs.size) | _ => false))
def FP (P : Program) (f : Field) : List TypeId := if Rl P f.type then [f.type] else (match P.underlying f.type with | some (.struct gs) => gs.toList.map (·.type) | _ => [])
def K8 (P : Program) (T : TypeId) : List TypeId := (P.fieldsOf T).toList.flatMap (FP P)
def Rr (P : Program) (t : TypeId) : Bool := match P.underlying t with
 | some (.struct fs) => !P.stoodInHeld t && !P.eqGuardType P.depth t && Uy P fs.toList 0
 | _ => false
def uE (P : Program) (t : TypeId) : At -> At -> Option Bool
 | .d (.int k a), .d (.int k' b) => if k = k' /\ (Cz P t).isSome then some (a == b) else none
 | .d (.bool a), .d (.bool b) => if Mj P t then some (a == b) else none
 | .d (.str a), .d (.str b) => if TH P t then some (decide (a = b)) else none
 | _, _ => none
def Qh (P : Program) : List TypeId -> List At -> List At -> Option Bool
 | [], _, _ => some true
 | f :: fs, x :: xs, y :: ys => (match uE P f x y, Qh P fs xs ys with | some p, some q => some (p && q) | _, _ => none)
 | _, _, _ => none
def CV (P : Program) (op : BinOp) (T : TypeId) (x y v : V) : Prop :=
 match x, y with
 | .one (.d (.int k m)), .one (.d (.int k' n)) => ((op = .shl \/ op = .shr) \/ k' = k) /\ Hl op k m n v
 | .one (.d (.str m)), .one (.d (.str n)) => Iv op m n v
 | .one (.d (.bool m)), .one (.d (.bool n)) => Mj P T = true /\ OJ op m n v
 | .agg xs, .agg ys => Rr P T = true /\ ∃ q, Qh P (K8 P T) xs ys = some q /\ ((op = .eql /\ v = .one (.d (.bool q))) \/ (op = .neq /\ v = .one (.d (.bool (!q)))))
 | _, _ => False
def WS (t j i : Nat) : Nat -> List D -> List At
 | _, [] => []
 | c, x :: xs => (match x with | .sl _ _ => .tref t j i c none | x => .d x) :: WS t j i (c + 1) xs
def TR (q : Bool) (t j i c : Nat) (xs : List D) : List At := match q with | true => WS t j i c xs | false => xs.map .d
def Yc (P : Program) (σ : St) (op : Op) (ty : TypeId) (v : V) : Prop :=
 match op with
 | .move x => v = look P σ ty x
 | .assign x => v = look P σ ty x
 | .pick c a b => ∃ bc p q, gOf (look P σ ty c) = true /\ unc (look P σ ty c) = .one (.d (.bool bc)) /\ (bc = true -> unc (look P σ ty a) = .one (.d (.bool p))) /\ (bc = false -> unc (look P σ ty b) = .one (.d (.bool q))) /\
   (bc = true -> gOf (look P σ ty a) = true) /\ (bc = false -> gOf (look P σ ty b) = true) /\ v = .one (.d (.bool (cond bc p q)))
 | .load T x => gOf (look P σ 0 x) = true /\ xo P T = true /\
   (match unc (look P σ 0 x) with
   | .one (.bptr t c) => ∃ cells, σ.ob t 0 = .box cells /\ c + P.cellsOf T <= cells.length /\ v = ldV P T (cut cells c (P.cellsOf T))
   | .one (.ptr t j i c) => ∃ q size rows, σ.ob t j = .arr q size rows /\ i < rows.length /\ c + P.cellsOf T <= size /\ v = ldV P T (TR q t j i c (cut (rows.getD i []) c (P.cellsOf T)))
   | .one (.rptr r c) => c + P.cellsOf T <= r.length /\ v = ldV P T ((cut r c (P.cellsOf T)).map .d)
   | .one (.tref t j i c (some k)) => ∃ size rows s, σ.ob t j = .arr true size rows /\ i < rows.length /\ (rows.getD i [])[c]? = some (.sl 1 s) /\ P.cellsOf T = 1 /\ k < s.length /\ (s.getD k []).all D.scalar = true /\ v = ldV P T ((s.getD k []).map .d)
   | _ => False)
 | .fieldAddr T x f => gOf (look P σ 0 x) = true /\ je P T f = true /\
   (match unc (look P σ 0 x) with
   | .one (.bptr t c) => (∃ cells, σ.ob t 0 = .box cells) /\ v = .one (.bptr t (c + Qi P T f))
   | .one (.ptr t j i c) => (∃ q size rows, σ.ob t j = .arr q size rows) /\ v = .one (.ptr t j i (c + Qi P T f))
   | .one (.rptr r c) => v = .one (.rptr r (c + Qi P T f))
   | .one (.tref t j i c (some k)) => (∃ size rows, σ.ob t j = .arr true size rows) /\ v = .one (.tref t j i c (some (k + Qi P T f)))
   | _ => False)
 | .nilCheck x => gOf (look P σ 0 x) = true /\
   (match unc (look P σ 0 x) with
   | .one (.bptr t c) => (∃ cells, σ.ob t 0 = .box cells) /\ v = .one (.bptr t c)
   | _ => False)
 | .indexAddr T x ix => ∃ k i, VE P σ ix k i /\ 0 <= i /\ gOf (look P σ 0 x) = true /\
   (match unc (look P σ 0 x) with
   | .one (.d (.sl size rows)) => XW P T = true /\ size = P.cellsOf (ZT P T) /\ 0 < size /\ i < (rows.length : Int) /\ v = .one (.rptr (rows.getD i.toNat []) 0)
   | .one (.sref t j lo len) => XW P T = true /\ 0 < P.cellsOf (ZT P T) /\ (∃ q rows, σ.ob t j = .arr q (P.cellsOf (ZT P T)) rows) /\ i < (len : Int) /\ v = .one (.ptr t j (lo + i.toNat) 0)
   | .one (.bptr t c) => (∃ cells, σ.ob t 0 = .box cells) /\ (∃ n, Hb P T = some n /\ 1 < n /\ i < (n : Int)) /\ v = .one (.bptr t (c + i.toNat * P.cellsOf (ZT P T)))
   | .one (.tref t j m c none) => XW P T = true /\ 0 < P.cellsOf (ZT P T) /\ (∃ size rows s, σ.ob t j = .arr true size rows /\ m < rows.length /\ (rows.getD m [])[c]? = some (.sl (P.cellsOf (ZT P T)) s) /\ i < (s.length : Int)) /\ v = .one (.tref t j m c (some (i.toNat * P.cellsOf (ZT P T))))
   | _ => False)
 | .index T x ix => ∃ k i, VE P σ ix k i /\ 0 <= i /\ gOf (look P σ 0 x) = true /\
   (match unc (look P σ 0 x) with
   | .one (.d (.str s)) => TH P T = true /\ i < (s.size : Int) /\ v = .one (.d (.int .u8 (s.data.toList.getD i.toNat 0).toNat))
   | .agg xs => (∃ n, Hb P T = some n /\ i < (n : Int)) /\ xo P (ZT P T) = true /\ i.toNat * P.cellsOf (ZT P T) + P.cellsOf (ZT P T) <= xs.length /\ v = ldV P (ZT P T) (cut xs (i.toNat * P.cellsOf (ZT P T)) (P.cellsOf (ZT P T)))
   | _ => False)
 | .slice T x lo hi none => gOf (look P σ 0 x) = true /\
   (match unc (look P σ 0 x) with
   | .one (.d (.str s)) => TH P T = true /\ ∃ l h, bnd P σ 0 lo l /\ bnd P σ s.size hi h /\ l <= h /\ h <= s.size /\ v = .one (.d (.str (s.extract l h)))
   | .one (.d (.sl size rows)) => XW P T = true /\ size = P.cellsOf (ZT P T) /\ ∃ l h, bnd P σ 0 lo l /\ bnd P σ rows.length hi h /\ l <= h /\ h <= rows.length /\ v = .one (.d (.sl size (cut rows l (h - l))))
   | .one (.sref t j o len) => XW P T = true /\ (∃ q rows, σ.ob t j = .arr q (P.cellsOf (ZT P T)) rows) /\ ∃ l h, bnd P σ 0 lo l /\ bnd P σ len hi h /\ l <= h /\ h <= len /\ v = .one (.sref t j (o + l) (h - l))
   | _ => False)
 | .binOp op T x y _ => gOf (look P σ T x) = true /\ gOf (look P σ T y) = true /\
   CV P op T (unc (look P σ T x)) (unc (look P σ T y)) v
 | .unOp op _ x => gOf (look P σ 0 x) = true /\
   (match op, unc (look P σ 0 x) with
   | .not, .one (.d (.bool b)) => v = .one (.d (.bool (!b)))
   | .neg, .one (.d (.int k n)) => v = .one (.d (.int k (k.wrap (-n))))
   | _, _ => False)
 | .convert S T x => gOf (look P σ 0 x) = true /\ (P.underlying S).isSome = true /\
   (match unc (look P σ 0 x) with
   | .one (.d (.int _ n)) => ∃ k, Cz P T = some k /\ v = .one (.d (.int k (k.wrap n)))
   | _ => False)
 | .extract x i => gOf (look P σ 0 x) = true /\
   (match unc (look P σ 0 x) with
   | .tup xs => xs[i]? = some v /\ v.flat = true
   | _ => False)
 | .field T x f => gOf (look P σ 0 x) = true /\ je P T f = true /\ xo P (qF P T f) = true /\
   (match unc (look P σ 0 x) with
   | .agg xs => Qi P T f + P.cellsOf (qF P T f) <= xs.length /\ v = ldV P (qF P T f) (cut xs (Qi P T f) (P.cellsOf (qF P T f)))
   | _ => False)
 | .build T parts => Qg P T = true /\ Um P T = true /\ ∃ z out, ko P 12 T = some z /\ Uf P σ T parts.toList z out /\ v = .agg out
 | .call c =>
   (match c.callee, c.args.toList, c.argTypes.toList with
   | .builtin .len, [x], [t] => gOf (look P σ t x) = true /\
     (match unc (look P σ t x) with
     | .one (.d (.str s)) => TH P t = true /\ v = .one (.d (.int .i64 s.size))
     | .one (.d (.sl _ rows)) => XW P t = true /\ v = .one (.d (.int .i64 rows.length))
     | .one (.nil _) => XW P t = true /\ v = .one (.d (.int .i64 0))
     | .one (.sref u j _ len) => XW P t = true /\ ((∃ q size rows, σ.ob u j = .arr q size rows) \/ ∃ size rows, σ.ob u j = .lit size rows) /\ v = .one (.d (.int .i64 len))
     | .one (.tref u j i c none) => XW P t = true /\ ∃ size rows n s, σ.ob u j = .arr true size rows /\ i < rows.length /\ (rows.getD i [])[c]? = some (.sl n s) /\ v = .one (.d (.int .i64 s.length))
     | _ => False)
   | .builtin .max, [x, y], _ => ∃ k m n, VE P σ x k m /\ VE P σ y k n /\ v = .one (.d (.int k (if n > m then n else m)))
   | .builtin .min, [x, y], _ => ∃ k m n, VE P σ x k m /\ VE P σ y k n /\ v = .one (.d (.int k (if n < m then n else m)))
   | _, _, _ => False)
 | _ => False
end Go.Vm
namespace Go.Vm
section
variable {P : Program} {T0 : CS} {B : Nat -> Prop} {σ : St} {a : Act} {w : World} {X : Nat -> Prop} {h : Nat -> Nat -> Hd}
theorem jo (b off n : Nat) : (⟨b, off, none⟩ : Addr).add n = ⟨b, off + n, none⟩ := by
 unfold Addr.add; split <;> simp_all
theorem kC {T : TypeId} (ht : xo P T = true) : ∃ d i, P.underlying T = some d /\ P.info? T = some i /\ i.size = P.cellsOf T /\ (Um P T = true \/ P.cellsOf T = 1) := by
 simp only [xo, Bool.and_eq_true, Bool.or_eq_true, beq_iff_eq] at ht
 obtain ⟨⟨h1, h2⟩, h3⟩ := ht
 obtain ⟨d, hd⟩ := Option.isSome_iff_exists.1 h1
 obtain ⟨i, hi⟩ := Option.isSome_iff_exists.1 h2
 exact ⟨d, i, hd, hi, by simp [Program.cellsOf, hi], h3⟩
theorem Rh {T : TypeId} {d : TypeDesc} (hd : P.underlying T = some d) (w : World) : (isAgg T).run P w = .ok (Um P T) w := by
 unfold isAgg Um
 rw [hd]
 simp only [Sem.run_bind, run_underlying hd, Result.andThen_ok]
 cases d <;> simp
theorem Jw {T : TypeId} {i : TypeInfo} (hi : P.info? T = some i) (w : World) : (sizeOf T).run P w = .ok (P.cellsOf T) w := by
 simp [sizeOf, typeInfo, hi, Program.cellsOf]
theorem wc {T : TypeId} (ht : xo P T = true) {b off : Nat} {cs : List Value} (hl : cs.length = P.cellsOf T) (hc : ∀ j v, cs[j]? = some v -> w.cell? ⟨b, off + j, none⟩ = some v) :
  ∃ val, (Instr.loadAt T (.pointer (some ⟨b, off, none⟩))).run P w = .ok val w /\ (Um P T = true -> val = .agg cs.toArray) /\ (Um P T = false -> cs = [val]) := by
 obtain ⟨d, i, hd, hi, oy, oY⟩ := kC ht
 cases lB : Um P T with
 | true =>
  refine ⟨.agg cs.toArray, ?_, fun _ => rfl, (fun hh => by cases hh)⟩
  have := run_loadCells_list (P := P) w ⟨b, off, none⟩ cs (fun j v hv => by rw [jo]; exact hc j v hv)
  simp only [Instr.loadAt, Instr.sureAddr, loadVar, Sem.run_bind, Sem.run_pure, Result.andThen_ok, Rh hd, lB, if_true, Jw hi, <- hl, this]
 | false =>
  rcases oY with oY | oY
  ·rw [lB] at oY; cases oY
  ·rw [oY] at hl
   obtain ⟨val, rfl⟩ := List.length_eq_one_iff.1 hl
   refine ⟨val, ?_, (fun hh => by cases hh), fun _ => rfl⟩
   have hc0 := hc 0 val (by simp)
   simp only [Nat.add_zero] at hc0
   simp [Instr.loadAt, Instr.sureAddr, loadVar, Rh hd, lB, load, Sem.run, hc0]
theorem BU {T : TypeId} (_ht : xo P T = true) {T' : CS} {ob : Nat -> Nat -> Ob} {xs : List At} {cs : List Value} {val : Value} (hx : YB (YO T' h ob w) xs cs)
  (h1 : Um P T = true -> val = .agg cs.toArray) (h2 : Um P T = false -> cs = [val]) : Qy T' h ob w (ldV P T xs) val := by
 unfold ldV
 cases lB : Um P T with
 | true => simp only [if_true]; exact ⟨_, h1 lB, by simpa using hx⟩
 | false =>
  simp only [Bool.false_eq_true, if_false]
  rw [h2 lB] at hx
  cases hx with
  | cons r hx => cases hx; exact r
theorem YB.cut {α β : Type} {R : α -> β -> Prop} {l : List α} {m : List β} (x : YB R l m) (o n : Nat) : YB R (Vm.cut l o n) (Vm.cut m o n) := (x.drop o).take n
theorem Qj {α : Type} (l : List α) (o n : Nat) (hl : o + n <= l.length) : (cut l o n).length = n := by simp [cut]; omega
theorem qg {α : Type} (l : List α) (o n j : Nat) (v : α) (hv : (cut l o n)[j]? = some v) : l[o + j]? = some v := by
 simp only [cut, List.getElem?_take, List.getElem?_drop] at hv
 split at hv
 ·exact hv
 ·cases hv
theorem jG {α : Type} : ∀ (rows : List (List α)) (size : Nat), (∀ r ∈ rows, r.length = size) -> ∀ (i : Nat) (r : List α), rows[i]? = some r -> ∀ (j : Nat) (d : α), r[j]? = some d -> rows.flatten[i * size + j]? = some d
 | [], _, _, i, r, hr, _, _, _ => by simp at hr
 | r0 :: rows, size, hz, 0, r, hr, j, d, hd => by
  simp at hr; subst hr
  have hj : j < r0.length := (List.getElem?_eq_some_iff.1 hd).1
  simp [List.getElem?_append_left hj, hd]
 | r0 :: rows, size, hz, i + 1, r, hr, j, d, hd => by
  have ih := jG rows size (fun r hr => hz r (by simp [hr])) i r (by simpa using hr) j d hd
  have h0 : r0.length = size := hz r0 (by simp)
  rw [List.flatten_cons, List.getElem?_append_right (by rw [h0, Nat.add_mul]; omega), h0]
  have : (i + 1) * size + j - size = i * size + j := by rw [Nat.add_mul]; omega
  rw [this]; exact ih
theorem Yi {α : Type} (rows : List (List α)) (size : Nat) (hz : ∀ r ∈ rows, r.length = size) : rows.flatten.length = rows.length * size := by
 induction rows with
 | nil => simp
 | cons r rows ih => rw [List.flatten_cons, List.length_append, ih (fun r hr => hz r (by simp [hr])), hz r (by simp), List.length_cons, Nat.add_mul]; omega
theorem Rd.row {T : CS} {v : Value} {size : Nat} {rows : List (List D)} (r : Rd T w v (.sl size rows)) (i : Nat) (hi : i < rows.length) (oy : 0 < size) :
  ∃ a len cap, v = .slice (some a) len cap /\ len = rows.length /\ a.spot = none /\
   ∃ g : Nat -> Value, ∀ k d, (rows.getD i [])[k]? = some d -> w.cell? ⟨a.block, a.off + i * size + k, none⟩ = some (g k) /\ T a.block (a.off + i * size + k) /\ Rd T w (g k) d := by
 cases r with
 | nil => simp at hi
 | sl a len cap size rows g hl hc hm hz hs hg hr =>
  have oC : rows[i]? = some (rows.getD i []) := by simp [List.getD_eq_getElem?_getD, List.getElem?_eq_getElem hi]
  have pS : rows.flatten ≠ [] := by
   have hlen := Yi rows size hz
   have hp : 0 < rows.length * size := Nat.mul_pos (by omega) oy
   intro he
   have h0 : rows.flatten.length = 0 := by rw [he]; rfl
   omega
  refine ⟨a, len, cap, rfl, hl.symm, hs pS, fun k => g (i * size + k), fun k d hd => ?_⟩
  have hf := jG rows size hz i _ oC k d hd
  have h1 := hg _ _ hf
  rw [Nat.add_assoc]
  exact ⟨h1.1, h1.2, hr _ _ hf⟩
theorem Gk {T : CS} {v : Value} {size : Nat} {rows : List (List D)} (r : Rd T w v (.sl size rows)) : ∀ x ∈ rows, x.length = size := by
 cases r with
 | nil => intro x hx; cases hx
 | sl a len cap size rows g hl hc hm hz hs hg hr => exact hz
theorem BP {T : CS} {v : Value} {size : Nat} {rows : List (List D)} (r : Rd T w v (.sl size rows)) : ∃ base cap, v = .slice base rows.length cap /\ rows.length <= cap /\ cap <= maxLen := by
 cases r with
 | nil => exact ⟨none, 0, rfl, by simp, by simp [maxLen]⟩
 | sl a len cap size rows g hl hc hm hz hs hg hr => exact ⟨some a, cap, by rw [hl], by omega, hm⟩
theorem QJ {t : TypeId} (ht : XW P t = true) : ∃ i, P.underlying t = some (.slice (ZT P t)) /\ P.info? (ZT P t) = some i /\ i.size = P.cellsOf (ZT P t) := by
 unfold XW at ht
 split at ht
 ·rename_i e he
  obtain ⟨i, hi⟩ := Option.isSome_iff_exists.1 ht
  have : ZT P t = e := by simp [ZT, he]
  rw [this]
  exact ⟨i, he, hi, by simp [Program.cellsOf, hi]⟩
 ·cases ht
theorem IH {t : TypeId} {n : Nat} (ht : Hb P t = some n) : ∃ i, P.underlying t = some (.array n (ZT P t)) /\ P.info? (ZT P t) = some i /\ i.size = P.cellsOf (ZT P t) := by
 unfold Hb at ht
 split at ht
 ·rename_i m e he
  split at ht
  ·rename_i hh
   cases ht
   obtain ⟨i, hi⟩ := Option.isSome_iff_exists.1 hh
   have : ZT P t = e := by simp [ZT, he]
   rw [this]
   exact ⟨i, he, hi, by simp [Program.cellsOf, hi]⟩
  ·cases ht
 ·cases ht
theorem R0 {t : TypeId} {f : Nat} (ht : je P t f = true) : ∃ fs fd i, P.underlying t = some (.struct fs) /\ fs[f]? = some fd /\ fd.offset = Qi P t f /\ fd.type = qF P t f /\ P.info? fd.type = some i /\ i.size ≠ 0 := by
 unfold je at ht
 split at ht
 ·rename_i fs he
  split at ht
  ·rename_i fd hf
   simp at ht
   obtain ⟨i, hi⟩ := Option.isSome_iff_exists.1 ht.1
   exact ⟨fs, fd, i, he, hf, by simp [Qi, he, hf], by simp [qF, he, hf], hi, by simpa [Program.cellsOf, hi] using ht.2⟩
  ·cases ht
 ·cases ht
theorem qu {t : TypeId} (ht : TH P t = true) : P.underlying t = some .string := by
 unfold TH at ht; split at ht <;> first | assumption | cases ht
theorem Ha {t : TypeId} {k : IntKind} (ht : Cz P t = some k) : P.underlying t = some (.int k) := by
 unfold Cz at ht
 split at ht
 ·cases ht; assumption
 ·cases ht
theorem TY {T : CS} {v : Value} {k : IntKind} {n : Int} (r : Rd T w v (.int k n)) : v = .int k n := by cases r; rfl
theorem jU {T : CS} {v : Value} {b : Bool} (r : Rd T w v (.bool b)) : v = .bool b := by cases r; rfl
theorem RK {T : CS} {v : Value} {s : ByteArray} (r : Rd T w v (.str s)) : v = .string s := by cases r; rfl
theorem xi (r : Rel T0 B σ a w X h) {x : Operand} {k : IntKind} {n : Int} (hx : VE P σ x k n) : a.eval x = .int k n :=
 TY (r.arg 0 x hx.2 hx.1)
end
end Go.Vm
namespace Go.Vm
section
variable {P : Program} {T0 : CS} {B : Nat -> Prop} {σ : St} {a : Act} {w : World} {X : Nat -> Prop} {h : Nat -> Nat -> Hd}
theorem Own.QN {v : Value} {d : D} {S : Nat -> Prop} (h : Own w v d S) : v.oneCell' = true := by
 cases h with
 | int => rfl
 | bool => rfl
 | str => rfl
 | unk _ h => exact h
 | sl v size rows S e xs Sk ho hz hb hl hk hs hd => rcases ho.2 with ⟨rfl, _⟩ | ⟨g, cap, cur, rfl, _⟩ <;> rfl
theorem IA {t j i : Nat} : ∀ {xs : List D} {c k : Nat} {x : At}, (WS t j i c xs)[k]? = some x -> ∃ d, xs[k]? = some d /\ x = (match d with | .sl _ _ => .tref t j i (c + k) none | d => .d d)
 | [], c, k, x, hx => by simp [WS] at hx
 | d :: xs, c, 0, x, hx => by
  simp only [WS, List.getElem?_cons_zero] at hx
  cases hx
  exact ⟨d, by simp, by cases d <;> simp⟩
 | d :: xs, c, k + 1, x, hx => by
  simp only [WS, List.getElem?_cons_succ] at hx
  obtain ⟨d', pd, rfl⟩ := IA hx
  exact ⟨d', by simpa using pd, by cases d' <;> simp; omega⟩
theorem PW {t j i : Nat} : ∀ (c : Nat) (xs : List D), (WS t j i c xs).length = xs.length
 | _, [] => rfl
 | c, d :: xs => by simp [WS, PW (c + 1) xs]
theorem Hs (q : Bool) (t j i c : Nat) (xs : List D) : (TR q t j i c xs).length = xs.length := by
 cases q <;> simp [TR, PW]
theorem Rel.box (r : Rel T0 B σ a w X h) {t : Nat} {cells : List At} (ho : σ.ob t 0 = .box cells) {c : Nat} {v : Value} (hv : YO (Tof T0 X) h σ.ob w (.bptr t c) v) :
  ∃ b cs e, (h t 0).v = .pointer (some ⟨b, 0, none⟩) /\ v = .pointer (some ⟨b, c, none⟩) /\ w.heap[b]? = some (.cells cs e (0, 0)) /\ YB (YO (Tof T0 X) h σ.ob w) cells cs.toList := by
 obtain ⟨b, hb, rfl⟩ := hv.2 cells ho
 have pr := r.obj t 0
 rw [ho] at pr
 obtain ⟨b', cs, e, pj, hh, pV⟩ := pr
 rw [hb] at pj
 cases pj
 exact ⟨b, cs, e, hb, rfl, hh, pV⟩
theorem y0 {b : Nat} {cs : Array Value} {e : TypeId} {f : Nat × Nat} (hh : w.heap[b]? = some (.cells cs e f)) (k : Nat) (v : Value) (hv : cs.toList[k]? = some v) : w.cell? ⟨b, k, none⟩ = some v := by
 simp only [World.cell?, hh]
 simpa using hv
theorem Rel.arr (r : Rel T0 B σ a w X h) {t j : Nat} {q : Bool} {size : Nat} {rows : List (List D)} (ho : σ.ob t j = .arr q size rows) {i c : Nat} {v : Value} (hv : YO (Tof T0 X) h σ.ob w (.ptr t j i c) v) :
  ∃ b cap cur e xs, (h t j).v = .slice (some ⟨b, 0, none⟩) rows.length cap /\ v = .pointer (some ⟨b, i * size + c, none⟩) /\ w.heap[b]? = some (.cells cur e (0, 0)) /\ rows.length <= cap /\ cap <= maxLen /\ cur.size = cap * size /\
   cur.toList.take (rows.length * size) = xs /\ (∀ r ∈ rows, r.length = size) /\ xs.length = rows.flatten.length /\ (q = false -> YB (Rd (Tof T0 X) w) xs rows.flatten) /\
   (q = true -> KM w xs rows.flatten (fun b => (h t j).u b /\ blk (h t j).v ≠ some b) /\ ∀ k x d, xs[k]? = some x -> rows.flatten[k]? = some d -> d.scalar = false -> (h t j).n k = x) := by
 obtain ⟨b, n, cap, hb, rfl⟩ := hv.2 q size rows ho
 have pr := r.obj t j
 rw [ho] at pr
 cases q with
 | false =>
  obtain ⟨e, xs, pY, hz, pV⟩ := pr
  rcases pY.2 with ⟨h0, _⟩ | ⟨g, g5, cur, hg, _, hh, hle, nm, ni, mT⟩
  ·rw [hb] at h0; cases h0
  ·rw [hb] at hg
   cases hg
   exact ⟨b, cap, cur, e, xs, hb, rfl, hh, hle, nm, ni, mT, hz, pV.length, fun _ => pV, fun hh => by cases hh⟩
 | true =>
  obtain ⟨e, xs, pY, hz, pV, hn⟩ := pr
  rcases pY.2 with ⟨h0, _⟩ | ⟨g, g5, cur, hg, _, hh, hle, nm, ni, mT⟩
  ·rw [hb] at h0; cases h0
  ·rw [hb] at hg
   cases hg
   exact ⟨b, cap, cur, e, xs, hb, rfl, hh, hle, nm, ni, mT, hz, pV.1, (fun hh => by cases hh), fun _ => ⟨pV, hn⟩⟩
theorem Own.hdr {v : Value} {n : Nat} {s : List (List D)} {S : Nat -> Prop} (h : Own w v (.sl n s) S) (hp : 0 < s.length) : ∃ b cap, v = .slice (some ⟨b, 0, none⟩) s.length cap := by
 cases h with
 | sl v size rows S e xs Sk ho hz hb hl hk hs hd =>
  obtain ⟨_, ⟨_, h0⟩ | ⟨g, cap, cur, hv, _⟩⟩ := ho
  ·omega
  ·exact ⟨g, cap, hv⟩
theorem Rel.nest (r : Rel T0 B σ a w X h) {t j i c size n : Nat} {rows s : List (List D)} (ho : σ.ob t j = .arr true size rows) (hi : i < rows.length) (pb : (rows.getD i [])[c]? = some (.sl n s)) : ∃ v0 S, (h t j).n (i * size + c) = v0 /\ Own w v0 (.sl n s) S := by
 have h0 := r.obj t j
 rw [ho] at h0
 obtain ⟨e, vs, mS, hz, ⟨hl, Sk, o1, o2, o3⟩, hn⟩ := h0
 have oC : rows[i]? = some (rows.getD i []) := by simp [List.getD_eq_getElem?_getD, List.getElem?_eq_getElem hi]
 have nA : rows.flatten[i * size + c]? = some (.sl n s) := jG rows size hz i _ oC c _ pb
 have pa : i * size + c < vs.length := by rw [hl]; exact (List.getElem?_eq_some_iff.1 nA).1
 have g6 : vs[i * size + c]? = some vs[i * size + c] := List.getElem?_eq_getElem pa
 exact ⟨_, _, hn _ _ _ g6 nA rfl, o1 _ _ _ g6 nA⟩
theorem C4 (r : Rel T0 B σ a w X h) {o : Oper} {T : TypeId} {x : Operand} {v : V} (pP : o.op = .load T x) (hs : Yc P σ o.op o.type v) :
  ∃ val, (execOp a.eval o).run P w = .ok (.value val) w /\ Qy (Tof T0 X) h σ.ob w v val := by
 simp only [pP, Yc] at hs
 obtain ⟨hg, nZ, hs⟩ := hs
 have hx := r.arg (P := P) 0 x rfl hg
 have key : ∀ (b off : Nat) (xs : List At) (cs : List Value), a.eval x = .pointer (some ⟨b, off, none⟩) -> v = ldV P T xs -> cs.length = P.cellsOf T ->
   (∀ j u, cs[j]? = some u -> w.cell? ⟨b, off + j, none⟩ = some u) -> YB (YO (Tof T0 X) h σ.ob w) xs cs -> ∃ val, (execOp a.eval o).run P w = .ok (.value val) w /\ Qy (Tof T0 X) h σ.ob w v val := by
  intro b off xs cs he hv hl hc pV
  obtain ⟨val, hr, h1, h2⟩ := wc (P := P) nZ hl hc
  refine ⟨val, ?_, ?_⟩
  ·simp only [execOp, pP, he, Sem.run_bind, hr, Result.andThen_ok, Sem.run_pure]
  ·rw [hv]; exact BU nZ pV h1 h2
 split at hs
 ·rename_i t c heq
  rw [heq] at hx
  obtain ⟨cells, ho, hle, hv⟩ := hs
  obtain ⟨b, cs, e, hb, he, hh, pV⟩ := r.box ho hx
  have hlen := pV.length
  refine key b c _ (cut cs.toList c (P.cellsOf T)) he hv (Qj _ _ _ (by omega)) (fun j u hu => y0 hh _ _ (qg _ _ _ _ _ hu)) (pV.cut _ _)
 ·rename_i t j i c heq
  rw [heq] at hx
  obtain ⟨q, size, rows, ho, hi, hle, hv⟩ := hs
  obtain ⟨b, cap, cur, e, xs, hb, he, hh, nG, nm, ni, mT, hz, gP, pV, pY⟩ := r.arr ho hx
  have oC : rows[i]? = some (rows.getD i []) := by simp [List.getD_eq_getElem?_getD, List.getElem?_eq_getElem hi]
  have lY : (rows.getD i []).length = size := hz _ (List.mem_of_getElem? oC)
  have nJ := Yi rows size hz
  have hmul : i * size + size <= rows.length * size := by rw [<- Nat.succ_mul]; exact Nat.mul_le_mul_right _ hi
  have iE : ∀ k d', (cut (rows.getD i []) c (P.cellsOf T))[k]? = some d' -> rows.flatten[i * size + c + k]? = some d' := by
   intro k d' pd
   have h2 := jG rows size hz i _ oC (c + k) d' (qg _ _ _ _ _ pd)
   rw [show i * size + c + k = i * size + (c + k) by omega]; exact h2
  refine key b (i * size + c) _ (cut xs (i * size + c) (P.cellsOf T)) he hv (Qj _ _ _ (by omega)) (fun j u hu => ?_) ?_
  ·have h1 := qg _ _ _ _ _ hu
   refine y0 hh _ _ ?_
   rw [<- mT, List.getElem?_take] at h1
   split at h1
   ·exact h1
   ·cases h1
  ·refine YB.xC (by rw [Qj _ _ _ (by omega), Hs, Qj _ _ _ (by omega)]) (fun k x u hx hu => ?_)
   have h1 := qg _ _ _ _ _ hu
   cases q with
   | false =>
    obtain ⟨d, hd, hr⟩ := (pV rfl).get _ _ h1
    simp only [TR] at hx
    rw [List.getElem?_map] at hx
    cases pd : (cut (rows.getD i []) c (P.cellsOf T))[k]? with
    | none => rw [pd] at hx; cases hx
    | some d' =>
     rw [pd] at hx
     cases hx
     rw [iE k d' pd] at hd
     cases hd
     exact hr
   | true =>
    obtain ⟨⟨_, Sk, pY, _, _⟩, hn⟩ := pY rfl
    simp only [TR] at hx
    obtain ⟨d', pd, rfl⟩ := IA hx
    have pv := pY _ _ _ h1 (iE k d' pd)
    cases d' with
    | sl s rs =>
     refine ⟨pv.QN, fun oA ph lH => ?_⟩
     rw [ho] at lH; cases lH
     show _ = _
     rw [<- hn _ _ _ h1 (iE k _ pd) rfl, Nat.add_assoc]
    | int k n => cases pv; exact .int _ _
    | bool b => cases pv; exact .bool _
    | str s => cases pv; exact .str _
    | unk => exact .unk _ pv.QN
 ·rename_i rr c heq
  rw [heq] at hx
  obtain ⟨hle, hv⟩ := hs
  obtain ⟨b, off, g, he, hk⟩ := hx
  refine key b (off + c) _ ((List.range (P.cellsOf T)).map fun j => g (c + j)) he hv (by simp) (fun j u hu => ?_) ?_
  ·rw [List.getElem?_map] at hu
   rcases Nat.lt_or_ge j (P.cellsOf T) with hj | hj
   ·rw [List.getElem?_range hj] at hu
    cases hu
    have hd := hk (c + j) (rr[c + j]'(by omega)) (List.getElem?_eq_getElem _)
    rw [Nat.add_assoc]; exact hd.1
   ·rw [List.getElem?_eq_none (by simpa using hj)] at hu; cases hu
  ·refine YB.xC (by rw [List.length_map, Qj _ _ _ (by omega)]; simp) (fun k x u hx hu => ?_)
   rw [List.getElem?_map] at hx hu
   cases pd : (cut rr c (P.cellsOf T))[k]? with
   | none => rw [pd] at hx; cases hx
   | some d' =>
    rw [pd] at hx
    cases hx
    have hkl : k < P.cellsOf T := by have := (List.getElem?_eq_some_iff.1 pd).1; rw [Qj _ _ _ (by omega)] at this; exact this
    rw [List.getElem?_range hkl] at hu
    cases hu
    exact (hk (c + k) d' (qg _ _ _ _ _ pd)).2.2
 ·rename_i t j i c k heq
  rw [heq] at hx
  obtain ⟨size, rows, s, ho, hi, pb, hT1, hks, oz, hv⟩ := hs
  obtain ⟨v0, S, hn, pY⟩ := r.nest ho hi pb
  obtain ⟨b, len, lb, gi, he⟩ := hx.2 _ _ ho
  rw [hn] at gi
  cases pY with
  | sl v oA ph S e xs Sk lH hz hb hl hk pc hd =>
   rcases lH.2 with ⟨rfl, h0⟩ | ⟨g, cap, cur, rfl, _, hh, np, nm, ni, mT⟩
   ·omega
   ·cases gi
    have oC : s[k]? = some (s.getD k []) := by simp [List.getD_eq_getElem?_getD, List.getElem?_eq_getElem hks]
    have lY : (s.getD k []).length = 1 := hz _ (List.mem_of_getElem? oC)
    have nJ := Yi s 1 hz
    refine key b k _ (cut xs k (P.cellsOf T)) he hv (Qj _ _ _ (by omega)) (fun j u hu => ?_) ?_
    ·have h1 := qg _ _ _ _ _ hu
     refine y0 hh _ _ ?_
     rw [<- mT, List.getElem?_take] at h1
     split at h1
     ·exact h1
     ·cases h1
    ·refine YB.xC (by rw [List.length_map, Qj _ _ _ (by omega)]; omega) (fun q x u hx hu => ?_)
     rw [List.getElem?_map] at hx
     cases pd : (s.getD k [])[q]? with
     | none => rw [pd] at hx; cases hx
     | some d' =>
      rw [pd] at hx
      cases hx
      have hq : q = 0 := by have := (List.getElem?_eq_some_iff.1 pd).1; omega
      subst hq
      have hf := jG s 1 hz k _ oC 0 d' pd
      rw [Nat.mul_one] at hf
      have bE := hk _ _ _ (qg _ _ _ _ _ hu) hf
      have hs3 : d'.scalar = true := List.all_eq_true.1 oz d' (List.mem_of_getElem? pd)
      cases d' with
      | sl s' rs => cases hs3
      | int k' n' => cases bE; exact .int _ _
      | bool b' => cases bE; exact .bool _
      | str s' => cases bE; exact .str _
      | unk => exact .unk _ bE.QN
 ·exact hs.elim
theorem V1 {T : TypeId} {f : Nat} (hf : je P T f = true) (b off : Nat) : (Instr.fieldAt T (.pointer (some ⟨b, off, none⟩)) f).run P w = .ok (.pointer (some ⟨b, off + Qi P T f, none⟩)) w := by
 obtain ⟨fs, fd, i, hu, iu, gN, nZ, hi, pS⟩ := R0 hf
 have oU : P.cellsOf fd.type ≠ 0 := by simpa [Program.cellsOf, hi] using pS
 simp [Instr.fieldAt, run_underlying hu, iu, Instr.sureAddr, fieldPlace, Jw hi, oU, jo, gN]
theorem LJ (r : Rel T0 B σ a w X h) {o : Oper} {T : TypeId} {x : Operand} {f : Nat} {v : V} (pP : o.op = .fieldAddr T x f) (hs : Yc P σ o.op o.type v) :
  ∃ val, (execOp a.eval o).run P w = .ok (.value val) w /\ Qy (Tof T0 X) h σ.ob w v val := by
 simp only [pP, Yc] at hs
 obtain ⟨hg, hf, hs⟩ := hs
 have hx := r.arg (P := P) 0 x rfl hg
 split at hs
 ·rename_i t c heq
  rw [heq] at hx
  obtain ⟨⟨cells, ho⟩, rfl⟩ := hs
  obtain ⟨b, hb, he⟩ := hx.2 cells ho
  refine ⟨.pointer (some ⟨b, c + Qi P T f, none⟩), by simp only [execOp, pP, he, Sem.run_bind, V1 hf, Result.andThen_ok, Sem.run_pure], rfl, fun pZ _ => ⟨b, hb, rfl⟩⟩
 ·rename_i t j i c heq
  rw [heq] at hx
  obtain ⟨⟨q, size, rows, ho⟩, rfl⟩ := hs
  obtain ⟨b, n, cap, hb, he⟩ := hx.2 q size rows ho
  refine ⟨.pointer (some ⟨b, i * size + c + Qi P T f, none⟩), by simp only [execOp, pP, he, Sem.run_bind, V1 hf, Result.andThen_ok, Sem.run_pure], rfl, fun q' oA ph pv => ?_⟩
  rw [ho] at pv
  cases pv
  exact ⟨b, n, cap, hb, by rw [Nat.add_assoc]⟩
 ·rename_i rr c heq
  rw [heq] at hx
  subst hs
  obtain ⟨b, off, g, he, hk⟩ := hx
  exact ⟨.pointer (some ⟨b, off + c + Qi P T f, none⟩), by simp only [execOp, pP, he, Sem.run_bind, V1 hf, Result.andThen_ok, Sem.run_pure], b, off, g, by rw [Nat.add_assoc], hk⟩
 ·rename_i t j i c k heq
  rw [heq] at hx
  obtain ⟨⟨size, rows, ho⟩, rfl⟩ := hs
  obtain ⟨b, n, cap, hb, he⟩ := hx.2 size rows ho
  refine ⟨.pointer (some ⟨b, k + Qi P T f, none⟩), by simp only [execOp, pP, he, Sem.run_bind, V1 hf, Result.andThen_ok, Sem.run_pure], rfl, fun oA ph pv => ?_⟩
  rw [ho] at pv
  cases pv
  exact ⟨b, n, cap, hb, rfl⟩
 ·exact hs.elim
theorem Ic (r : Rel T0 B σ a w X h) {o : Oper} {x : Operand} {v : V} (pP : o.op = .nilCheck x) (hs : Yc P σ o.op o.type v) :
  ∃ val, (execOp a.eval o).run P w = .ok (.value val) w /\ Qy (Tof T0 X) h σ.ob w v val := by
 simp only [pP, Yc] at hs
 obtain ⟨hg, hs⟩ := hs
 have hx := r.arg (P := P) 0 x rfl hg
 split at hs
 ·rename_i t c heq
  rw [heq] at hx
  obtain ⟨⟨cells, ho⟩, rfl⟩ := hs
  obtain ⟨b, hb, he⟩ := hx.2 cells ho
  exact ⟨.pointer (some ⟨b, c, none⟩), by simp only [execOp, pP, he, Sem.run_pure], rfl, fun pZ _ => ⟨b, hb, rfl⟩⟩
 ·exact hs.elim
theorem Sf {T : TypeId} (ht : XW P T = true) (ad : Addr) (iW : ad.spot = none) (len cap : Nat) (k : IntKind) (i : Int) (h0 : 0 <= i) (hl : i < (len : Int)) :
  (Instr.indexAt T (.slice (some ad) len cap) (.int k i)).run P w = .ok (.pointer (some ⟨ad.block, ad.off + i.toNat * P.cellsOf (ZT P T), none⟩)) w := by
 obtain ⟨ti, hu, hi, oy⟩ := QJ ht
 obtain ⟨b, off, sp⟩ := ad
 simp at iW; subst iW
 simp [Instr.indexAt, asIntOf, run_underlying hu, h0, hl, Jw hi, jo]
theorem Fy {T : TypeId} {n : Nat} (ht : Hb P T = some n) (_h1 : 1 < n) (b off : Nat) (k : IntKind) (i : Int) (h0 : 0 <= i) (hl : i < (n : Int)) :
  (Instr.indexAt T (.pointer (some ⟨b, off, none⟩)) (.int k i)).run P w = .ok (.pointer (some ⟨b, off + i.toNat * P.cellsOf (ZT P T), none⟩)) w := by
 obtain ⟨ti, hu, hi, oy⟩ := IH ht
 simp [Instr.indexAt, Instr.sureAddr, asIntOf, run_underlying hu, h0, hl, Jw hi, jo]
theorem M7 (r : Rel T0 B σ a w X h) {o : Oper} {T : TypeId} {x ix : Operand} {v : V} (pP : o.op = .indexAddr T x ix) (hs : Yc P σ o.op o.type v) :
  ∃ val, (execOp a.eval o).run P w = .ok (.value val) w /\ Qy (Tof T0 X) h σ.ob w v val := by
 simp only [pP, Yc] at hs
 obtain ⟨k, i, aO, h0, hg, hs⟩ := hs
 have hx := r.arg (P := P) 0 x rfl hg
 have gp := xi r aO
 split at hs
 ·rename_i size rows heq
  rw [heq] at hx
  obtain ⟨ht, rfl, o5, pa, rfl⟩ := hs
  have cA : i.toNat < rows.length := by omega
  obtain ⟨ad, len, cap, he, hlen, iW, g, hk⟩ := Rd.row (show Rd _ _ _ _ from hx) i.toNat cA o5
  refine ⟨.pointer (some ⟨ad.block, ad.off + i.toNat * P.cellsOf (ZT P T), none⟩), by simp only [execOp, pP, he, gp, Sem.run_bind, Sf ht ad iW len cap k i h0 (by omega), Result.andThen_ok, Sem.run_pure], ad.block, ad.off + i.toNat * P.cellsOf (ZT P T), g, by simp, hk⟩
 ·rename_i t j lo len heq
  rw [heq] at hx
  obtain ⟨ht, o5, ⟨q, rows, ho⟩, pa, rfl⟩ := hs
  obtain ⟨hle, _, _, base, cap, he, nG, _, _, hb⟩ := hx.2.1 _ _ rows ho
  obtain ⟨b, lb, hh, gS⟩ := hb (by omega)
  rw [gS] at he
  refine ⟨.pointer (some ⟨b, lo * P.cellsOf (ZT P T) + i.toNat * P.cellsOf (ZT P T), none⟩), by simp only [execOp, pP, he, gp, Sem.run_bind, Sf ht ⟨b, lo * P.cellsOf (ZT P T), none⟩ rfl len cap k i h0 pa, Result.andThen_ok, Sem.run_pure], rfl, fun q' oA ph pv => ?_⟩
  rw [ho] at pv
  cases pv
  exact ⟨b, rows.length, lb, hh, by simp [Nat.add_mul]⟩
 ·rename_i t c heq
  rw [heq] at hx
  obtain ⟨⟨cells, ho⟩, ⟨n, hn, h1, pa⟩, rfl⟩ := hs
  obtain ⟨b, hb, he⟩ := hx.2 cells ho
  exact ⟨.pointer (some ⟨b, c + i.toNat * P.cellsOf (ZT P T), none⟩), by simp only [execOp, pP, he, gp, Sem.run_bind, Fy hn h1 b c k i h0 pa, Result.andThen_ok, Sem.run_pure], rfl, fun pZ _ => ⟨b, hb, rfl⟩⟩
 ·rename_i t j m c heq
  rw [heq] at hx
  obtain ⟨ht, o5, ⟨size, rows, s, ho, hm, pb, pa⟩, rfl⟩ := hs
  obtain ⟨v0, S, hn, pY⟩ := r.nest ho hm pb
  have he : a.eval x = v0 := by rw [<- hn]; exact hx.2 size rows ho
  obtain ⟨b, cap, gi⟩ := pY.hdr (by omega)
  rw [gi] at he hn
  refine ⟨.pointer (some ⟨b, 0 + i.toNat * P.cellsOf (ZT P T), none⟩), by simp only [execOp, pP, he, gp, Sem.run_bind, Sf ht ⟨b, 0, none⟩ rfl s.length cap k i h0 pa, Result.andThen_ok, Sem.run_pure], rfl, fun oA ph pv => ?_⟩
  rw [ho] at pv
  cases pv
  exact ⟨b, s.length, cap, hn, by simp⟩
 ·exact hs.elim
end
end Go.Vm
namespace Go.Vm
section
variable {P : Program} {T0 : CS} {B : Nat -> Prop} {σ : St} {a : Act} {w : World} {X : Nat -> Prop} {h : Nat -> Nat -> Hd}
theorem ID {T : TypeId} (ht : xo P T = true) {cs : Array Value} {off : Nat} (hl : off + P.cellsOf T <= cs.size) :
  ∃ val, (part T cs off).run P w = .ok val w /\ (Um P T = true -> val = .agg (cut cs.toList off (P.cellsOf T)).toArray) /\ (Um P T = false -> cut cs.toList off (P.cellsOf T) = [val]) := by
 obtain ⟨d, i, hd, hi, oy, oY⟩ := kC ht
 cases lB : Um P T with
 | true =>
  refine ⟨.agg (cs.extract off (off + P.cellsOf T)), ?_, fun _ => ?_, (fun hh => by cases hh)⟩
  ·simp only [part, Sem.run_bind, Rh hd, lB, Result.andThen_ok, if_true, Jw hi, Sem.run_pure]
  ·congr 1
   apply Array.toList_inj.1
   simp [cut, Array.toList_extract, List.extract_eq_take_drop]
 | false =>
  rcases oY with oY | oY
  ·rw [lB] at oY; cases oY
  ·rw [oY] at hl ⊢
   have pa : off < cs.size := by omega
   refine ⟨cs[off], ?_, (fun hh => by cases hh), fun _ => ?_⟩
   ·simp [part, Rh hd, lB, Array.getElem?_eq_getElem pa]
   ·have : cut cs.toList off 1 = [cs.toList[off]'(by simpa using pa)] := by
     simp only [cut]
     rw [List.drop_eq_getElem_cons (by simpa using pa)]
     simp
    rw [this]
    simp
theorem E8 {T : TypeId} (ht : xo P T = true) {xs : List At} {x : Value} {off : Nat} (hx : Qy (Tof T0 X) h σ.ob w (.agg xs) x) (hl : off + P.cellsOf T <= xs.length) :
  ∃ cs : Array Value, x = .agg cs /\ ∃ val, (part T cs off).run P w = .ok val w /\ Qy (Tof T0 X) h σ.ob w (ldV P T (cut xs off (P.cellsOf T))) val := by
 obtain ⟨cs, rfl, pV⟩ := hx
 obtain ⟨val, hr, h1, h2⟩ := ID (P := P) (w := w) ht (cs := cs) (off := off) (by have := pV.length; simp at this; omega)
 exact ⟨cs, rfl, val, hr, BU ht (pV.cut _ _) h1 h2⟩
theorem Dd (r : Rel T0 B σ a w X h) {o : Oper} {T : TypeId} {x ix : Operand} {v : V} (pP : o.op = .index T x ix) (hs : Yc P σ o.op o.type v) :
  ∃ val, (execOp a.eval o).run P w = .ok (.value val) w /\ Qy (Tof T0 X) h σ.ob w v val := by
 simp only [pP, Yc] at hs
 obtain ⟨k, i, aO, h0, hg, hs⟩ := hs
 have hx := r.arg (P := P) 0 x rfl hg
 have gp := xi r aO
 split at hs
 ·rename_i s heq
  rw [heq] at hx
  obtain ⟨ht, pa, rfl⟩ := hs
  have he := RK hx
  have cA : i.toNat < s.size := by omega
  refine ⟨.int .u8 (s.data.toList.getD i.toNat 0).toNat, ?_, .int _ _⟩
  have od : s[i.toNat]? = some (s.data.toList.getD i.toNat 0) := by
   rw [List.getD_eq_getElem?_getD]
   have h1 : s.data.toList[i.toNat]? = some (s.data[i.toNat]'cA) := by
    rw [List.getElem?_eq_getElem (by simpa using cA)]; simp
   rw [h1, getElem?_pos s i.toNat cA]
   rfl
  simp [execOp, pP, he, gp, Instr.index, asIntOf, run_underlying (qu ht), h0, od]
 ·rename_i xs heq
  rw [heq] at hx
  obtain ⟨⟨n, hn, pa⟩, ht, hl, rfl⟩ := hs
  obtain ⟨ti, hu, hi, oy⟩ := IH hn
  obtain ⟨cs, he, val, hr, hv⟩ := E8 ht hx hl
  refine ⟨val, ?_, hv⟩
  simp [execOp, pP, he, gp, Instr.index, asIntOf, run_underlying hu, h0, pa, Jw hi, hr]
 ·exact hs.elim
theorem DX (r : Rel T0 B σ a w X h) {o : Oper} {T : TypeId} {x : Operand} {f : Nat} {v : V} (pP : o.op = .field T x f) (hs : Yc P σ o.op o.type v) :
  ∃ val, (execOp a.eval o).run P w = .ok (.value val) w /\ Qy (Tof T0 X) h σ.ob w v val := by
 simp only [pP, Yc] at hs
 obtain ⟨hg, hf, ht, hs⟩ := hs
 have hx := r.arg (P := P) 0 x rfl hg
 split at hs
 ·rename_i xs heq
  rw [heq] at hx
  obtain ⟨hl, rfl⟩ := hs
  obtain ⟨fs, fd, i, hu, iu, gN, nZ, hi, pS⟩ := R0 hf
  obtain ⟨cs, he, val, hr, hv⟩ := E8 ht hx hl
  refine ⟨val, ?_, hv⟩
  rw [<- gN, <- nZ] at hr
  simp [execOp, pP, he, Instr.field, run_underlying hu, iu, asAgg, hr]
 ·exact hs.elim
theorem EE (r : Rel T0 B σ a w X h) {nD n y : Nat} {x : Option Operand} {code : BoundsCode} (hb : bnd P σ nD x n) (hy : n <= y) (pS : x ≠ none) :
  (Instr.sliceBound ((x.map a.eval).getD undef) y code).run P w = .ok n w := by
 cases x with
 | none => exact absurd rfl pS
 | some x =>
  obtain ⟨k, i, hg, hx, h0, rfl⟩ := hb
  have he := TY (r.arg (P := P) 0 x hx hg)
  have : i <= (y : Int) := by omega
  simp [he, Instr.sliceBound, asIntOf, h0, this]
theorem P5 (r : Rel T0 B σ a w X h) {sl : Bool} {len cap l hh : Nat} {lo hi : Option Operand} (mZ : bnd P σ 0 lo l) (iB : bnd P σ len hi hh) (h1 : l <= hh) (h2 : hh <= cap) :
  (Instr.sliceBounds sl len cap (lo.map a.eval) (hi.map a.eval) none).run P w = .ok (l, hh, cap) w := by
 unfold Instr.sliceBounds
 cases hi with
 | none =>
  cases iB
  cases lo with
  | none => cases mZ; simp
  | some x =>
   have := EE (w := w) r (code := .sliceB) mZ h1 (by simp)
   simp at this
   simp [this]
 | some y =>
  have hb := EE (w := w) r (code := if sl then .sliceAcap else .sliceAlen) iB h2 (by simp)
  simp at hb
  cases lo with
  | none => cases mZ; simp [hb]
  | some x =>
   have := EE (w := w) r (code := .sliceB) mZ h1 (by simp)
   simp at this
   simp [this, hb]
theorem jI {α : Type} (rows : List (List α)) (size l n : Nat) (hz : ∀ r ∈ rows, r.length = size) (k : Nat) (d : α) (hd : (cut rows l n).flatten[k]? = some d) : rows.flatten[l * size + k]? = some d := by
 induction rows generalizing l with
 | nil => simp [cut] at hd
 | cons r rows ih =>
  have hr : r.length = size := hz r (by simp)
  cases l with
  | zero =>
   simp only [cut, List.drop_zero, Nat.zero_mul, Nat.zero_add] at hd ⊢
   have eE : (r :: rows).flatten = ((r :: rows).take n).flatten ++ ((r :: rows).drop n).flatten := by rw [<- List.flatten_append, List.take_append_drop]
   rw [eE, List.getElem?_append_left (List.getElem?_eq_some_iff.1 hd).1]; exact hd
  | succ l =>
   have := ih l (fun r hr => hz r (by simp [hr])) (by simpa [cut] using hd)
   rw [List.flatten_cons, List.getElem?_append_right (by rw [hr, Nat.add_mul]; omega), hr]
   rw [show (l + 1) * size + k - size = l * size + k by rw [Nat.add_mul]; omega]; exact this
theorem Rd.cut {T : CS} {v : Value} {size : Nat} {rows : List (List D)} {base : Option Addr} {len cap : Nat} (hv : v = .slice base len cap) (r : Rd T w v (.sl size rows)) (l hh : Nat) (h1 : l <= hh) (h2 : hh <= rows.length) (_hsz : 0 < size \/ True) :
  Rd T w (.slice (if cap = l then base else base.map (·.add (l * size))) (hh - l) (cap - l)) (.sl size (Vm.cut rows l (hh - l))) := by
 subst hv
 cases r with
 | nil =>
  simp at h2; subst h2
  have : l = 0 := by omega
  subst this
  simp [Vm.cut]; exact .nil _
 | sl a len cap size rows g hl hc hm hz hs hg hr =>
  have hlen : (Vm.cut rows l (hh - l)).length = hh - l := Qj _ _ _ (by omega)
  have mG : ∀ r ∈ Vm.cut rows l (hh - l), r.length = size := fun r hr => hz r (List.mem_of_mem_drop (List.mem_of_mem_take hr))
  by_cases oG : cap = l
  ·have h0 : hh - l = 0 := by omega
   have mg : Vm.cut rows l (hh - l) = [] := List.eq_nil_of_length_eq_zero (by omega)
   rw [if_pos oG, mg, h0]
   exact .sl a 0 (cap - l) size [] g rfl (Nat.zero_le _) (by omega) (by intro r hr; cases hr) (by simp) (by simp) (by simp)
  ·rw [if_neg oG]
   refine .sl (a.add (l * size)) (hh - l) (cap - l) size _ (fun k => g (l * size + k)) hlen (by omega) (by omega) mG (fun pS => ?_) (fun k d hd => ?_) (fun k d hd => hr _ _ (jI rows size l _ hz k d hd))
   ·have : rows.flatten ≠ [] := by
     intro he
     apply pS
     cases oL : (Vm.cut rows l (hh - l)).flatten with
     | nil => rfl
     | cons d ds =>
      have := jI rows size l (hh - l) hz 0 d (by rw [oL]; rfl)
      rw [he] at this; simp at this
    have iW := hs this
    unfold Addr.add; split <;> simp [iW]
   ·have iW : a.spot = none := hs (by
     intro he
     have := jI rows size l (hh - l) hz k d hd
     rw [he] at this; simp at this)
    have := hg _ _ (jI rows size l (hh - l) hz k d hd)
    obtain ⟨b, off, sp⟩ := a
    simp at iW; subst iW
    rw [jo]
    simp only [Nat.add_assoc] at this ⊢
    exact this
theorem CA (r : Rel T0 B σ a w X h) {o : Oper} {T : TypeId} {x : Operand} {lo hi : Option Operand} {v : V} (pP : o.op = .slice T x lo hi none) (hs : Yc P σ o.op o.type v) :
  ∃ val, (execOp a.eval o).run P w = .ok (.value val) w /\ Qy (Tof T0 X) h σ.ob w v val := by
 simp only [pP, Yc] at hs
 obtain ⟨hg, hs⟩ := hs
 have hx := r.arg (P := P) 0 x rfl hg
 split at hs
 ·rename_i s heq
  rw [heq] at hx
  obtain ⟨ht, l, hh, mZ, iB, h1, h2, rfl⟩ := hs
  have he := RK hx
  have hb := P5 (w := w) r (sl := false) mZ iB h1 h2
  refine ⟨.string (s.extract l hh), ?_, .str _⟩
  simp [execOp, pP, he, Instr.sliceAt, Instr.slice, run_underlying (qu ht), hb]
 ·rename_i size rows heq
  rw [heq] at hx
  obtain ⟨ht, rfl, l, hh, mZ, iB, h1, h2, rfl⟩ := hs
  obtain ⟨ti, hu, o9, oy⟩ := QJ ht
  obtain ⟨base, cap, he, nG, nm⟩ := BP (show Rd _ _ _ _ from hx)
  have hb := P5 (w := w) r (sl := true) (cap := cap) mZ iB h1 (by omega)
  refine ⟨_, ?_, Rd.cut he hx l hh h1 h2 (.inr trivial)⟩
  simp [execOp, pP, he, Instr.sliceAt, Instr.slice, run_underlying hu, hb, Jw o9]
 ·rename_i t j lo0 len heq
  rw [heq] at hx
  obtain ⟨ht, ⟨q, rows, ho⟩, l, hh, mZ, iB, h1, h2, rfl⟩ := hs
  obtain ⟨ti, hu, o9, oy⟩ := QJ ht
  obtain ⟨hle, nf, lI, base, cap, he, nG, nm, fk, aH⟩ := hx.2.1 _ _ rows ho
  have hb := P5 (w := w) r (sl := true) (cap := cap) mZ iB h1 (by omega)
  refine ⟨.slice (if cap = l then base else base.map (·.add (l * P.cellsOf (ZT P T)))) (hh - l) (cap - l), ?_, rfl, fun q' oA ph pv => ?_, fun oA ph pv => by rw [ho] at pv; cases pv⟩
  ·simp [execOp, pP, he, Instr.sliceAt, Instr.slice, run_underlying hu, hb, Jw o9]
  ·rw [ho] at pv
   cases pv
   refine ⟨by omega, fun bC dw => ?_, fun dw => ?_, _, cap - l, rfl, by omega, by omega, fun hn => ?_, fun o5 => ?_⟩
   ·have hl : l = 0 := by omega
    subst hl
    have : len = rows.length := by omega
    have hv := nf this (by omega)
    rw [<- hv, he]
    simp only [Nat.sub_zero, Nat.zero_mul]
    have h3 : hh = len := by omega
    rw [h3]
    congr 1
    split
    ·rfl
    ·cases base <;> simp [Addr.add]
   ·have hl : l = 0 := by omega
    subst hl
    have hv := lI (by omega)
    rw [he] at hv
    have cB : (if cap = 0 then base else base.map (·.add (0 * P.cellsOf (ZT P T)))) = base := by
     split
     ·rfl
     ·cases base <;> simp [Addr.add]
    rw [cB]
    unfold CU at hv ⊢
    revert hv
    cases (h t j).v with
    | slice b n c => intro hv; cases hv; simp
    | _ => intro hv; cases hv
   ·have cE : base = none := by
     by_cases oG : cap = l
     ·rw [if_pos oG] at hn; exact hn
     ·rw [if_neg oG] at hn; simpa using hn
    have := fk cE; omega
   ·obtain ⟨b, lb, gT, gS⟩ := aH (by omega)
    refine ⟨b, lb, gT, ?_⟩
    rw [if_neg (by omega), gS]
    simp [jo, Nat.add_mul]
 ·exact hs.elim
end
end Go.Vm
namespace Go.Vm
section
variable {P : Program} {T0 : CS} {B : Nat -> Prop} {σ : St} {a : Act} {w : World} {X : Nat -> Prop} {h : Nat -> Nat -> Hd}
theorem Cu {α : Type} (l : List α) (k : Nat) (v : α) (vs : List α) (hk : k + (vs.length + 1) <= l.length) : place (l.set k v) (k + 1) vs = place l k (v :: vs) := by
 unfold place
 have h1 : (l.set k v).take (k + 1) = l.take k ++ [v] := by
  rw [List.take_set, List.take_succ_eq_append_getElem (by omega)]
  rw [List.set_append_right _ _ (by simp; omega)]
  simp [Nat.min_eq_left (show k <= l.length by omega)]
 have h2 : (l.set k v).drop (k + 1 + vs.length) = l.drop (k + (vs.length + 1)) := by
  rw [List.drop_set_of_lt (by omega)]; congr 1; omega
 rw [h1, h2]; simp
theorem MZ (off : Nat) : ∀ (vs : List Value) (j : Nat) (cs : Array Value), off + j + vs.length <= cs.size ->
  ((vs.zipIdx j).foldl (fun cs x => cs.setIfInBounds (off + x.2) x.1) cs).toList = place cs.toList (off + j) vs
 | [], j, cs, _ => by simp [place]
 | v :: vs, j, cs, hl => by
  rw [List.zipIdx_cons, List.foldl_cons, MZ off vs (j + 1) _ (by simp at hl ⊢; omega)]
  rw [Array.toList_setIfInBounds, show off + (j + 1) = off + j + 1 by omega, Cu _ _ _ _ (by simp at hl ⊢; omega)]
theorem TJ (off : Nat) (vs cs : Array Value) (hl : off + vs.size <= cs.size) :
  (vs.zipIdx.foldl (fun cs x => cs.setIfInBounds (off + x.2) x.1) cs).toList = place cs.toList off vs.toList := by
 rw [<- Array.foldl_toList, Array.toList_zipIdx, MZ off vs.toList 0 cs (by simpa using hl)]
 rfl
theorem Xs {α : Type} (r : List α) (off : Nat) (xs : List α) (hl : off + xs.length <= r.length) : (place r off xs).length = r.length := by
 simp [place]; omega
theorem YB.place {α β : Type} {R : α -> β -> Prop} {l : List α} {m : List β} (x : YB R l m) (off : Nat) {l' : List α} {m' : List β} (y : YB R l' m') : YB R (Vm.place l off l') (Vm.place m off m') := by
 unfold Vm.place
 rw [y.length]
 exact ((x.take _).append y).append (x.drop _)
theorem kq {T' : CS} {ob : Nat -> Nat -> Ob} {x : V} {v : Value} (hf : x.flat = true) (hv : Qy T' h ob w x v) : YB (YO T' h ob w) x.cells v.cells.toList := by
 cases x with
 | one c =>
  have h1 := YO.QN (show YO _ _ _ _ _ _ from hv)
  have : v.cells = #[v] := by cases v <;> first | rfl | (simp [Value.oneCell'] at h1)
  rw [this]
  exact .cons hv .nil
 | agg xs => obtain ⟨cs, rfl, pV⟩ := hv; exact pV
 | any => cases hf
 | tup xs => cases hf
 | cnd g x => cases hf
 | fix u x => cases hf
theorem Lr (r : Rel T0 B σ a w X h) (T : TypeId) (pl : Nat -> Option (Nat × Nat)) (iA : ∀ i, bOk P T i = true -> pl i = some (jl P T i, P.cellsOf (bTy P T i))) :
  ∀ (ps : List (Nat × Operand)) (row out : List At) (cells : Array Value), YB (YO (Tof T0 X) h σ.ob w) row cells.toList -> Uf P σ T ps row out ->
   ∃ pZ, Instr.fill pl cells (ps.map fun x => (x.1, a.eval x.2)) = some pZ /\ YB (YO (Tof T0 X) h σ.ob w) out pZ.toList
 | [], row, out, cells, pV, hb => by cases hb; exact ⟨cells, rfl, pV⟩
 | (i, x) :: ps, row, out, cells, pV, hb => by
  obtain ⟨po, hg, hf, hlen, hle, hb⟩ := hb
  have hx := kq hf (r.arg (P := P) (bTy P T i) x rfl hg)
  have gU := hx.length
  have dw := pV.length
  have e1 : cells.toList.length = cells.size := Array.length_toList
  have e2 : (a.eval x).cells.toList.length = (a.eval x).cells.size := Array.length_toList
  have lV := pV.place (jl P T i) hx
  have heq := TJ (jl P T i) (a.eval x).cells cells (by omega)
  rw [<- heq] at lV
  obtain ⟨pZ, h1, h2⟩ := Lr r T pl iA ps _ out _ lV hb
  refine ⟨pZ, ?_, h2⟩
  have oy : (a.eval x).cells.size = P.cellsOf (bTy P T i) := by omega
  simp only [List.map_cons, Instr.fill, iA i po]
  rw [if_neg (by simp [oy]; omega)]
  exact h1
theorem run_places (fs : List Field) (hC : ∀ f ∈ fs, (P.info? f.type).isSome = true) (w : World) :
  (fs.mapM (m := Sem) fun f => do pure (f.offset, <- sizeOf f.type)).run P w = .ok (fs.map fun f => (f.offset, P.cellsOf f.type)) w := by
 induction fs with
 | nil => simp
 | cons f fs ih =>
  obtain ⟨i, hi⟩ := Option.isSome_iff_exists.1 (hC f (by simp))
  simp only [List.mapM_cons, Sem.run_bind, Jw hi, Result.andThen_ok, Sem.run_pure, ih (fun f hf => hC f (by simp [hf])), List.map_cons]
theorem E6 (r : Rel T0 B σ a w X h) {o : Oper} {T : TypeId} {parts : Array (Nat × Operand)} {v : V} (pP : o.op = .build T parts) (hs : Yc P σ o.op o.type v) :
  ∃ val, (execOp a.eval o).run P w = .ok (.value val) w /\ Qy (Tof T0 X) h σ.ob w v val := by
 simp only [pP, Yc] at hs
 obtain ⟨hz, lB, z, out, mF, hb, rfl⟩ := hs
 obtain ⟨i, zv, hi, aP, oy, mH⟩ := IK hz mF
 have n9 : (zeroValue T).run P w = .ok zv w := by simp [zeroValue, typeInfo, hi, aP]
 have mU : (parts.map fun (x : Nat × Operand) => (x.1, a.eval x.2)).toList = parts.toList.map fun x => (x.1, a.eval x.2) := by simp
 unfold Um at lB
 split at lB
 ·rename_i fs hu
  by_cases oZ : ∀ f ∈ fs.toList, (P.info? f.type).isSome = true
  ·have iA : ∀ i, bOk P T i = true -> (fs.toList.map fun f => (f.offset, P.cellsOf f.type)).toArray[i]? = some (jl P T i, P.cellsOf (bTy P T i)) := by
    intro i po
    simp only [bOk, hu, Bool.and_eq_true, decide_eq_true_eq] at po
    have pa := po.2
    simp [jl, bTy, hu, Qi, qF, pa]
   obtain ⟨pZ, h1, h2⟩ := Lr r T _ iA parts.toList z out zv.cells (mH _ _ _ _) hb
   refine ⟨.agg pZ, ?_, pZ, rfl, h2⟩
   have hm := run_places (P := P) fs.toList oZ w
   have : (fs.mapM (m := Sem) fun f => do pure (f.offset, <- sizeOf f.type)).run P w = .ok (fs.toList.map fun f => (f.offset, P.cellsOf f.type)).toArray w := by
    rw [Array.mapM_eq_mapM_toList]
    change ((fs.toList.mapM (m := Sem) fun f => do pure (f.offset, <- sizeOf f.type)) >>= fun l => pure l.toArray).run P w = _
    simp only [Sem.run_bind, hm, Result.andThen_ok, Sem.run_pure]
   simp only [execOp, pP, Instr.build, Sem.run_bind, n9, Result.andThen_ok, run_underlying hu, this, mU, h1, Sem.run_pure]
  · -- no part can be placed: then there are none
   have mg : parts.toList = [] := by
    cases hp : parts.toList with
    | nil => rfl
    | cons p ps =>
     obtain ⟨i, x⟩ := p
     rw [hp] at hb
     have po := hb.1
     simp only [bOk, hu, Bool.and_eq_true] at po
     exact absurd (by intro f hf; exact Array.all_eq_true'.1 po.1 f (by simpa using hf)) oZ
   exfalso
   rw [show (12 : Nat) = 11 + 1 from rfl, ko, hu] at mF
   simp only [Option.map_eq_some_iff] at mF
   obtain ⟨rs, mE, _⟩ := mF
   apply oZ
   intro f hf
   have : ∀ (l : List Field) (rs : List (List At)), l.mapM (fun f => ko P 11 f.type) = some rs -> ∀ f ∈ l, (P.info? f.type).isSome = true := by
    intro l
    induction l with
    | nil => intro rs _ f hf; cases hf
    | cons g l ih =>
     intro rs mE f hf
     simp only [List.mapM_cons, Option.bind_eq_bind, Option.bind_eq_some_iff] at mE
     obtain ⟨r0, mb, ec, fX, _⟩ := mE
     rcases List.mem_cons.1 hf with rfl | hf
     ·rw [show (11 : Nat) = 10 + 1 from rfl, ko] at mb
      cases hi0 : P.info? f.type with
      | some i => rfl
      | none => simp [Program.underlying, hi0] at mb
     ·exact ih ec fX f hf
   exact this fs.toList rs mE f hf
 ·rename_i n e hu
  cases gp : P.info? e with
  | none =>
   exfalso
   rw [show (12 : Nat) = 11 + 1 from rfl, ko, hu] at mF
   simp only [Option.map_eq_some_iff] at mF
   obtain ⟨r0, mb, _⟩ := mF
   rw [show (11 : Nat) = 10 + 1 from rfl, ko] at mb
   simp [Program.underlying, gp] at mb
  | some ie =>
   have iA : ∀ i, bOk P T i = true -> (fun i => some (i * P.cellsOf e, P.cellsOf e)) i = some (jl P T i, P.cellsOf (bTy P T i)) := by
    intro i _
    simp [jl, bTy, hu]
   obtain ⟨pZ, h1, h2⟩ := Lr r T _ iA parts.toList z out zv.cells (mH _ _ _ _) hb
   refine ⟨.agg pZ, ?_, pZ, rfl, h2⟩
   simp only [execOp, pP, Instr.build, Sem.run_bind, n9, Result.andThen_ok, run_underlying hu, Jw gp, mU, h1, Sem.run_pure]
 ·cases lB
theorem Wq {t : TypeId} (ht : Rl P t = true) {cs : Array Value} {i : Nat} {v : Value} (hv : cs[i]? = some v) : (part t cs i).run P w = .ok v w := by
 unfold Rl at ht
 split at ht <;> first | (rename_i hu; simp [part, isAgg, run_underlying hu, hv]) | cases ht
theorem CL {t : TypeId} {T' : CS} {ob : Nat -> Nat -> Ob} {x y : At} {u v : Value} {p : Bool} (hp : uE P t x y = some p) (hx : YO T' h ob w x u) (hy : YO T' h ob w y v) (d : Nat) (w' : World) :
  (Op.equalIn (d + 1) t u v).run P w' = .ok p w' := by
 unfold uE at hp
 split at hp
 ·rename_i k a' k' b'
  split at hp
  ·rename_i hc
   obtain ⟨rfl, hi⟩ := hc
   obtain ⟨k2, hH⟩ := Option.isSome_iff_exists.1 hi
   cases hp
   rw [TY hx, TY hy]
   exact Go.run_equalIn_int w' d t _ _ _ _ (Ha hH)
  ·cases hp
 ·split at hp
  ·rename_i hc
   cases hp
   rw [jU hx, jU hy]
   have hu : P.underlying t = some .bool := by
    unfold Mj at hc; split at hc <;> first | assumption | cases hc
   exact Go.run_equalIn_bool' w' d t _ _ hu
  ·cases hp
 ·split at hp
  ·rename_i hc
   cases hp
   rw [RK hx, RK hy]
   rw [Go.run_equalIn_string w' d t _ _ (qu hc), BS]
  ·cases hp
 ·cases hp
theorem NZ {T' : CS} {ob : Nat -> Nat -> Ob} (d : Nat) (cs ds : Array Value) (w' : World) : ∀ (fs : List Field) (i : Nat) (xs ys : List At) (q : Bool), VU P fs i = true -> Qh P (fs.map (·.type)) xs ys = some q ->
  YB (YO T' h ob w) xs (cs.toList.drop i) -> YB (YO T' h ob w) ys (ds.toList.drop i) -> (Op.eqFields (d + 1) cs ds fs).run P w' = .ok q w'
 | [], i, xs, ys, q, _, hq, _, _ => by simp [Qh] at hq; subst hq; simp [Op.eqFields]
 | f :: fs, i, [], ys, q, _, hq, _, _ => by simp [Qh] at hq
 | f :: fs, i, x :: xs, [], q, _, hq, _, _ => by simp [Qh] at hq
 | f :: fs, i, x :: xs, y :: ys, q, po, hq, hx, hy => by
  simp only [VU, Bool.and_eq_true, decide_eq_true_eq, beq_iff_eq] at po
  obtain ⟨⟨⟨hn, ho⟩, oz⟩, po⟩ := po
  simp only [List.map_cons, Qh] at hq
  split at hq
  ·rename_i p q' hp nc
   cases hq
   cases hcd : cs.toList.drop i with
   | nil => rw [hcd] at hx; cases hx
   | cons u us =>
    cases nr : ds.toList.drop i with
    | nil => rw [nr] at hy; cases hy
    | cons v vs =>
     rw [hcd] at hx; rw [nr] at hy
     cases hx with
     | cons aQ hx =>
      cases hy with
      | cons aR hy =>
       have hu : cs[i]? = some u := by
        have : (cs.toList.drop i)[0]? = some u := by rw [hcd]; rfl
        simpa using this
       have hv : ds[i]? = some v := by
        have : (ds.toList.drop i)[0]? = some v := by rw [nr]; rfl
        simpa using this
       have hus : cs.toList.drop (i + 1) = us := by rw [<- List.drop_drop, hcd]; rfl
       have g6 : ds.toList.drop (i + 1) = vs := by rw [<- List.drop_drop, nr]; rfl
       have ih := NZ d cs ds w' fs (i + 1) xs ys q' po nc (by rw [hus]; exact hx) (by rw [g6]; exact hy)
       subst ho
       simp only [Op.eqFields, if_pos hn, Sem.run_bind, Wq oz hu, Wq oz hv, Result.andThen_ok, CL hp aQ aR d w']
       cases p
       ·simp
       ·simpa using ih
  ·cases hq
theorem PX (P : Program) : ∀ (ts : List TypeId) (xs ys : List At) (q : Bool), Qh P ts xs ys = some q -> ts.length <= xs.length /\ ts.length <= ys.length
 | [], _, _, _, _ => ⟨Nat.zero_le _, Nat.zero_le _⟩
 | t :: ts, [], _, _, h => by simp [Qh] at h
 | t :: ts, x :: xs, [], _, h => by simp [Qh] at h
 | t :: ts, x :: xs, y :: ys, q, h => by
  simp only [Qh] at h
  split at h
  ·rename_i p q' hp nc
   have := PX P ts xs ys q' nc
   simp only [List.length_cons]; omega
  ·cases h
theorem Mf (P : Program) : ∀ (ts : List TypeId) (xs ys : List At) (m : Nat), ts.length <= m -> Qh P ts (xs.take m) (ys.take m) = Qh P ts xs ys
 | [], _, _, _, _ => by simp [Qh]
 | t :: ts, _, _, 0, h => by simp at h
 | t :: ts, [], _, m + 1, _ => by simp [Qh]
 | t :: ts, x :: xs, [], m + 1, _ => by simp [Qh]
 | t :: ts, x :: xs, y :: ys, m + 1, h => by
  simp only [List.take_succ_cons, Qh]
  rw [Mf P ts xs ys m (by simpa using h)]
theorem Ip (P : Program) : ∀ (ts us : List TypeId) (xs ys : List At) (q : Bool), Qh P (ts ++ us) xs ys = some q -> ∃ p q', Qh P ts xs ys = some p /\ Qh P us (xs.drop ts.length) (ys.drop ts.length) = some q' /\ q = (p && q')
 | [], us, xs, ys, q, h => ⟨true, q, by simp [Qh], by simpa using h, by simp⟩
 | t :: ts, us, [], _, _, h => by simp [Qh] at h
 | t :: ts, us, x :: xs, [], _, h => by simp [Qh] at h
 | t :: ts, us, x :: xs, y :: ys, q, h => by
  simp only [List.cons_append, Qh] at h
  split at h
  ·rename_i p q0 hp aN
   obtain ⟨p2, q2, h1, h2, h3⟩ := Ip P ts us xs ys q0 aN
   cases h
   exact ⟨p && p2, q2, by simp only [Qh, hp, h1], by simpa using h2, by rw [h3, Bool.and_assoc]⟩
  ·cases h
theorem Pb {T' : CS} {ob : Nat -> Nat -> Ob} (d : Nat) (cs ds : Array Value) (w' : World) : ∀ (fs : List Field) (i : Nat) (xs ys : List At) (q : Bool), Uy P fs i = true -> Qh P (fs.flatMap (FP P)) xs ys = some q ->
  YB (YO T' h ob w) xs (cs.toList.drop i) -> YB (YO T' h ob w) ys (ds.toList.drop i) -> (Op.eqFields (d + 2) cs ds fs).run P w' = .ok q w'
 | [], i, xs, ys, q, _, hq, _, _ => by simp [Qh] at hq; subst hq; simp [Op.eqFields]
 | f :: fs, i, xs, ys, q, po, hq, hx, hy => by
  simp only [Uy, Bool.and_eq_true, decide_eq_true_eq, beq_iff_eq] at po
  obtain ⟨⟨hn, ho⟩, po⟩ := po
  subst ho
  rw [List.flatMap_cons] at hq
  obtain ⟨p, q', hp, nc, rfl⟩ := Ip P _ _ _ _ _ hq
  cases oz : Rl P f.type with
  | true =>
   rw [oz, if_pos rfl] at po
   have hl : FP P f = [f.type] := by unfold FP; rw [oz, if_pos rfl]
   rw [hl] at hp nc
   have nA := NZ (P := P) (d + 1) cs ds w' [f] f.offset xs ys p (by simp only [VU, Bool.and_eq_true, decide_eq_true_eq, beq_iff_eq]; exact ⟨⟨⟨hn, trivial⟩, oz⟩, trivial⟩) hp hx hy
   have ih := Pb d cs ds w' fs (f.offset + 1) (xs.drop 1) (ys.drop 1) q' po nc (by rw [<- List.drop_drop]; exact hx.drop 1) (by rw [<- List.drop_drop]; exact hy.drop 1)
   simp only [Op.eqFields, if_pos hn] at nA ⊢
   have hlen := PX P _ _ _ _ hp
   have gP := hx.length
   have nq := hy.length
   simp only [List.length_cons, List.length_nil, List.length_drop, Array.length_toList] at hlen gP nq
   have hu : cs[f.offset]? = some (cs[f.offset]'(by omega)) := Array.getElem?_eq_getElem _
   have hv : ds[f.offset]? = some (ds[f.offset]'(by omega)) := Array.getElem?_eq_getElem _
   simp only [Sem.run_bind, Wq oz hu, Wq oz hv, Result.andThen_ok] at nA ⊢
   cases xs with
   | nil => simp at hlen
   | cons x xs =>
    cases ys with
    | nil => simp at hlen
    | cons y ys =>
     obtain ⟨u, hu2, aQ⟩ := hx.get 0 x rfl
     obtain ⟨v, oa, aR⟩ := hy.get 0 y rfl
     simp only [Qh] at hp
     split at hp
     ·rename_i p0 q0 hp0 aN
      cases aN
      cases hp
      have e1 : cs[f.offset]'(by omega) = u := by
       have : cs[f.offset]? = some u := by simpa using hu2
       rw [hu] at this; exact Option.some.inj this
      have e2 : ds[f.offset]'(by omega) = v := by
       have : ds[f.offset]? = some v := by simpa using oa
       rw [hv] at this; exact Option.some.inj this
      rw [e1, e2, CL hp0 aQ aR (d + 1) w', Result.andThen_ok]
      cases p0
      ·simp
      ·simpa using ih
     ·cases hp
  | false =>
   rw [oz, if_neg (by simp)] at po
   cases hu : P.underlying f.type with
   | none => rw [hu] at po; cases po
   | some de =>
    rw [hu] at po
    cases de with
    | struct gs =>
     simp only [Bool.and_eq_true, beq_iff_eq, Bool.not_eq_true', decide_eq_true_eq] at po
     obtain ⟨⟨⟨⟨⟨⟨nZ, lB⟩, oG⟩, cr⟩, pt⟩, hgs⟩, po⟩ := po
     have hl : FP P f = gs.toList.map (·.type) := by unfold FP; rw [oz, if_neg (by simp), hu]
     rw [hl] at hp nc
     rw [List.length_map, Array.length_toList] at nc
     have hf : P.fieldsOf f.type = gs := by simp [Program.fieldsOf, hu]
     have hlen := PX P _ _ _ _ hp
     have gP := hx.length
     have nq := hy.length
     simp only [List.length_map, Array.length_toList, List.length_drop] at hlen gP nq
     have ih := Pb d cs ds w' fs (f.offset + gs.size) (xs.drop gs.size) (ys.drop gs.size) q' po nc (by rw [<- List.drop_drop]; exact hx.drop gs.size) (by rw [<- List.drop_drop]; exact hy.drop gs.size)
     obtain ⟨va, hra, dz, _⟩ := ID (P := P) (w := w') nZ (cs := cs) (off := f.offset) (by rw [oG]; omega)
     obtain ⟨vb, bb, og, _⟩ := ID (P := P) (w := w') nZ (cs := ds) (off := f.offset) (by rw [oG]; omega)
     rw [oG] at dz og
     have gk : (Op.equalIn (d + 2) f.type va vb).run P w' = .ok p w' := by
      rw [dz lB, og lB, show d + 2 = (d + 1) + 1 from rfl, Go.run_equalIn_struct w' (d + 1) f.type _ _ (by rw [hf]; exact hu) pt, hf]
      refine NZ (P := P) (h := h) (w := w) (T' := T') (ob := ob) d _ _ w' gs.toList 0 (xs.take gs.size) (ys.take gs.size) p hgs ?_ ?_ ?_
      ·rw [Mf P _ _ _ _ (by simp)]; exact hp
      ·simpa [cut] using hx.take gs.size
      ·simpa [cut] using hy.take gs.size
     simp only [Op.eqFields, if_pos hn, Sem.run_bind, hra, bb, Result.andThen_ok, gk]
     cases p
     ·simp
     ·simpa using ih
    | _ => cases po
theorem B9 {T : TypeId} {T' : CS} {ob : Nat -> Nat -> Ob} {xs ys : List At} {u v : Value} {q : Bool} (po : Rr P T = true) (hq : Qh P (K8 P T) xs ys = some q)
  (hx : Qy T' h ob w (.agg xs) u) (hy : Qy T' h ob w (.agg ys) v) (op : BinOp) (x y : Operand) (w' : World) :
  (eqGuard op T x y u v).run P w' = .ok () w' /\ (binOp .eql T u v).run P w' = .ok (.bool q) w' /\ (binOp .neq T u v).run P w' = .ok (.bool (!q)) w' := by
 obtain ⟨cs, rfl, ni⟩ := hx
 obtain ⟨ds, rfl, iK⟩ := hy
 unfold Rr at po
 split at po
 ·rename_i fs hu
  simp only [Bool.and_eq_true, Bool.not_eq_true'] at po
  have hf : P.fieldsOf T = fs := by simp [Program.fieldsOf, hu]
  have nX : P.underlying T = some (.struct (P.fieldsOf T)) := by rw [hf]; exact hu
  have pq : (Op.equalIn 10000 T (.agg cs) (.agg ds)).run P w' = .ok q w' := by
   rw [show (10000 : Nat) = 9999 + 1 from rfl, Go.run_equalIn_struct w' 9999 T cs ds nX po.1.1, show (9999 : Nat) = 9997 + 2 from rfl]
   exact Pb 9997 cs ds w' _ 0 xs ys q (by rw [hf]; exact po.2) hq (by simpa using ni) (by simpa using iK)
  refine ⟨Go.run_eqGuard_agg w' op T x y cs ds po.1.2, ?_, ?_⟩
  ·rw [Go.run_eql_struct, pq]; rfl
  ·rw [Go.run_neq_struct, pq]; rfl
 ·cases po
end
end Go.Vm
namespace Go.Vm
section
variable {P : Program} {T0 : CS} {B : Nat -> Prop} {σ : St} {a : Act} {w : World} {X : Nat -> Prop} {h : Nat -> Nat -> Hd}
theorem Hi (r : Rel T0 B σ a w X h) {o : Oper} {x : Operand} {v : V} (pP : o.op = .move x \/ o.op = .assign x) (hs : Yc P σ o.op o.type v) :
  ∃ val, (execOp a.eval o).run P w = .ok (.value val) w /\ Qy (Tof T0 X) h σ.ob w v val := by
 rcases pP with pP | pP <;>
 ·simp only [pP, Yc] at hs
  subst hs
  exact ⟨a.eval x, by simp [execOp, pP], r.look _ x⟩
theorem Cc (r : Rel T0 B σ a w X h) {o : Oper} {c x y : Operand} {v : V} (pP : o.op = .pick c x y) (hs : Yc P σ o.op o.type v) :
  ∃ val, (execOp a.eval o).run P w = .ok (.value val) w /\ Qy (Tof T0 X) h σ.ob w v val := by
 simp only [pP, Yc] at hs
 obtain ⟨bc, p, q, hg, hc, hp, hq, cr, hgq, rfl⟩ := hs
 have he := jU (r.arg (P := P) o.type c hc hg)
 cases bc with
 | true =>
  have hx := jU (r.arg (P := P) o.type x (hp rfl) (cr rfl))
  exact ⟨.bool p, by simp [execOp, pP, he, asBool, hx], .bool _⟩
 | false =>
  have hy := jU (r.arg (P := P) o.type y (hq rfl) (hgq rfl))
  exact ⟨.bool q, by simp [execOp, pP, he, asBool, hy], .bool _⟩
theorem j6 (op : BinOp) (T : TypeId) (x y : Operand) {v u : Value} (hv : ∀ cs, v ≠ .agg cs) (hn : v ≠ .nilIface) : (eqGuard op T x y v u).run P w = .ok () w := by
 unfold eqGuard
 cases op <;> simp <;> (split <;> first | exact absurd rfl hn | exact absurd rfl (hv _) | simp)
theorem B2 (r : Rel T0 B σ a w X h) {o : Oper} {op : BinOp} {T T' : TypeId} {x y : Operand} {v : V} (pP : o.op = .binOp op T x y T') (hs : Yc P σ o.op o.type v) :
  ∃ val, (execOp a.eval o).run P w = .ok (.value val) w /\ Qy (Tof T0 X) h σ.ob w v val := by
 simp only [pP, Yc] at hs
 obtain ⟨lu, lv, hs⟩ := hs
 have hx := r.arg (P := P) T x rfl lu
 have hy := r.arg (P := P) T y rfl lv
 unfold CV at hs
 split at hs
 ·rename_i k m k' n heq mc
  rw [heq] at hx; rw [mc] at hy
  have ex := TY hx
  have ey := TY hy
  obtain ⟨d, rfl, val, hr, hd⟩ := Cs (P := P) (t := T) hs.1 hs.2 w
  refine ⟨val, ?_, hd _ _⟩
  simp only [execOp, pP, ex, ey, Sem.run_bind, j6 op T x y (v := .int k m) (u := .int k' n) (by simp) (by simp), Result.andThen_ok, hr, Sem.run_pure]
 ·rename_i m n heq mc
  rw [heq] at hx; rw [mc] at hy
  have ex := RK hx
  have ey := RK hy
  obtain ⟨d, rfl, val, hr, hd⟩ := Cq (P := P) (t := T) hs w
  refine ⟨val, ?_, hd _ _⟩
  simp only [execOp, pP, ex, ey, Sem.run_bind, j6 op T x y (v := .string m) (u := .string n) (by simp) (by simp), Result.andThen_ok, hr, Sem.run_pure]
 ·rename_i m n heq mc
  rw [heq] at hx; rw [mc] at hy
  have ex := jU hx
  have ey := jU hy
  obtain ⟨d, rfl, val, hr, hd⟩ := E9 (P := P) (t := T) hs.1 hs.2 w
  refine ⟨val, ?_, hd _ _⟩
  simp only [execOp, pP, ex, ey, Sem.run_bind, j6 op T x y (v := .bool m) (u := .bool n) (by simp) (by simp), Result.andThen_ok, hr, Sem.run_pure]
 ·rename_i xs ys heq mc
  rw [heq] at hx; rw [mc] at hy
  obtain ⟨po, q, hq, hs⟩ := hs
  obtain ⟨h1, h2, h3⟩ := B9 (P := P) po hq hx hy op x y w
  rcases hs with ⟨rfl, rfl⟩ | ⟨rfl, rfl⟩
  ·exact ⟨.bool q, by simp only [execOp, pP, Sem.run_bind, h1, Result.andThen_ok, h2, Sem.run_pure], .bool _⟩
  ·exact ⟨.bool (!q), by simp only [execOp, pP, Sem.run_bind, h1, Result.andThen_ok, h3, Sem.run_pure], .bool _⟩
 ·exact hs.elim
theorem wP (r : Rel T0 B σ a w X h) {o : Oper} {op : UnOp} {T : TypeId} {x : Operand} {v : V} (pP : o.op = .unOp op T x) (hs : Yc P σ o.op o.type v) :
  ∃ val, (execOp a.eval o).run P w = .ok (.value val) w /\ Qy (Tof T0 X) h σ.ob w v val := by
 simp only [pP, Yc] at hs
 obtain ⟨hg, hs⟩ := hs
 have hx := r.arg (P := P) 0 x rfl hg
 split at hs
 ·rename_i b heq
  rw [heq] at hx
  subst hs
  have he := jU hx
  exact ⟨.bool (!b), by simp [execOp, pP, he, Op.unary], .bool _⟩
 ·rename_i k n heq
  rw [heq] at hx
  subst hs
  have he := TY hx
  exact ⟨.int k (k.wrap (-n)), by simp [execOp, pP, he, Op.unary, Op.intArith], .int _ _⟩
 ·exact hs.elim
theorem GO (r : Rel T0 B σ a w X h) {o : Oper} {S T : TypeId} {x : Operand} {v : V} (pP : o.op = .convert S T x) (hS : (P.underlying S).isSome = true) (hs : Yc P σ o.op o.type v) :
  ∃ val, (execOp a.eval o).run P w = .ok (.value val) w /\ Qy (Tof T0 X) h σ.ob w v val := by
 simp only [pP, Yc] at hs
 obtain ⟨hg, _, hs⟩ := hs
 have hx := r.arg (P := P) 0 x rfl hg
 split at hs
 ·rename_i k' n heq
  rw [heq] at hx
  obtain ⟨k, hk, rfl⟩ := hs
  have he := TY hx
  obtain ⟨d, hd⟩ := Option.isSome_iff_exists.1 hS
  exact ⟨.int k (k.wrap n), by simp [execOp, pP, he, convert, run_underlying hd, run_underlying (Ha hk), Conv.intToInt], .int _ _⟩
 ·exact hs.elim
theorem Hp (r : Rel T0 B σ a w X h) {o : Oper} {x : Operand} {i : Nat} {v : V} (pP : o.op = .extract x i) (hs : Yc P σ o.op o.type v) :
  ∃ val, (execOp a.eval o).run P w = .ok (.value val) w /\ Qy (Tof T0 X) h σ.ob w v val := by
 simp only [pP, Yc] at hs
 obtain ⟨hg, hs⟩ := hs
 have hx := r.arg (P := P) 0 x rfl hg
 split at hs
 ·rename_i xs heq
  rw [heq] at hx
  obtain ⟨vs, he, pV⟩ := hx
  obtain ⟨val, nv, hr⟩ := pV.get i v hs.1
  have : vs[i]? = some val := by simpa using nv
  exact ⟨val, by simp [execOp, pP, he, Instr.extract, this], hr.up⟩
 ·exact hs.elim
theorem Dg (r : Rel T0 B σ a w X h) {o : Oper} {c : Call} {v : V} (pP : o.op = .call c) (hs : Yc P σ o.op o.type v) :
  ∃ val, (execOp a.eval o).run P w = .ok (.value val) w /\ Qy (Tof T0 X) h σ.ob w v val := by
 simp only [pP, Yc] at hs
 obtain ⟨callee, args, argTypes⟩ := c
 simp only at hs
 split at hs
 ·rename_i x t ha ht
  obtain rfl : args = #[x] := by apply Array.toList_inj.1; simpa using ha
  obtain rfl : argTypes = #[t] := by apply Array.toList_inj.1; simpa using ht
  obtain ⟨hg, hs⟩ := hs
  have hx := r.arg (P := P) t x rfl hg
  split at hs
  ·rename_i s heq
   rw [heq] at hx
   obtain ⟨pt, rfl⟩ := hs
   have he := RK hx
   exact ⟨.int .i64 s.size, by simp [execOp, pP, resolve, invoke, builtin, he, Builtin.len_, run_underlying (qu pt), goInt], .int _ _⟩
  ·rename_i size rows heq
   rw [heq] at hx
   obtain ⟨pt, rfl⟩ := hs
   obtain ⟨ti, hu, _, _⟩ := QJ pt
   obtain ⟨base, cap, he, _, _⟩ := BP (show Rd _ _ _ _ from hx)
   exact ⟨.int .i64 rows.length, by simp [execOp, pP, resolve, invoke, builtin, he, Builtin.len_, run_underlying hu, goInt], .int _ _⟩
  ·rename_i size heq
   rw [heq] at hx
   obtain ⟨pt, rfl⟩ := hs
   obtain ⟨ti, hu, _, _⟩ := QJ pt
   have he : a.eval x = .slice none 0 0 := hx
   exact ⟨.int .i64 0, by simp [execOp, pP, resolve, invoke, builtin, he, Builtin.len_, run_underlying hu, goInt], .int _ _⟩
  ·rename_i u j lo len heq
   rw [heq] at hx
   obtain ⟨pt, ho, rfl⟩ := hs
   obtain ⟨ti, hu, _, _⟩ := QJ pt
   have gT : ∃ base cap, a.eval x = .slice base len cap := by
    rcases ho with ⟨q, size, rows, ho⟩ | ⟨size, rows, ho⟩
    ·obtain ⟨_, _, _, base, cap, he, _, _, _, _⟩ := hx.2.1 _ _ _ ho
     exact ⟨base, cap, he⟩
    ·obtain ⟨_, _, _, base, cap, he, _, _, _, _⟩ := hx.2.2 _ _ ho
     exact ⟨base, cap, he⟩
   obtain ⟨base, cap, he⟩ := gT
   exact ⟨.int .i64 len, by simp [execOp, pP, resolve, invoke, builtin, he, Builtin.len_, run_underlying hu, goInt], .int _ _⟩
  ·rename_i u j i c heq
   rw [heq] at hx
   obtain ⟨pt, size, rows, n, s, ho, hi, pb, rfl⟩ := hs
   obtain ⟨ti, hu, _, _⟩ := QJ pt
   obtain ⟨v0, S, hn, pY⟩ := r.nest ho hi pb
   have fH : a.eval x = _ := hx.2 _ _ ho
   rw [hn] at fH
   have he : ∃ base cap, a.eval x = .slice base s.length cap := by
    rw [fH]
    cases pY with
    | sl v size rows S e xs Sk lH hz hb hl hk hs hd =>
     rcases lH.2 with ⟨rfl, h0⟩ | ⟨g, cap, cur, rfl, _⟩
     ·exact ⟨none, 0, by rw [h0]⟩
     ·exact ⟨_, cap, rfl⟩
   obtain ⟨base, cap, he⟩ := he
   exact ⟨.int .i64 s.length, by simp [execOp, pP, resolve, invoke, builtin, he, Builtin.len_, run_underlying hu, goInt], .int _ _⟩
  ·exact hs.elim
 ·rename_i x y ha
  obtain rfl : args = #[x, y] := by apply Array.toList_inj.1; simpa using ha
  obtain ⟨k, m, n, hx, hy, rfl⟩ := hs
  have ex := xi r hx
  have ey := xi r hy
  exact ⟨.int k (if n > m then n else m), by simp [execOp, pP, resolve, invoke, builtin, ex, ey, Builtin.max_, Builtin.max2], .int _ _⟩
 ·rename_i x y ha
  obtain rfl : args = #[x, y] := by apply Array.toList_inj.1; simpa using ha
  obtain ⟨k, m, n, hx, hy, rfl⟩ := hs
  have ex := xi r hx
  have ey := xi r hy
  exact ⟨.int k (if n < m then n else m), by simp [execOp, pP, resolve, invoke, builtin, ex, ey, Builtin.min_, Builtin.min2], .int _ _⟩
 ·exact hs.elim
theorem Mn (r : Rel T0 B σ a w X h) {o : Oper} {v : V} (hs : Yc P σ o.op o.type v) :
  ∃ val, (execOp a.eval o).run P w = .ok (.value val) w /\ Qy (Tof T0 X) h σ.ob w v val := by
 cases pP : o.op with
 | move x => exact Hi r (.inl pP) hs
 | assign x => exact Hi r (.inr pP) hs
 | pick c x y => exact Cc r pP hs
 | load T x => exact C4 r pP hs
 | fieldAddr T x f => exact LJ r pP hs
 | nilCheck x => exact Ic r pP hs
 | indexAddr T x i => exact M7 r pP hs
 | index T x i => exact Dd r pP hs
 | field T x f => exact DX r pP hs
 | slice T x lo hi m =>
  cases m with
  | none => exact CA r pP hs
  | some m => rw [pP] at hs; exact hs.elim
 | binOp op T x y T' => exact B2 r pP hs
 | unOp op T x => exact wP r pP hs
 | convert S T x => rw [pP] at hs; exact GO r pP hs.2.1 (by rw [pP]; exact hs)
 | extract x i => exact Hp r pP hs
 | call c => exact Dg r pP hs
 | build T ps => exact E6 r pP hs
 | _ => rw [pP] at hs; exact hs.elim
end
end Go.Vm
namespace Go.Vm
def At.ref (d : Nat) : At -> Bool
 | .sref t _ _ _ => t == d
 | .ptr t _ _ _ => t == d
 | .bptr t _ => t == d
 | .fn _ t => t == d
 | .tref t _ _ _ _ => t == d
 | _ => false
def YU (d : Nat) : List At -> Bool
 | [] => false
 | x :: xs => x.ref d || YU d xs
def V.NI (d : Nat) : V -> Bool
 | .one x => x.ref d
 | .agg xs => YU d xs
 | _ => false
def Uv (d : Nat) : List V -> Bool
 | [] => false
 | x :: xs => x.NI d || Uv d xs
def V.ref (d : Nat) : V -> Bool
 | .tup xs => Uv d xs
 | .cnd _ x => x.NI d || (match x with | .tup xs => Uv d xs | _ => false)
 | .one x => x.ref d
 | .agg xs => YU d xs
 | .fix _ x => x.NI d || (match x with | .tup xs => Uv d xs | _ => false)
 | .any => false
def Y0 (d : Nat) : List Ob -> Bool
 | [] => false
 | .box cells :: os => YU d cells || Y0 d os
 | .lit _ rows :: os => YU d rows.flatten || Y0 d os
 | _ :: os => Y0 d os
def z7 (d : Nat) : Nat -> St -> Bool
 | _, [] => true
 | k, e :: σ => (k == d || (!e.1.ref d && !Y0 d e.2)) && z7 d (k + 1) σ
def St.fresh (σ : St) (d : Nat) : Bool := decide (d < σ.length) && z7 d 0 σ
theorem y5 {d : Nat} : ∀ {σ : St} {k : Nat}, z7 d k σ = true -> ∀ t e, σ[t]? = some e -> k + t ≠ d -> e.1.ref d = false /\ Y0 d e.2 = false
 | [], _, _, t, e, he, _ => by simp at he
 | e0 :: σ, k, hf, t, e, he, pS => by
  simp only [z7, Bool.and_eq_true, Bool.or_eq_true, beq_iff_eq, Bool.not_eq_true'] at hf
  cases t with
  | zero =>
   simp at he; subst he
   rcases hf.1 with h | h
   ·omega
   ·exact h
  | succ t => exact y5 hf.2 t e (by simpa using he) (by omega)
theorem St.B1 {σ : St} {d : Nat} (hf : σ.fresh d = true) (t : Nat) (pS : t ≠ d) : (σ.get t).ref d = false := by
 simp only [St.fresh, Bool.and_eq_true] at hf
 unfold St.get
 cases he : σ[t]? with
 | none => rfl
 | some e => exact (y5 hf.2 t e he (by omega)).1
theorem FG {d : Nat} : ∀ {os : List Ob}, Y0 d os = false -> ∀ j cells, Yo os j = .box cells -> YU d cells = false
 | [], _, j, cells, h => by simp [Yo] at h
 | o :: os, hr, j, cells, h => by
  cases j with
  | zero =>
   simp [Yo] at h; subst h
   simp [Y0] at hr; exact hr.1
  | succ j =>
   have : Yo os j = .box cells := by simpa [Yo] using h
   refine FG (os := os) ?_ j cells this
   cases o <;> simp_all [Y0]
theorem Hm {d : Nat} : ∀ {os : List Ob}, Y0 d os = false -> ∀ j size rows, Yo os j = .lit size rows -> YU d rows.flatten = false
 | [], _, j, _, _, h => by simp [Yo] at h
 | o :: os, hr, j, size, rows, h => by
  cases j with
  | zero =>
   simp [Yo] at h; subst h
   simp [Y0] at hr; exact hr.1
  | succ j =>
   have : Yo os j = .lit size rows := by simpa [Yo] using h
   refine Hm (os := os) ?_ j size rows this
   cases o <;> simp_all [Y0]
theorem St.AU {σ : St} {d : Nat} (hf : σ.fresh d = true) (t j : Nat) (pS : t ≠ d) (size : Nat) (rows : List (List At)) (ho : σ.ob t j = .lit size rows) : YU d rows.flatten = false := by
 simp only [St.fresh, Bool.and_eq_true] at hf
 unfold St.ob at ho
 cases he : σ[t]? with
 | none => rw [he] at ho; cases ho
 | some e => rw [he] at ho; exact Hm (y5 hf.2 t e he (by omega)).2 j size rows ho
theorem St.wz {σ : St} {d : Nat} (hf : σ.fresh d = true) (t j : Nat) (pS : t ≠ d) (cells : List At) (ho : σ.ob t j = .box cells) : YU d cells = false := by
 simp only [St.fresh, Bool.and_eq_true] at hf
 unfold St.ob at ho
 cases he : σ[t]? with
 | none => rw [he] at ho; cases ho
 | some e => rw [he] at ho; exact FG (y5 hf.2 t e he (by omega)).2 j cells ho
theorem St.yh {σ : St} {d : Nat} (hf : σ.fresh d = true) : d < σ.length := by
 simp only [St.fresh, Bool.and_eq_true, decide_eq_true_eq] at hf; exact hf.1
def Cpt (h h' : Nat -> Nat -> Hd) (ob nT : Nat -> Nat -> Ob) (t j : Nat) : Prop :=
 (∀ q size rows, nT t j = .arr q size rows -> h' t j = h t j /\ ∃ pf, ob t j = .arr q size pf /\ pf.length = rows.length) /\
 (∀ size rows, nT t j = .lit size rows -> h' t j = h t j /\ ∃ pf, ob t j = .lit size pf /\ pf.length = rows.length) /\
 (∀ cells, nT t j = .box cells -> h' t j = h t j /\ ∃ o6, ob t j = .box o6)
theorem Cpt.same {h h' : Nat -> Nat -> Hd} {ob nT : Nat -> Nat -> Ob} {t j : Nat} (hh : h' t j = h t j) (ho : nT t j = ob t j) : Cpt h h' ob nT t j :=
 ⟨fun q size rows e => ⟨hh, rows, by rw [<- ho]; exact e, rfl⟩, fun size rows e => ⟨hh, rows, by rw [<- ho]; exact e, rfl⟩, fun cells e => ⟨hh, cells, by rw [<- ho]; exact e⟩⟩
section
variable {T T' : CS} {h h' : Nat -> Nat -> Hd} {ob nT : Nat -> Nat -> Ob} {w w' : World} {d : Nat}
theorem YO.carry (hT : ∀ b k v, T b k -> w.cell? ⟨b, k, none⟩ = some v -> w'.cell? ⟨b, k, none⟩ = some v /\ T' b k) (hc : ∀ t j, t ≠ d -> Cpt h h' ob nT t j)
  {x : At} {v : Value} (hx : x.ref d = false) (r : YO T h ob w x v) : YO T' h' nT w' x v := by
 cases x with
 | any => exact r
 | d x => exact Rd.mono hT r
 | nil s => exact r
 | sref t j lo len =>
  have ht : t ≠ d := by simpa [At.ref] using hx
  refine ⟨r.1, fun q size rows ho => ?_, fun size rows ho => ?_⟩
  ·obtain ⟨hh, pf, oc, hl⟩ := (hc t j ht).1 q size rows ho
   rw [hh, <- hl]; exact r.2.1 q size pf oc
  ·obtain ⟨hh, pf, oc, hl⟩ := (hc t j ht).2.1 size rows ho
   rw [hh, <- hl]; exact r.2.2 size pf oc
 | ptr t j i c =>
  have ht : t ≠ d := by simpa [At.ref] using hx
  refine ⟨r.1, fun q size rows ho => ?_⟩
  obtain ⟨hh, pf, oc, hl⟩ := (hc t j ht).1 q size rows ho
  rw [hh]; exact r.2 q size pf oc
 | bptr t c =>
  have ht : t ≠ d := by simpa [At.ref] using hx
  refine ⟨r.1, fun cells ho => ?_⟩
  obtain ⟨hh, o6, oc⟩ := (hc t 0 ht).2.2 cells ho
  rw [hh]; exact r.2 o6 oc
 | fn f t =>
  have ht : t ≠ d := by simpa [At.ref] using hx
  refine ⟨r.1, fun cells ho => ?_⟩
  obtain ⟨hh, o6, oc⟩ := (hc t 0 ht).2.2 cells ho
  rw [hh]; exact r.2 o6 oc
 | tref t j i c o =>
  have ht : t ≠ d := by simpa [At.ref] using hx
  refine ⟨r.1, fun size rows ho => ?_⟩
  obtain ⟨hh, pf, oc, hl⟩ := (hc t j ht).1 true size rows ho
  rw [hh]; exact r.2 size pf oc
 | rptr rr c =>
  obtain ⟨b, off, g, e, hk⟩ := r
  exact ⟨b, off, g, e, fun k d hd => ⟨(hT _ _ _ (hk k d hd).2.1 (hk k d hd).1).1, (hT _ _ _ (hk k d hd).2.1 (hk k d hd).1).2, Rd.mono hT (hk k d hd).2.2⟩⟩
theorem W5 (hT : ∀ b k v, T b k -> w.cell? ⟨b, k, none⟩ = some v -> w'.cell? ⟨b, k, none⟩ = some v /\ T' b k) (hc : ∀ t j, t ≠ d -> Cpt h h' ob nT t j)
  {xs : List At} {vs : List Value} (hx : YU d xs = false) (r : YB (YO T h ob w) xs vs) : YB (YO T' h' nT w') xs vs := by
 induction r with
 | nil => exact .nil
 | cons r _ ih =>
  simp only [YU, Bool.or_eq_false_iff] at hx
  exact .cons (YO.carry hT hc hx.1 r) (ih hx.2)
theorem Kp.carry (hT : ∀ b k v, T b k -> w.cell? ⟨b, k, none⟩ = some v -> w'.cell? ⟨b, k, none⟩ = some v /\ T' b k) (hc : ∀ t j, t ≠ d -> Cpt h h' ob nT t j)
  {x : V} {v : Value} (hx : x.NI d = false) (r : Kp T h ob w x v) : Kp T' h' nT w' x v := by
 cases x with
 | any => exact r
 | one x => exact YO.carry hT hc hx r
 | agg xs => obtain ⟨cs, e, r⟩ := r; exact ⟨cs, e, W5 hT hc hx r⟩
 | tup xs => exact r.elim
 | cnd g x => exact r.elim
 | fix u x => exact r.elim
theorem Qy.carry (hT : ∀ b k v, T b k -> w.cell? ⟨b, k, none⟩ = some v -> w'.cell? ⟨b, k, none⟩ = some v /\ T' b k) (hc : ∀ t j, t ≠ d -> Cpt h h' ob nT t j)
  {x : V} {v : Value} (hx : x.ref d = false) (r : Qy T h ob w x v) : Qy T' h' nT w' x v := by
 cases x with
 | any => exact r
 | one x => exact YO.carry hT hc hx r
 | agg xs => obtain ⟨cs, e, r⟩ := r; exact ⟨cs, e, W5 hT hc hx r⟩
 | tup xs =>
  obtain ⟨vs, e, r⟩ := r
  refine ⟨vs, e, ?_⟩
  clear e
  generalize vs.toList = vl at r
  simp only [V.ref] at hx
  induction r with
  | nil => exact .nil
  | cons r _ ih =>
   simp only [Uv, Bool.or_eq_false_iff] at hx
   exact .cons (Kp.carry hT hc hx.1 r) (ih hx.2)
 | cnd g x =>
  simp only [V.ref, Bool.or_eq_false_iff] at hx
  exact ⟨fun hg => Kp.carry hT hc hx.1 (r.1 hg), r.2⟩
 | fix u x =>
  simp only [V.ref, Bool.or_eq_false_iff] at hx
  exact ⟨r.1, Kp.carry hT hc hx.1 r.2⟩
end
section
variable {P : Program} {T0 : CS} {B : Nat -> Prop} {σ : St} {a : Act} {w w' : World} {X X' : Nat -> Prop} {h : Nat -> Nat -> Hd}
theorem Rel.Tlt (r : Rel T0 B σ a w X h) {b k : Nat} (hb : Tof T0 X b k) : b < w.heap.size := by
 rcases hb with hb | hb
 ·exact r.hB b (r.hT b k hb)
 ·exact (r.hX b hb).2
theorem qE {e : TypeId} {size n : Nat} {v : Value} {xs : List Value} (hb : ∀ b, blk v = some b -> w'.heap[b]? = w.heap[b]?) (ho : w.ownsRow 0 e size v n xs) : w'.ownsRow 0 e size v n xs := by
 refine ⟨ho.1, ?_⟩
 rcases ho.2 with hn | ⟨g, cap, cur, rfl, h0, hg, rest⟩
 ·exact .inl hn
 ·exact .inr ⟨g, cap, cur, rfl, h0, by rw [hb g rfl]; exact hg, rest⟩
theorem Own.P1 {v : Value} {d : D} {S : Nat -> Prop} (hb : ∀ b, S b -> w'.heap[b]? = w.heap[b]?) (ho : Own w v d S) : Own w' v d S := by
 induction ho with
 | int k n S => exact .int k n S
 | bool b S => exact .bool b S
 | str s S => exact .str s S
 | unk v h S => exact .unk v h S
 | sl v size rows S e xs Sk ho hz pj hl hk hs hd ih =>
  exact .sl v size rows S e xs Sk (qE (fun b h => hb b (pj b h)) ho) hz pj hl (fun k x d hx pd => ih k x d hx pd (fun b h => hb b (hs k b h).1)) hs hd
theorem Own.mono {v : Value} {d : D} {S S' : Nat -> Prop} (hS : ∀ b, S b -> S' b) (ho : Own w v d S) : Own w v d S' := by
 cases ho with
 | int k n S => exact .int k n S'
 | bool b S => exact .bool b S'
 | str s S => exact .str s S'
 | unk v h S => exact .unk v h S'
 | sl v size rows S e xs Sk ho hz pj hl hk hs hd => exact .sl v size rows S' e xs Sk ho hz (fun b h => hS b (pj b h)) hl hk (fun k b h => ⟨hS b (hs k b h).1, (hs k b h).2⟩) hd
theorem KM.P1 {xs : List Value} {ds : List D} {S : Nat -> Prop} (hb : ∀ b, S b -> w'.heap[b]? = w.heap[b]?) (ho : KM w xs ds S) : KM w' xs ds S := by
 obtain ⟨hl, Sk, h1, h2, h3⟩ := ho
 exact ⟨hl, Sk, fun k x d hx hd => (h1 k x d hx hd).P1 (fun b h => hb b (h2 k b h)), h2, h3⟩
theorem J3.P1 {T T' : CS} {h h' : Nat -> Nat -> Hd} {ob nT : Nat -> Nat -> Ob} {d : Nat} {hd : Hd} {o : Ob}
  (hT : ∀ b k v, T b k -> w.cell? ⟨b, k, none⟩ = some v -> w'.cell? ⟨b, k, none⟩ = some v /\ T' b k) (hc : ∀ t j, t ≠ d -> Cpt h h' ob nT t j)
  (oo : o ≠ .none -> ∀ b, blk hd.v = some b -> hd.u b) (hb : o ≠ .none -> ∀ b, hd.u b -> w'.heap[b]? = w.heap[b]?) (hr : Y0 d [o] = false) (r : J3 T h ob w hd o) : J3 T' h' nT w' hd o := by
 cases o with
 | none => trivial
 | box cells =>
  obtain ⟨b, cs, e, hv, hh, pV⟩ := r
  simp only [Y0, Bool.or_false] at hr
  exact ⟨b, cs, e, hv, by rw [hb (by simp) b (oo (by simp) b (by rw [hv]; rfl))]; exact hh, W5 hT hc hr pV⟩
 | arr q size rows =>
  have hk : ∀ {e : TypeId} {n : Nat} {xs : List Value}, w.ownsRow 0 e size hd.v n xs -> w'.ownsRow 0 e size hd.v n xs := fun ho => qE (fun b h => hb (by simp) b (oo (by simp) b h)) ho
  cases q with
  | false =>
   obtain ⟨e, xs, ho, hz, pV⟩ := r
   exact ⟨e, xs, hk ho, hz, pV.imp fun _ _ => Rd.mono hT⟩
  | true =>
   obtain ⟨e, xs, ho, hz, pV, hn⟩ := r
   exact ⟨e, xs, hk ho, hz, pV.P1 (fun b h => hb (by simp) b h.1), hn⟩
 | lit size rows =>
  obtain ⟨e, xs, ho, hz, pV⟩ := r
  simp only [Y0, Bool.or_false] at hr
  exact ⟨e, xs, qE (fun b h => hb (by simp) b (oo (by simp) b h)) ho, hz, W5 hT hc hr pV⟩
theorem St.Ae {σ : St} {d : Nat} (hf : σ.fresh d = true) (t j : Nat) (pS : t ≠ d) : Y0 d [σ.ob t j] = false := by
 cases ho : σ.ob t j with
 | none => rfl
 | box cells => simp [Y0, St.wz hf t j pS cells ho]
 | arr q size rows => rfl
 | lit size rows => simp only [Y0, St.AU hf t j pS size rows ho, Bool.or_false]
theorem Rel.vr (r : Rel T0 B σ a w X h) {d : Nat} (hf : σ.fresh d = true) (M : Nat -> Prop) (oy : w.heap.size <= w'.heap.size) (hg : ∀ k, k < w.heap.size -> ¬ M k -> w'.heap[k]? = w.heap[k]?)
  (hm : ∀ b, M b -> ¬ B b /\ ¬ X b /\ ∀ t j, t ≠ d -> σ.ob t j ≠ .none -> ¬ (h t j).u b) (hX : ∀ b, X b -> X' b) (hO : ∀ b, X' b -> X b \/ (w.heap.size <= b /\ b < w'.heap.size))
  (v : V) (val : Value) (os : List Ob) (hd : Nat -> Hd)
  (hv : Qy (Tof T0 X') (fun t j => if t = d then hd j else h t j) (σ.new d v os).ob w' v val)
  (dv : ∀ j, J3 (Tof T0 X') (fun t j => if t = d then hd j else h t j) (σ.new d v os).ob w' (hd j) (Yo os j))
  (oo : ∀ j b, Yo os j ≠ .none -> blk (hd j).v = some b -> (hd j).u b)
  (pY : ∀ j b, Yo os j ≠ .none -> (hd j).u b -> (w.heap.size <= b \/ M b) /\ ¬ X' b /\ b < w'.heap.size)
  (gR : ∀ j j' b, Yo os j ≠ .none -> Yo os j' ≠ .none -> (hd j).u b -> (hd j').u b -> j = j') :
  Rel T0 B (σ.new d v os) (a.put (some d) val) w' X' (fun t j => if t = d then hd j else h t j) := by
 have pa := St.yh hf
 have hTm : ∀ b k, Tof T0 X b k -> ¬ M b := by
  intro b k hb bD
  rcases hb with hb | hb
  ·exact (hm b bD).1 (r.hT b k hb)
  ·exact (hm b bD).2.1 hb
 have hT : ∀ b k v, Tof T0 X b k -> w.cell? ⟨b, k, none⟩ = some v -> w'.cell? ⟨b, k, none⟩ = some v /\ Tof T0 X' b k := by
  intro b k v hb pb
  refine ⟨?_, hb.imp id (hX b)⟩
  rw [World.cell?_of_block (hg b (r.Tlt hb) (hTm b k hb))]; exact pb
 have hc : ∀ t j, t ≠ d -> Cpt h (fun t j => if t = d then hd j else h t j) σ.ob (σ.new d v os).ob t j := by
  intro t j pS
  have he : (σ.new d v os).ob t j = σ.ob t j := by rw [St.Jx, if_neg (fun hh => pS hh.1)]
  exact Cpt.same (by simp [pS]) he
 refine ⟨by simp [Act.put, r.size, St.kE], r.defers, fun b hb => Nat.lt_of_lt_of_le (r.hB b hb) oy, fun b hb => ?_, r.hT, fun t ht => ?_, fun t j => ?_, fun t j b ho hb => ?_, fun t j b ho hb => ?_, fun t j t' j' b ho pv hb pj => ?_⟩
 ·rcases hO b hb with hb | hb
  ·have := r.hX b hb; exact ⟨this.1, by omega⟩
  ·exact ⟨fun nu => by have := r.hB b nu; omega, hb.2⟩
 ·rw [St.kE] at ht
  rw [St.Wi]
  by_cases pd : t = d
  ·subst pd
   simp only [pa, and_self, if_true]
   have : (a.tmps.setIfInBounds t val).getD t undef = val := by simp [r.size, pa]
   simp only [Act.put, this]; exact hv
  ·rw [if_neg (fun hh => pd hh.1)]
   have : (a.tmps.setIfInBounds d val).getD t undef = a.tmps.getD t undef := by simp [Array.getElem?_setIfInBounds_ne (Ne.symm pd)]
   simp only [Act.put, this]
   exact Qy.carry hT hc (St.B1 hf t pd) (r.slot t ht)
 ·rw [St.Jx]
  by_cases pd : t = d
  ·subst pd
   simp only [pa, and_self, if_true]; exact dv j
  ·have pS : ¬ (t = d /\ d < σ.length) := fun hh => pd hh.1
   rw [if_neg pS]
   simp only [if_neg pd]
   exact J3.P1 hT hc (fun ho b => r.ub t j b ho) (fun ho b hu => hg b (r.own t j b ho hu).2.2 (fun bD => (hm b bD).2.2 t j pd ho hu)) (St.Ae hf t j pd) (r.obj t j)
 ·rw [St.Jx] at ho
  by_cases pd : t = d
  ·subst pd
   simp only [pa, and_self, if_true] at ho hb ⊢
   exact oo j b ho hb
  ·rw [if_neg (fun hh => pd hh.1)] at ho
   simp only [pd, if_false] at hb ⊢
   exact r.ub t j b ho hb
 ·rw [St.Jx] at ho
  by_cases pd : t = d
  ·subst pd
   simp only [pa, and_self, if_true] at ho hb
   have h1 := pY j b ho hb
   refine ⟨?_, h1.2.1, h1.2.2⟩
   rcases h1.1 with h2 | h2
   ·exact fun nu => by have := r.hB b nu; omega
   ·exact (hm b h2).1
  ·rw [if_neg (fun hh => pd hh.1)] at ho
   simp only [pd, if_false] at hb
   have := r.own t j b ho hb
   refine ⟨this.1, fun hx => ?_, by omega⟩
   rcases hO b hx with hx | hx
   ·exact this.2.1 hx
   ·omega
 ·rw [St.Jx] at ho pv
  by_cases hd1 : t = d
  ·by_cases l6 : t' = d
   ·subst hd1; subst l6
    simp only [pa, and_self, if_true] at ho hb pv pj
    exact ⟨rfl, gR j j' b ho pv hb pj⟩
   ·subst hd1
    simp only [pa, and_self, if_true] at ho hb
    rw [if_neg (fun hh => l6 hh.1)] at pv
    simp only [l6, if_false] at pj
    have h1 := pY j b ho hb
    have h2 := r.own t' j' b pv pj
    rcases h1.1 with h3 | h3
    ·omega
    ·exact absurd pj ((hm b h3).2.2 t' j' l6 pv)
  ·by_cases l6 : t' = d
   ·subst l6
    simp only [pa, and_self, if_true] at pv pj
    rw [if_neg (fun hh => hd1 hh.1)] at ho
    simp only [hd1, if_false] at hb
    have h1 := pY j' b pv pj
    have h2 := r.own t j b ho hb
    rcases h1.1 with h3 | h3
    ·omega
    ·exact absurd hb ((hm b h3).2.2 t j hd1 ho)
   ·rw [if_neg (fun hh => hd1 hh.1)] at ho
    rw [if_neg (fun hh => l6 hh.1)] at pv
    simp only [hd1, l6, if_false] at hb pj
    exact r.inj t j t' j' b ho pv hb pj
theorem Rel.new (r : Rel T0 B σ a w X h) {d : Nat} (hf : σ.fresh d = true) (hg : w.grownBy w' none) (hX : ∀ b, X b -> X' b) (hO : ∀ b, X' b -> X b \/ (w.heap.size <= b /\ b < w'.heap.size))
  (v : V) (val : Value) (os : List Ob) (hd : Nat -> Hd)
  (hv : Qy (Tof T0 X') (fun t j => if t = d then hd j else h t j) (σ.new d v os).ob w' v val)
  (dv : ∀ j, J3 (Tof T0 X') (fun t j => if t = d then hd j else h t j) (σ.new d v os).ob w' (hd j) (Yo os j))
  (oo : ∀ j b, Yo os j ≠ .none -> blk (hd j).v = some b -> (hd j).u b)
  (pY : ∀ j b, Yo os j ≠ .none -> (hd j).u b -> w.heap.size <= b /\ ¬ X' b /\ b < w'.heap.size)
  (gR : ∀ j j' b, Yo os j ≠ .none -> Yo os j' ≠ .none -> (hd j).u b -> (hd j').u b -> j = j') :
  Rel T0 B (σ.new d v os) (a.put (some d) val) w' X' (fun t j => if t = d then hd j else h t j) :=
 r.vr hf (fun _ => False) hg.size (fun k hk _ => hg.block k hk (by simp)) (fun _ hh => hh.elim) hX hO v val os hd hv dv oo (fun j b h1 h2 => ⟨.inl (pY j b h1 h2).1, (pY j b h1 h2).2⟩) gR
end
end Go.Vm
namespace Go.Vm
open Go.RowKit
def yC (v : Value) (cs : List Value) : Prop := (∃ c, cs = [c] /\ v = c /\ c.oneCell' = true) \/ (cs.length ≠ 1 /\ v = .agg cs.toArray)
def Sw : List Value -> Value
 | [v] => v
 | vs => .tuple vs.toArray
def Jt (T : CS) (w : World) (v : Value) : D -> Prop
 | .sl size rows => ∃ e xs, w.ownsRow 0 e size v rows.length xs /\ (∀ r ∈ rows, r.length = size) /\ YB (Rd T w) xs rows.flatten
 | d => Rd T w v d
def qC (own : Bool) (T : CS) (w : World) (v : Value) (d : D) : Prop := if own then Jt T w v d else Rd T w v d
def Ua (P : Program) (f : FuncId) : Bool :=
 match P.funcs[f]? with
 | some fn => fn.body.isSome && fn.name != "runtime.NumGoroutine"
 | none => false
def tx (B N : Nat) (Y : Nat -> Prop) (cs : List Value) (ds : List D) : Prop :=
 (∀ (i : Nat) (c : Value) (d : D) (b : Nat), cs[i]? = some c -> ds[i]? = some d -> d.scalar = false -> blk c = some b -> B <= b /\ b < N /\ ¬ Y b) /\
 (∀ (i j : Nat) (c c' : Value) (d d' : D) (b : Nat), cs[i]? = some c -> ds[i]? = some d -> cs[j]? = some c' -> ds[j]? = some d' -> d.scalar = false -> d'.scalar = false -> blk c = some b -> blk c' = some b -> i = j)
def sN (own : Bool) (T : CS) (w : World) (res : List (List D)) (e : Ending) (w' : World) : Prop :=
 ∃ (vs : List Value) (oB : List (List Value)) (Y : Nat -> Prop), e = .returned (Sw vs) /\ Below w.heap.size w w' /\ (∀ b, Y b -> w.heap.size <= b /\ b < w'.heap.size) /\
  YB yC vs oB /\ YB (fun cs row => YB (qC own (Tof T Y) w') cs row) oB res /\ (own = true -> tx w.heap.size w'.heap.size Y oB.flatten res.flatten)
def Ql (P : Program) (f : FuncId) (own : Bool) (args res : List (List D)) : Prop :=
 Ua P f = true /\ ∀ (T : CS) (w : World) (oF : List Value), (∀ b k, T b k -> b < w.heap.size) -> YB (fun v row => ∃ cs, yC v cs /\ YB (Rd T w) cs row) oF args ->
  Calls P f oF.toArray w (sN own T w res)
def vOf : List At -> V
 | [x] => .one x
 | xs => .agg xs
def KL (t : Nat) : Nat -> List D -> List At
 | _, [] => []
 | k, .sl _ rows :: ds => .sref t k 0 rows.length :: KL t (k + 1) ds
 | k, d :: ds => .d d :: KL t (k + 1) ds
def xD : List D -> List Ob
 | [] => []
 | .sl size rows :: ds => .arr false size rows :: xD ds
 | _ :: ds => .none :: xD ds
def Gy (t : Nat) : Nat -> List (List D) -> List V
 | _, [] => []
 | k, r :: rs => vOf (KL t k r) :: Gy t (k + r.length) rs
def jN (t : Nat) : List (List D) -> V
 | [r] => vOf (KL t 0 r)
 | rs => .tup (Gy t 0 rs)
def qL : List (List D) -> V
 | [r] => vOf (r.map .d)
 | rs => .tup (rs.map fun r => vOf (r.map .d))
def zz (σ : St) : At -> Option D
 | .d x => some x
 | .nil s => some (.sl s [])
 | .sref t j lo len => (match σ.ob t j with | .arr _ size rows => some (.sl size (cut rows lo len)) | _ => none)
 | _ => none
def rowOf (σ : St) : List At -> Option (List D)
 | [] => some []
 | x :: xs => (match zz σ x, rowOf σ xs with | some d, some ds => some (d :: ds) | _, _ => none)
def V.Ks (σ : St) : V -> Option (List D)
 | .one x => rowOf σ [x]
 | .agg [_] => none
 | .agg xs => rowOf σ xs
 | _ => none
def Qd (P : Program) (σ : St) : List Operand -> List TypeId -> List (List D) -> Prop
 | [], _, rs => rs = []
 | x :: xs, t :: ts, rs => gOf (look P σ t x) = true /\ ∃ r rest, (unc (look P σ t x)).Ks σ = some r /\ Qd P σ xs ts rest /\ rs = r :: rest
 | _ :: _, [], _ => False
def At.Ey : At -> Bool
 | .sref _ _ _ _ => false
 | .tref _ _ _ _ _ => false
 | _ => true
def Kx : List At -> Bool
 | [] => true
 | x :: xs => x.Ey && Kx xs
def YY (P : Program) (σ : St) : List Operand -> List TypeId -> Bool
 | x :: xs, t :: ts => Kx (unc (look P σ t x)).cells && YY P σ xs ts
 | _, _ => true
section
variable {P : Program} {T0 : CS} {B : Nat -> Prop} {σ : St} {a : Act} {w w' : World} {X X' : Nat -> Prop} {h : Nat -> Nat -> Hd}
theorem Rel.grow (r : Rel T0 B σ a w X h) (hg : w.grownBy w' none) (hX : ∀ b, X b -> X' b) (hO : ∀ b, X' b -> X b \/ (w.heap.size <= b /\ b < w'.heap.size)) : Rel T0 B σ a w' X' h := by
 have hT : ∀ b k v, Tof T0 X b k -> w.cell? ⟨b, k, none⟩ = some v -> w'.cell? ⟨b, k, none⟩ = some v /\ Tof T0 X' b k := by
  intro b k v hb pb
  refine ⟨?_, hb.imp id (hX b)⟩
  rw [World.cell?_of_block (hg.block b (r.Tlt hb) (by simp))]; exact pb
 have hB : w.heap.size <= w'.heap.size := hg.size
 refine ⟨r.size, r.defers, fun b hb => Nat.lt_of_lt_of_le (r.hB b hb) hB, fun b hb => ?_, r.hT, fun t ht => Qy.mono hT (r.slot t ht), fun t j => ?_, r.ub, fun t j b ho hb => ?_, r.inj⟩
 ·rcases hO b hb with hb | hb
  ·have := r.hX b hb; exact ⟨this.1, by omega⟩
  ·exact ⟨fun nu => by have := r.hB b nu; omega, hb.2⟩
 ·have h0 := r.obj t j
  have hk : σ.ob t j ≠ .none -> ∀ b, (h t j).u b -> w'.heap[b]? = w.heap[b]? := fun ho b hu => hg.block b (r.own t j b ho hu).2.2 (by simp)
  have pr := r.ub t j
  cases ho : σ.ob t j with
  | none => trivial
  | box cells =>
   rw [ho] at h0 hk pr
   obtain ⟨b, cs, e, hv, hh, pV⟩ := h0
   exact ⟨b, cs, e, hv, by rw [hk (by simp) b (pr b (by simp) (by rw [hv]; rfl))]; exact hh, pV.imp fun _ _ => YO.mono hT⟩
  | arr q size rows =>
   rw [ho] at h0 hk pr
   cases q with
   | false =>
    obtain ⟨e, xs, mS, hz, pV⟩ := h0
    exact ⟨e, xs, qE (fun b hb => hk (by simp) b (pr b (by simp) hb)) mS, hz, pV.imp fun _ _ => Rd.mono hT⟩
   | true =>
    obtain ⟨e, xs, mS, hz, pV, hn⟩ := h0
    exact ⟨e, xs, qE (fun b hb => hk (by simp) b (pr b (by simp) hb)) mS, hz, pV.P1 (fun b hb => hk (by simp) b hb.1), hn⟩
  | lit size rows =>
   rw [ho] at h0 hk pr
   obtain ⟨e, xs, mS, hz, pV⟩ := h0
   exact ⟨e, xs, qE (fun b hb => hk (by simp) b (pr b (by simp) hb)) mS, hz, pV.imp fun _ _ => YO.mono hT⟩
 ·have := r.own t j b ho hb
  refine ⟨this.1, fun hx => ?_, by omega⟩
  rcases hO b hx with hx | hx
  ·exact this.2.1 hx
  ·omega
def Ps (T0 : CS) (X : Nat -> Prop) (h : Nat -> Nat -> Hd) (σ : St) : CS := fun b k => Tof T0 X b k \/ ∃ t j q size rows, σ.ob t j = .arr q size rows /\ (h t j).u b
theorem Rel.F9 (r : Rel T0 B σ a w X h) {b k : Nat} (hb : Ps T0 X h σ b k) : b < w.heap.size := by
 rcases hb with hb | ⟨t, j, q, size, rows, ho, hb⟩
 ·exact r.Tlt hb
 ·exact (r.own t j b (by rw [ho]; simp) hb).2.2
theorem By {T : CS} {w : World} {e : TypeId} {size : Nat} {v : Value} {rows : List (List D)} {xs : List Value} (ho : w.ownsRow 0 e size v rows.length xs) (hz : ∀ r ∈ rows, r.length = size) (hT : ∀ b k, blk v = some b -> T b k)
  (pV : YB (Rd T w) xs rows.flatten) : Rd T w v (.sl size rows) := by
 rcases ho.2 with ⟨rfl, hn⟩ | ⟨g, cap, cur, rfl, _, hh, np, nm, ni, mT⟩
 ·have : rows = [] := List.eq_nil_of_length_eq_zero hn
  subst this; exact .nil _
 ·refine .sl ⟨g, 0, none⟩ _ cap size rows (fun k => (xs[k]?).getD undef) rfl np nm hz (fun _ => rfl) (fun k d hd => ?_) (fun k d hd => ?_)
  ·obtain ⟨u, hu, _⟩ := pV.get' k d hd
   have pa : k < rows.length * size := by
    have := (List.getElem?_eq_some_iff.1 hd).1
    rw [Yi rows size hz] at this; exact this
   rw [hu]
   refine ⟨?_, hT g _ rfl⟩
   simp only [Nat.zero_add]
   refine y0 hh _ _ ?_
   rw [<- mT, List.getElem?_take, if_pos pa] at hu
   exact hu
  ·obtain ⟨u, hu, hr⟩ := pV.get' k d hd
   rw [hu]; exact hr
theorem Own.rd {T : CS} {w : World} {v : Value} {d : D} {S : Nat -> Prop} (ho : Own w v d S) (hT : ∀ b k, S b -> T b k) : Rd T w v d := by
 induction ho with
 | int k n S => exact .int k n
 | bool b S => exact .bool b
 | str s S => exact .str s
 | unk v h S => exact .unk v h
 | sl v size rows S e xs Sk ho hz pj hl hk hs hd ih =>
  exact By ho hz (fun b k hb => hT b k (pj b hb)) (YB.xC hl (fun k x d hx pd => ih k x d hx pd (fun b k' hb => hT b k' (hs k b hb).1)))
theorem KM.rd {T : CS} {w : World} {xs : List Value} {ds : List D} {S : Nat -> Prop} (ho : KM w xs ds S) (hT : ∀ b k, S b -> T b k) : YB (Rd T w) xs ds := by
 obtain ⟨hl, Sk, h1, h2, h3⟩ := ho
 exact YB.xC hl (fun k x d hx hd => (h1 k x d hx hd).rd (fun b k' hb => hT b k' (h2 k b hb)))
theorem Rel.cells (r : Rel T0 B σ a w X h) {t j size : Nat} {q : Bool} {rows : List (List D)} (ho : σ.ob t j = .arr q size rows) :
  ∃ e xs, w.ownsRow 0 e size (h t j).v rows.length xs /\ (∀ r ∈ rows, r.length = size) /\ ∀ T : CS, (∀ b k, Tof T0 X b k -> T b k) -> (∀ b k, (h t j).u b -> T b k) -> YB (Rd T w) xs rows.flatten := by
 have h0 := r.obj t j
 rw [ho] at h0
 cases q with
 | false =>
  obtain ⟨e, xs, mS, hz, pV⟩ := h0
  exact ⟨e, xs, mS, hz, fun T h1 _ => pV.imp fun _ _ => Rd.mono (fun b k v hb hc => ⟨hc, h1 b k hb⟩)⟩
 | true =>
  obtain ⟨e, xs, mS, hz, pV, hn⟩ := h0
  exact ⟨e, xs, mS, hz, fun T _ h2 => pV.rd (fun b k hb => h2 b k hb.1)⟩
theorem Rel.Bf (r : Rel T0 B σ a w X h) {t j lo len size : Nat} {q : Bool} {rows : List (List D)} (ho : σ.ob t j = .arr q size rows) {v : Value} (hv : YO (Tof T0 X) h σ.ob w (.sref t j lo len) v)
  (T : CS) (hT1 : ∀ b k, Tof T0 X b k -> T b k) (hT2 : ∀ b k, (h t j).u b -> T b k) : Rd T w v (.sl size (cut rows lo len)) := by
 obtain ⟨hle, nf, _, base, cap, rfl, nG, fM, fk, hb⟩ := hv.2.1 q size rows ho
 obtain ⟨e, xs, ⟨hl, pY⟩, hz, eD⟩ := r.cells ho
 have pV := eD T hT1 hT2
 have oo := r.ub t j
 have oG : (cut rows lo len).length = len := Qj _ _ _ hle
 have mG : ∀ x ∈ cut rows lo len, x.length = size := fun x hx => hz x (List.mem_of_mem_drop (List.mem_of_mem_take hx))
 by_cases o5 : 0 < len
 ·obtain ⟨b, lb, hh, rfl⟩ := hb o5
  rcases pY with ⟨hn, _⟩ | ⟨g, g5, cur, lz, _, aS, np, nm, ni, mT⟩
  ·rw [hh] at hn; cases hn
  ·rw [hh] at lz
   cases lz
   have key : ∀ k d, (cut rows lo len).flatten[k]? = some d -> ∃ u, w.cell? ⟨b, lo * size + k, none⟩ = some u /\ T b (lo * size + k) /\ Rd T w u d := by
    intro k d hd
    have pd := jI rows size lo len hz k d hd
    obtain ⟨u, hu, hr⟩ := pV.get' _ _ pd
    have pa : lo * size + k < rows.length * size := by
     have := (List.getElem?_eq_some_iff.1 pd).1
     rw [Yi rows size hz] at this; exact this
    refine ⟨u, y0 aS _ _ ?_, hT2 b _ (oo b (by rw [ho]; simp) (by rw [hh]; rfl)), hr⟩
    rw [<- mT, List.getElem?_take, if_pos pa] at hu
    exact hu
   refine .sl ⟨b, lo * size, none⟩ len cap size _ (fun k => (w.cell? ⟨b, lo * size + k, none⟩).getD undef) oG nG fM mG (fun _ => rfl) (fun k d hd => ?_) (fun k d hd => ?_)
   ·obtain ⟨u, hu, ht, _⟩ := key k d hd
    rw [hu]; exact ⟨rfl, ht⟩
   ·obtain ⟨u, hu, _, hr⟩ := key k d hd
    rw [hu]; exact hr
 ·have h0' : len = 0 := by omega
  subst h0'
  have mg : cut rows lo 0 = [] := by simp [cut]
  rw [mg]
  cases base with
  | none => have := fk rfl; subst this; exact .nil _
  | some ad => exact .sl ad 0 cap size [] (fun _ => undef) rfl nG fM (by intro r hr; cases hr) (by simp) (by simp) (by simp)
end
end Go.Vm
namespace Go.Vm
open Go.RowKit
def D.Ej : D -> Prop
 | .sl _ rows => ∀ r ∈ rows, ∀ d ∈ r, d.scalar = true
 | _ => True
def KA (own : Bool) (res : List (List D)) : Prop := ∀ r ∈ res, ∀ d ∈ r, if own = true then d.Ej else d.scalar = true
theorem Rd.scalar {T T' : CS} {w : World} {v : Value} {d : D} (hd : d.scalar = true) (r : Rd T w v d) : Rd T' w v d := by
 cases r with
 | int k n => exact .int k n
 | bool b => exact .bool b
 | str s => exact .str s
 | unk v h => exact .unk v h
 | nil => cases hd
 | sl => cases hd
theorem Jt.flat {T T' : CS} {w : World} {v : Value} {d : D} (hd : d.Ej) (r : Jt T w v d) : Jt T' w v d := by
 cases d with
 | sl size rows =>
  obtain ⟨e, xs, ho, hz, pV⟩ := r
  refine ⟨e, xs, ho, hz, ?_⟩
  refine YB.xC pV.length (fun i x d hx pd => ?_)
  obtain ⟨d2, l6, hr⟩ := pV.get i x hx
  rw [pd] at l6; cases l6
  have hm : d ∈ rows.flatten := List.mem_of_getElem? pd
  obtain ⟨r0, mb, hdr⟩ := List.mem_flatten.1 hm
  exact Rd.scalar (hd r0 mb d hdr) hr
 | int k n => exact Rd.scalar rfl r
 | bool b => exact Rd.scalar rfl r
 | str s => exact Rd.scalar rfl r
 | unk => exact Rd.scalar rfl r
theorem Rg {w : World} {e : TypeId} {size : Nat} {v : Value} {n : Nat} {xs : List Value} (ho : w.ownsRow 0 e size v n xs) : wk v size n 0 n v := by
 refine ⟨by omega, fun _ _ => rfl, ?_, ?_⟩
 ·intro _
  rcases ho.2 with ⟨rfl, rfl⟩ | ⟨g, cap, cur, rfl, _⟩ <;> rfl
 rcases ho.2 with ⟨rfl, rfl⟩ | ⟨g, cap, cur, rfl, _, _, np, nm, _, _⟩
 ·exact ⟨none, 0, rfl, by omega, by simp [maxLen], fun _ => rfl, fun hh => by omega⟩
 ·exact ⟨_, cap, rfl, np, nm, (fun hh => by cases hh), fun _ => ⟨g, cap, rfl, by simp⟩⟩
theorem yZ {w : World} {e : TypeId} {size : Nat} {v : Value} {n : Nat} {xs : List Value} (ho : w.ownsRow 0 e size v n xs) : v.oneCell' = true := by
 rcases ho.2 with ⟨rfl, rfl⟩ | ⟨g, cap, cur, rfl, _⟩ <;> rfl
theorem Jt.QN {T : CS} {w : World} {v : Value} {d : D} (r : Jt T w v d) : v.oneCell' = true := by
 cases d with
 | sl size rows => obtain ⟨e, xs, ho, _⟩ := r; exact yZ ho
 | int k n => exact Rd.QN r
 | bool b => exact Rd.QN r
 | str s => exact Rd.QN r
 | unk => exact Rd.QN r
theorem Jt.rd {T T' : CS} {w : World} {v : Value} {d : D} (r : Jt T w v d) (h1 : ∀ b k, T b k -> T' b k) (h2 : d.scalar = false -> ∀ b k, blk v = some b -> T' b k) : Rd T' w v d := by
 cases d with
 | sl size rows =>
  obtain ⟨e, xs, ⟨hl, pY⟩, hz, pV⟩ := r
  rcases pY with ⟨rfl, hn⟩ | ⟨g, cap, cur, rfl, _, hh, np, nm, ni, mT⟩
  ·have : rows = [] := List.eq_nil_of_length_eq_zero hn
   subst this; exact .nil _
  ·refine .sl ⟨g, 0, none⟩ _ cap size rows (fun k => (xs[k]?).getD undef) rfl np nm hz (fun _ => rfl) (fun k d hd => ?_) (fun k d hd => ?_)
   ·obtain ⟨u, hu, _⟩ := pV.get' k d hd
    have pa : k < rows.length * size := by
     have := (List.getElem?_eq_some_iff.1 hd).1
     rw [Yi rows size hz] at this; exact this
    rw [hu]
    refine ⟨?_, h2 rfl g _ rfl⟩
    simp only [Nat.zero_add]
    refine y0 hh _ _ ?_
    rw [<- mT, List.getElem?_take, if_pos pa] at hu
    exact hu
   ·obtain ⟨u, hu, hr⟩ := pV.get' k d hd
    rw [hu]; exact Rd.mono (fun b k v hb hc => ⟨hc, h1 b k hb⟩) hr
 | int k n => exact Rd.scalar rfl r
 | bool b => exact Rd.scalar rfl r
 | str s => exact Rd.scalar rfl r
 | unk => exact Rd.scalar rfl r
section
variable {P : Program} {T0 : CS} {B : Nat -> Prop} {σ : St} {a : Act} {w w' : World} {X X' : Nat -> Prop} {h : Nat -> Nat -> Hd}
theorem Rel.zz (r : Rel T0 B σ a w X h) {x : At} {v : Value} {d : D} (hd : zz σ x = some d) (hv : YO (Tof T0 X) h σ.ob w x v) (st : Bool) (pt : st = true -> x.Ey = true) :
  Rd (if st then Tof T0 X else Ps T0 X h σ) w v d := by
 cases x with
 | d x => simp [Vm.zz] at hd; subst hd; cases st <;> simp <;> first | exact hv | exact Rd.mono (fun b k v hb hc => ⟨hc, .inl hb⟩) hv
 | nil s => simp [Vm.zz] at hd; subst hd; cases hv; exact .nil _
 | sref t j lo len =>
  cases st with
  | true => have := pt rfl; simp [At.Ey] at this
  | false =>
   simp only [Vm.zz] at hd
   split at hd
   ·rename_i q size rows ho
    cases hd
    exact r.Bf ho hv _ (fun b k hb => .inl hb) (fun b k hb => .inr ⟨t, j, _, size, rows, ho, hb⟩)
   ·cases hd
 | any => simp [Vm.zz] at hd
 | ptr => simp [Vm.zz] at hd
 | bptr => simp [Vm.zz] at hd
 | fn => simp [Vm.zz] at hd
 | rptr => simp [Vm.zz] at hd
 | tref => simp [Vm.zz] at hd
theorem Rel.rowOf (r : Rel T0 B σ a w X h) (st : Bool) : ∀ {xs : List At} {vs : List Value} {ds : List D}, rowOf σ xs = some ds -> YB (YO (Tof T0 X) h σ.ob w) xs vs -> (st = true -> Kx xs = true) ->
  YB (Rd (if st then Tof T0 X else Ps T0 X h σ) w) vs ds
 | [], _, ds, hd, pV, _ => by cases pV; simp [Vm.rowOf] at hd; subst hd; exact .nil
 | x :: xs, _, ds, hd, pV, pt => by
  cases pV with
  | cons hx pV =>
   simp only [Vm.rowOf] at hd
   split at hd
   ·rename_i d iZ h1 h2
    cases hd
    refine .cons (r.zz h1 hx st (fun hs => ?_)) (Rel.rowOf r st h2 pV (fun hs => ?_))
    ·have := pt hs; simp [Kx] at this; exact this.1
    ·have := pt hs; simp [Kx] at this; exact this.2
   ·cases hd
theorem Rel.Ks (r : Rel T0 B σ a w X h) (st : Bool) {v : V} {val : Value} {row : List D} (hr : v.Ks σ = some row) (hv : Qy (Tof T0 X) h σ.ob w v val) (pt : st = true -> Kx v.cells = true) :
  ∃ cs, yC val cs /\ YB (Rd (if st then Tof T0 X else Ps T0 X h σ) w) cs row := by
 cases v with
 | one x => exact ⟨[val], .inl ⟨val, rfl, rfl, YO.QN (show YO _ _ _ _ _ _ from hv)⟩, r.rowOf st (xs := [x]) hr (.cons hv .nil) pt⟩
 | agg xs =>
  obtain ⟨cs, rfl, pV⟩ := hv
  have hl := pV.length
  match xs, hr, pV, hl, pt with
  | [], hr, pV, hl, pt => exact ⟨cs.toList, .inr ⟨by rw [<- hl]; simp, by simp⟩, r.rowOf st hr pV pt⟩
  | [_], hr, _, _, _ => simp [V.Ks] at hr
  | x :: y :: xs, hr, pV, hl, pt => exact ⟨cs.toList, .inr ⟨by rw [<- hl]; simp, by simp⟩, r.rowOf st hr pV pt⟩
 | any => simp [V.Ks] at hr
 | tup xs => simp [V.Ks] at hr
 | cnd g x => simp [V.Ks] at hr
 | fix u x => simp [V.Ks] at hr
theorem Rel.Qd (r : Rel T0 B σ a w X h) (st : Bool) : ∀ {xs : List Operand} {ts : List TypeId} {rs : List (List D)}, Qd P σ xs ts rs -> (st = true -> YY P σ xs ts = true) ->
  YB (fun v row => ∃ cs, yC v cs /\ YB (Rd (if st then Tof T0 X else Ps T0 X h σ) w) cs row) (xs.map a.eval) rs
 | [], _, rs, hr, _ => by cases hr; exact .nil
 | x :: xs, [], rs, hr, _ => hr.elim
 | x :: xs, t :: ts, rs, hr, pt => by
  obtain ⟨hg, row, rest, h1, h2, rfl⟩ := hr
  refine .cons (r.Ks st h1 (r.arg t x rfl hg) (fun hs => ?_)) (Rel.Qd r st h2 (fun hs => ?_))
  ·have := pt hs; simp [YY] at this; exact this.1
  ·have := pt hs; simp [YY] at this; exact this.2
theorem Vl {o : Oper} {c : Call} {f : FuncId} (pP : o.op = .call c) (hc : c.callee = .value (.func f)) (hf : Ua P f = true) : (execOp a.eval o).run P w = .ok (.enter f (c.args.toList.map a.eval).toArray) w := by
 unfold Ua at hf
 split at hf
 ·rename_i fn eo
  simp only [Bool.and_eq_true, bne_iff_ne, ne_eq] at hf
  obtain ⟨cd, hb⟩ := Option.isSome_iff_exists.1 hf.1
  obtain ⟨callee, args, lF⟩ := c
  simp only at hc; subst hc
  have hm : (args.toList.map a.eval).toArray = args.map a.eval := by apply Array.toList_inj.1; simp
  rw [hm]
  simp [execOp, pP, resolve, Act.eval, Deferred.ofValue, invoke, callFunc, eo, hf.2, hb]
 ·cases hf
end
end Go.Vm
namespace Go.Vm
open Go.RowKit
section
variable {P : Program} {T0 : CS} {B : Nat -> Prop} {σ : St} {a : Act} {w w' : World} {X X' : Nat -> Prop} {h : Nat -> Nat -> Hd}
theorem Below.grownBy (hb : Below w.heap.size w w') : w.grownBy w' none := ⟨hb.os, hb.tape, hb.output, hb.size, fun k hk _ => hb.block k hk⟩
theorem Lg {T : CS} {ob : Nat -> Nat -> Ob} {xs : List At} {v : Value} {cs : List Value} (hf : yC v cs) (pV : YB (YO T h ob w) xs cs) : Kp T h ob w (vOf xs) v := by
 have hl := pV.length
 rcases hf with ⟨c, rfl, rfl, h1⟩ | ⟨pS, rfl⟩
 ·cases pV with
  | cons hx pV => cases pV; exact hx
 ·match xs, pV, hl with
  | [], pV, _ => exact ⟨_, rfl, by simpa using pV⟩
  | [x], pV, hl => exact absurd hl.symm (by simpa using pS)
  | x :: y :: xs, pV, _ => exact ⟨_, rfl, by simpa using pV⟩
theorem W4 {T : CS} {ob : Nat -> Nat -> Ob} {cs : List Value} {row : List D} (pV : YB (Rd T w) cs row) : YB (YO T h ob w) (row.map .d) cs := by
 induction pV with
 | nil => exact .nil
 | cons r _ ih => exact .cons r ih
theorem C9 {T : CS} {ob : Nat -> Nat -> Ob} {res : List (List D)} {vs : List Value} {oB : List (List Value)} (hf : YB yC vs oB) (pV : YB (fun cs row => YB (Rd T w) cs row) oB res) :
  YB (Kp T h ob w) (res.map fun r => vOf (r.map .d)) vs := by
 induction hf generalizing res with
 | nil => cases pV; exact .nil
 | cons f _ ih => cases pV with
  | cons r pV => exact .cons (Lg f (W4 r)) (ih pV)
theorem G2 {T : CS} {ob : Nat -> Nat -> Ob} {res : List (List D)} {vs : List Value} {oB : List (List Value)} (hf : YB yC vs oB) (pV : YB (fun cs row => YB (Rd T w) cs row) oB res) :
  Qy T h ob w (qL res) (Sw vs) := by
 have hl := C9 (h := h) (ob := ob) hf pV
 have h1 := hl.length
 match res, vs, hl, h1 with
 | [r], [v], hl, _ => cases hl with | cons x _ => exact x.up
 | [], [], hl, _ => exact ⟨_, rfl, by simpa using hl⟩
 | r :: r' :: rs, v :: v' :: vs, hl, _ => exact ⟨_, rfl, by simpa using hl⟩
 | [], v :: vs, _, h1 => simp at h1
 | [r], [], _, h1 => simp at h1
 | [r], v :: v' :: vs, _, h1 => simp at h1
 | r :: r' :: rs, [], _, h1 => simp at h1
 | r :: r' :: rs, [v], _, h1 => simp at h1
theorem N9 {α β : Type} {R S : α -> β -> Prop} {l : List (List α)} {m : List (List β)} (mE : ∀ (a : α) (b : β) (row : List β), row ∈ m -> b ∈ row -> R a b -> S a b) (pV : YB (fun x y => YB R x y) l m) : YB (fun x y => YB S x y) l m := by
 induction pV with
 | nil => exact .nil
 | @cons x y _ _ m5 _ ih =>
  refine .cons ?_ (ih (fun a b row hr => mE a b row (by simp [hr])))
  have ou : ∀ b ∈ y, ∀ a, R a b -> S a b := fun b hb a hr => mE a b y (by simp) hb hr
  clear ih mE
  induction m5 with
  | nil => exact .nil
  | cons r _ gr => exact .cons (ou _ (by simp) _ r) (gr (fun b hb => ou b (by simp [hb])))
theorem Ws (r : Rel T0 B σ a w X h) {o : Oper} {c : Call} {f : FuncId} {d : Nat} {own : Bool} {rows res : List (List D)} (pP : o.op = .call c) (hc : c.callee = .value (.func f)) (hd : o.dst = some d)
  (pX : Qd P σ c.args.toList c.argTypes.toList rows) (st : Bool) (pt : st = true -> YY P σ c.args.toList c.argTypes.toList = true) (nJ : st = false -> KA own res) (hs : Ql P f own rows res)
  {K : Act -> World -> Prop} {Q : Exit -> Act -> World -> Prop} (hK : ∀ a' w', KF T0 B (σ.put d (qL res)) a' w' -> XI B w w' -> K a' w') : o.wp P a w K Q := by
 unfold Oper.wp
 rw [Vl pP hc hs.1, Oper.upon_enter]
 refine (hs.2 (if st then Tof T0 X else Ps T0 X h σ) w _ (fun b k hb => ?_) (r.Qd st pX pt)).mono ?_
 ·cases st
  ·exact r.F9 hb
  ·exact r.Tlt hb
 ·rintro e w' ⟨vs, oB, Y, rfl, nL, hY, oI, na, hZ⟩
  have hO : ∀ b, (X b \/ (w.heap.size <= b /\ b < w'.heap.size)) -> X b \/ (w.heap.size <= b /\ b < w'.heap.size) := fun b hb => hb
  have r2 := r.grow (X' := fun b => X b \/ (w.heap.size <= b /\ b < w'.heap.size)) (Below.grownBy nL) (fun b hb => .inl hb) hO
  have mK : YB (fun cs row => YB (Rd (Tof T0 fun b => X b \/ (w.heap.size <= b /\ b < w'.heap.size)) w') cs row) oB res := by
   have ou : ∀ (i : Nat) (c : Value) (d : D), oB.flatten[i]? = some c -> res.flatten[i]? = some d -> own = true -> d.scalar = false -> ∀ b, blk c = some b -> w.heap.size <= b /\ b < w'.heap.size := by
    intro i c d h1 h2 ho oz b hb
    have := (hZ ho).1 i c d b h1 h2 oz hb
    exact ⟨this.1, this.2.1⟩
   have conv : ∀ (c : Value) (d : D), (∀ b, own = true -> d.scalar = false -> blk c = some b -> w.heap.size <= b /\ b < w'.heap.size) -> (st = false -> if own = true then d.Ej else d.scalar = true) ->
     qC own (Tof (if st then Tof T0 X else Ps T0 X h σ) Y) w' c d -> Rd (Tof T0 fun b => X b \/ (w.heap.size <= b /\ b < w'.heap.size)) w' c d := by
    intro c d oX gQ hr
    cases own with
    | true =>
     have oq : Jt (Tof (if st then Tof T0 X else Ps T0 X h σ) Y) w' c d := by simpa [qC] using hr
     cases st with
     | true =>
      refine Jt.rd oq (fun b k hb => ?_) (fun oz b k hb => .inr (.inr (oX b rfl oz hb)))
      rcases hb with hb | hb
      ·rcases (show Tof T0 X b k from by simpa using hb) with hb | hb
       ·exact .inl hb
       ·exact .inr (.inl hb)
      ·exact .inr (.inr (hY b hb))
     | false =>
      exact Jt.rd (Jt.flat (T' := fun _ _ => False) (by simpa using gQ rfl) oq) (fun b k hb => hb.elim) (fun oz b k hb => .inr (.inr (oX b rfl oz hb)))
    | false =>
     have oq : Rd (Tof (if st then Tof T0 X else Ps T0 X h σ) Y) w' c d := by simpa [qC] using hr
     cases st with
     | true =>
      refine Rd.mono (fun b k v hb hc => ⟨hc, ?_⟩) oq
      rcases hb with hb | hb
      ·rcases (show Tof T0 X b k from by simpa using hb) with hb | hb
       ·exact .inl hb
       ·exact .inr (.inl hb)
      ·exact .inr (.inr (hY b hb))
     | false => exact Rd.scalar (by simpa using gQ rfl) oq
   have go : ∀ (oB : List (List Value)) (res : List (List D)), YB (fun cs row => YB (qC own (Tof (if st then Tof T0 X else Ps T0 X h σ) Y) w') cs row) oB res ->
     (∀ (i : Nat) (c : Value) (d : D), oB.flatten[i]? = some c -> res.flatten[i]? = some d -> own = true -> d.scalar = false -> ∀ b, blk c = some b -> w.heap.size <= b /\ b < w'.heap.size) ->
     (st = false -> KA own res) -> YB (fun cs row => YB (Rd (Tof T0 fun b => X b \/ (w.heap.size <= b /\ b < w'.heap.size)) w') cs row) oB res := by
    intro oB res pV
    induction pV with
    | nil => intro _ _; exact .nil
    | @cons cs row aT aU oC _ ih =>
     intro hm hf
     have hlen := oC.length
     refine .cons (YB.xC hlen (fun i c d hc pd => ?_)) (ih (fun i c d h1 h2 => ?_) (fun hs r hr => hf hs r (by simp [hr])))
     ·obtain ⟨d2, l6, hr⟩ := oC.get i c hc
      rw [pd] at l6; cases l6
      refine conv c d (fun b ho oz hb => hm i c d ?_ ?_ ho oz b hb) (fun hs => hf hs row (by simp) d (List.mem_of_getElem? pd)) hr
      ·rw [List.flatten_cons, List.getElem?_append_left (List.getElem?_eq_some_iff.1 hc).1]; exact hc
      ·rw [List.flatten_cons, List.getElem?_append_left (List.getElem?_eq_some_iff.1 pd).1]; exact pd
     ·refine hm (cs.length + i) c d ?_ ?_
      ·rw [List.flatten_cons, List.getElem?_append_right (by omega)]; simpa using h1
      ·rw [List.flatten_cons, List.getElem?_append_right (by omega), hlen]; simpa using h2
   exact go oB res na ou nJ
  rw [hd]
  exact hK _ _ ⟨_, _, r2.put d _ _ (G2 oI mK)⟩ (XI.OE nL r.hB)
end
end Go.Vm
namespace Go.Vm
open Go.RowKit
section
variable {P : Program} {T0 : CS} {B : Nat -> Prop} {σ : St} {a : Act} {w w' : World} {X X' : Nat -> Prop} {h : Nat -> Nat -> Hd}
theorem Tm : ∀ (ds : List D) (k : Nat), Yo (xD ds) k = (match ds[k]? with | some (.sl size rows) => .arr false size rows | _ => .none)
 | [], k => by simp [xD, Yo]
 | d :: ds, 0 => by cases d <;> simp [xD, Yo]
 | d :: ds, k + 1 => by
  have := Tm ds k
  cases d <;> simpa [xD, Yo] using this
def ke (T : CS) (w : World) (v : Value) : D -> Prop
 | .sl size rows => ∃ e xs, w.ownsRow 0 e size v rows.length xs
 | d => Rd T w v d
theorem Jt.top {T : CS} {v : Value} {d : D} (r : Jt T w v d) : ke T w v d := by
 cases d with
 | sl size rows => obtain ⟨e, xs, ho, _⟩ := r; exact ⟨e, xs, ho⟩
 | int k n => exact r
 | bool b => exact r
 | str s => exact r
 | unk => exact r
theorem ke.QN {T : CS} {v : Value} {d : D} (r : ke T w v d) : v.oneCell' = true := by
 cases d with
 | sl size rows => obtain ⟨e, xs, ho⟩ := r; exact yZ ho
 | int k n => exact Rd.QN r
 | bool b => exact Rd.QN r
 | str s => exact Rd.QN r
 | unk => exact Rd.QN r
theorem TZ {T : CS} {ob : Nat -> Nat -> Ob} {t : Nat} : ∀ {ds : List D} {cs : List Value} {k : Nat}, YB (ke T w) cs ds ->
  (∀ i size rows, ds[i]? = some (.sl size rows) -> ∃ q, ob t (k + i) = .arr q size rows) -> (∀ i c, cs[i]? = some c -> (h t (k + i)).v = c) -> YB (YO T h ob w) (KL t k ds) cs
 | [], _, k, pV, _, _ => by cases pV; exact .nil
 | d :: ds, _, k, pV, ho, hh => by
  cases pV with
  | @cons c _ cs _ hc pV =>
   have ih := TZ (k := k + 1) pV (fun i size rows hi => by have := ho (i + 1) size rows (by simpa using hi); rw [show k + 1 + i = k + (i + 1) by omega]; exact this)
    (fun i c' oL => by have := hh (i + 1) c' (by simpa using oL); rw [show k + 1 + i = k + (i + 1) by omega]; exact this)
   cases d with
   | sl size rows =>
    obtain ⟨q0, h0⟩ := ho 0 size rows (by simp)
    have h1 := hh 0 c (by simp)
    rw [Nat.add_zero] at h0 h1
    refine .cons ⟨ke.QN hc, fun q' oA ph pv => ?_, fun oA ph pv => by rw [h0] at pv; cases pv⟩ ih
    rw [h0] at pv; cases pv
    obtain ⟨e, xs, pY⟩ := hc
    rw [h1]; exact Rg pY
   | int k' n => exact .cons hc ih
   | bool b => exact .cons hc ih
   | str s => exact .cons hc ih
   | unk => exact .cons hc ih
theorem AX {T : CS} {ob : Nat -> Nat -> Ob} {t : Nat} {vs : List Value} {oB : List (List Value)} (hf : YB yC vs oB) : ∀ {res : List (List D)} {k : Nat}, YB (fun cs row => YB (ke T w) cs row) oB res ->
  (∀ i size rows, res.flatten[i]? = some (.sl size rows) -> ∃ q, ob t (k + i) = .arr q size rows) -> (∀ i c, oB.flatten[i]? = some c -> (h t (k + i)).v = c) -> YB (Kp T h ob w) (Gy t k res) vs := by
 induction hf with
 | nil => intro res k pV _ _; cases pV; exact .nil
 | @cons v cs vs' aT f _ ih =>
  intro res k pV ho hh
  cases pV with
  | @cons _ row _ aU r pV =>
   have hlen := r.length
   refine .cons (Lg f (TZ r (fun i size rows hi => ho i size rows ?_) (fun i c hc => hh i c ?_))) (ih pV (fun i size rows hi => ?_) (fun i c hc => ?_))
   ·rw [List.flatten_cons, List.getElem?_append_left (List.getElem?_eq_some_iff.1 hi).1]; exact hi
   ·rw [List.flatten_cons, List.getElem?_append_left (List.getElem?_eq_some_iff.1 hc).1]; exact hc
   ·have := ho (row.length + i) size rows (by rw [List.flatten_cons, List.getElem?_append_right (by omega)]; simpa using hi)
    rw [Nat.add_assoc]; exact this
   ·have := hh (row.length + i) c (by rw [List.flatten_cons, List.getElem?_append_right (by omega), <- hlen]; simpa using hc)
    rw [Nat.add_assoc]; exact this
theorem Is {T : CS} {ob : Nat -> Nat -> Ob} {t : Nat} {vs : List Value} {oB : List (List Value)} {res : List (List D)} (hf : YB yC vs oB) (pV : YB (fun cs row => YB (ke T w) cs row) oB res)
  (ho : ∀ i size rows, res.flatten[i]? = some (.sl size rows) -> ∃ q, ob t i = .arr q size rows) (hh : ∀ i c, oB.flatten[i]? = some c -> (h t i).v = c) : Qy T h ob w (jN t res) (Sw vs) := by
 have hl := AX (k := 0) hf pV (by simpa using ho) (by simpa using hh)
 have h1 : res.length = vs.length := by rw [hf.length, pV.length]
 match res, vs, hl, h1 with
 | [r], [v], hl, _ => cases hl with | cons x _ => exact x.up
 | [], [], hl, _ => exact ⟨_, rfl, by simpa using hl⟩
 | r :: r' :: rs, v :: v' :: vs, hl, _ => exact ⟨_, rfl, by simpa using hl⟩
 | [], v :: vs, _, h1 => simp at h1
 | [r], [], _, h1 => simp at h1
 | [r], v :: v' :: vs, _, h1 => simp at h1
 | r :: r' :: rs, [], _, h1 => simp at h1
 | r :: r' :: rs, [v], _, h1 => simp at h1
theorem xy {α β : Type} {R : α -> β -> Prop} {l : List (List α)} {m : List (List β)} (pV : YB (fun x y => YB R x y) l m) : YB R l.flatten m.flatten := by
 induction pV with
 | nil => exact .nil
 | cons r _ ih => rw [List.flatten_cons, List.flatten_cons]; exact r.append ih
theorem PC (r : Rel T0 B σ a w X h) {o : Oper} {c : Call} {f : FuncId} {d : Nat} {rows res : List (List D)} (pP : o.op = .call c) (hc : c.callee = .value (.func f)) (hd : o.dst = some d) (ot : σ.fresh d = true)
  (pX : Qd P σ c.args.toList c.argTypes.toList rows) (st : Bool) (pt : st = true -> YY P σ c.args.toList c.argTypes.toList = true) (nJ : st = false -> KA true res) (hs : Ql P f true rows res)
  {K : Act -> World -> Prop} {Q : Exit -> Act -> World -> Prop} (hK : ∀ a' w', KF T0 B (σ.new d (jN d res) (xD res.flatten)) a' w' -> XI B w w' -> K a' w') : o.wp P a w K Q := by
 have pa := St.yh ot
 unfold Oper.wp
 rw [Vl pP hc hs.1, Oper.upon_enter]
 refine (hs.2 (if st then Tof T0 X else Ps T0 X h σ) w _ (fun b k hb => ?_) (r.Qd st pX pt)).mono ?_
 ·cases st
  ·exact r.F9 hb
  ·exact r.Tlt hb
 ·rintro e w' ⟨vs, oB, Y, rfl, nL, hY, oI, na, hZ⟩
  have hZ := hZ rfl
  have mK : YB (fun cs row => YB (Jt (Tof T0 fun b => X b \/ Y b) w') cs row) oB res := by
   refine N9 (fun c d row oC hdr hr => ?_) na
   have oq : Jt (Tof (if st then Tof T0 X else Ps T0 X h σ) Y) w' c d := by simpa [qC] using hr
   cases st with
   | true =>
    have hT : ∀ b k, Tof (if true = true then Tof T0 X else Ps T0 X h σ) Y b k -> Tof T0 (fun b => X b \/ Y b) b k := by
     intro b k hb
     rcases hb with hb | hb
     ·rcases (show Tof T0 X b k from by simpa using hb) with hb | hb
      ·exact .inl hb
      ·exact .inr (.inl hb)
     ·exact .inr (.inr hb)
    cases d with
    | sl size rows =>
     obtain ⟨e, xs, ho, hz, pV⟩ := oq
     exact ⟨e, xs, ho, hz, pV.imp fun _ _ => Rd.mono (fun b k v hb hc => ⟨hc, hT b k hb⟩)⟩
    | int k n => exact Rd.scalar rfl oq
    | bool b => exact Rd.scalar rfl oq
    | str s => exact Rd.scalar rfl oq
    | unk => exact Rd.scalar rfl oq
   | false => exact Jt.flat (by simpa using nJ rfl row oC d hdr) oq
  have nA := xy mK
  rw [hd]
  refine hK _ _ ⟨fun b => X b \/ Y b, fun t j => if t = d then Hd.of ((oB.flatten[j]?).getD undef) else h t j, ?_⟩ (XI.OE nL r.hB)
  have pb : ∀ (j size : Nat) (rows : List (List D)), res.flatten[j]? = some (D.sl size rows) -> ∃ c, oB.flatten[j]? = some c /\ Jt (Tof T0 fun b => X b \/ Y b) w' c (D.sl size rows) := fun j size rows hj => nA.get' j _ hj
  have pr : ∀ j, (σ.new d (jN d res) (xD res.flatten)).ob d j = Yo (xD res.flatten) j := fun j => by rw [St.Jx]; simp [pa]
  have eF : ∀ j, Yo (xD res.flatten) j ≠ .none -> ∃ size rows, res.flatten[j]? = some (D.sl size rows) := by
   intro j pS
   rw [Tm] at pS
   split at pS
   ·rename_i size rows hj; exact ⟨size, rows, hj⟩
   ·exact absurd rfl pS
  refine r.new ot (Below.grownBy nL) (fun b hb => .inl hb) (fun b hb => hb.imp id (fun hy => hY b hy)) (jN d res) (Sw vs) (xD res.flatten) (fun j => Hd.of ((oB.flatten[j]?).getD undef)) ?_ (fun j => ?_) (fun j b _ hb => hb) (fun j b pS hb => ?_) (fun j j' b pS oU hb pj => ?_)
  ·refine Is oI (N9 (fun _ _ _ _ _ hr => Jt.top hr) mK) (fun i size rows hi => ⟨false, ?_⟩) (fun i c hi => by simp [hi, Hd.of])
   rw [pr, Tm, hi]
  ·rw [Tm]
   split
   ·rename_i size rows hj
    obtain ⟨c, oL, pY⟩ := pb j size rows hj
    obtain ⟨e, xs, ho, hz, pV⟩ := pY
    exact ⟨e, xs, by rw [oL]; exact ho, hz, pV⟩
   ·trivial
  ·obtain ⟨size, rows, hj⟩ := eF j pS
   obtain ⟨c, oL, _⟩ := pb j size rows hj
   have pj : blk c = some b := by simpa [Hd.of, oL] using hb
   have := hZ.1 j c _ b oL hj rfl pj
   refine ⟨this.1, ?_, this.2.1⟩
   rintro (hx | hy)
   ·have := r.hX b hx; omega
   ·exact this.2.2 hy
  ·obtain ⟨size, rows, hj⟩ := eF j pS
   obtain ⟨oA, ph, mO⟩ := eF j' oU
   obtain ⟨c, oL, _⟩ := pb j size rows hj
   obtain ⟨c2, l7, _⟩ := pb j' oA ph mO
   exact hZ.2 j j' c c2 _ _ b oL hj l7 mO rfl rfl (by simpa [Hd.of, oL] using hb) (by simpa [Hd.of, l7] using pj)
end
end Go.Vm
namespace Go.Vm
open Go.RowKit
section
variable {P : Program} {T0 : CS} {B : Nat -> Prop} {σ : St} {a : Act} {w w' : World} {X X' : Nat -> Prop} {h : Nat -> Nat -> Hd}
theorem XI.U5 {B : Nat -> Prop} (hg : w.grownBy w' none) (hB : ∀ b, B b -> b < w.heap.size) : XI B w w' := ⟨hg.os, hg.tape, hg.output, hg.size, fun k hk => hg.block k (hB k hk) (by simp)⟩
theorem Rel.wR (r : Rel T0 B σ a w X h) {d : Nat} (hf : σ.fresh d = true) (cs : Array Value) (T : TypeId) (xs : List At) (hx : YU d xs = false) (pV : YB (YO (Tof T0 X) h σ.ob w) xs cs.toList) :
  KF T0 B (σ.new d (.one (.bptr d 0)) [.box xs]) (a.put (some d) (.pointer (some ⟨w.heap.size, 0, none⟩))) (w.alloc (.cells cs T)) /\ XI B w (w.alloc (.cells cs T)) := by
 have hg := World.grownBy_alloc w (.cells cs T) none
 have pa := St.yh hf
 have hT : ∀ b k v, Tof T0 X b k -> w.cell? ⟨b, k, none⟩ = some v -> (w.alloc (.cells cs T)).cell? ⟨b, k, none⟩ = some v /\ Tof T0 X b k := by
  intro b k v hb pb
  refine ⟨?_, hb⟩
  rw [World.cell?_of_block (hg.block b (r.Tlt hb) (by simp))]; exact pb
 refine ⟨⟨X, fun t j => if t = d then Hd.of (.pointer (some ⟨w.heap.size, 0, none⟩)) else h t j, ?_⟩, XI.U5 hg r.hB⟩
 have nB : (σ.new d (.one (.bptr d 0)) [.box xs]).ob d 0 = .box xs := by rw [St.Jx]; simp [pa, Yo]
 have hc : ∀ t j, t ≠ d -> Cpt h (fun t j => if t = d then Hd.of (.pointer (some ⟨w.heap.size, 0, none⟩)) else h t j) σ.ob (σ.new d (.one (.bptr d 0)) [.box xs]).ob t j := by
  intro t j pS
  have he : (σ.new d (.one (.bptr d 0)) [.box xs]).ob t j = σ.ob t j := by rw [St.Jx, if_neg (fun hh => pS hh.1)]
  exact Cpt.same (by simp [pS]) he
 refine r.new hf hg (fun _ hb => hb) (fun _ hb => .inl hb) _ _ [.box xs] (fun _ => Hd.of (.pointer (some ⟨w.heap.size, 0, none⟩))) ?_ (fun j => ?_) (fun j b _ hb => hb) (fun j b _ hb => ?_) (fun j j' b pS oU _ _ => ?_)
 ·exact ⟨rfl, fun cells _ => ⟨w.heap.size, by simp [Hd.of], rfl⟩⟩
 ·cases j with
  | zero =>
   refine ⟨w.heap.size, cs, T, rfl, ?_, W5 hT hc hx pV⟩
   exact heap_alloc_new w _
  | succ j => simp [Yo, J3]
 ·simp [Hd.of, blk] at hb; subst hb
  refine ⟨Nat.le_refl _, fun lJ => ?_, by simp⟩
  have := (r.hX _ lJ).2; omega
 ·have : ∀ j, Yo [Ob.box xs] j ≠ .none -> j = 0 := by
   intro j hj
   cases j with
   | zero => rfl
   | succ j => simp [Yo] at hj
  rw [this j pS, this j' oU]
theorem Rel.wN (r : Rel T0 B σ a w X h) {d : Nat} (hf : σ.fresh d = true) (hg : w.grownBy w' none) (v : Value) {size : Nat} {rows : List (List D)}
  (ho : Jt (Tof T0 X) w' v (.sl size rows)) (hb : ∀ b, blk v = some b -> w.heap.size <= b /\ b < w'.heap.size) :
  KF T0 B (σ.new d (.one (.sref d 0 0 rows.length)) [.arr false size rows]) (a.put (some d) v) w' /\ XI B w w' := by
 have pa := St.yh hf
 refine ⟨⟨X, fun t j => if t = d then Hd.of v else h t j, ?_⟩, XI.U5 hg r.hB⟩
 have nB : (σ.new d (.one (.sref d 0 0 rows.length)) [.arr false size rows]).ob d 0 = .arr false size rows := by rw [St.Jx]; simp [pa, Yo]
 obtain ⟨e, xs, pY, hz, pV⟩ := ho
 refine r.new hf hg (fun _ hb => hb) (fun _ hb => .inl hb) _ _ [.arr false size rows] (fun _ => Hd.of v) ?_ (fun j => ?_) (fun j b _ hb => hb) (fun j b _ pj => ?_) (fun j j' b pS oU _ _ => ?_)
 ·refine ⟨yZ pY, fun q' oA ph pv => ?_, fun oA ph pv => by rw [nB] at pv; cases pv⟩
  rw [nB] at pv; cases pv
  simp only [if_true]
  exact Rg pY
 ·cases j with
  | zero => exact ⟨e, xs, pY, hz, pV⟩
  | succ j => simp [Yo, J3]
 ·have := hb b pj
  refine ⟨this.1, fun lJ => ?_, this.2⟩
  have := (r.hX _ lJ).2; omega
 ·have : ∀ j, Yo [Ob.arr false size rows] j ≠ .none -> j = 0 := by
   intro j hj
   cases j with
   | zero => rfl
   | succ j => simp [Yo] at hj
  rw [this j pS, this j' oU]
theorem Rel.vq (r : Rel T0 B σ a w X h) {d : Nat} (hf : σ.fresh d = true) (hg : w.grownBy w' none) (v : Value) {e : TypeId} {size : Nat} {rows : List (List D)} {xs : List Value}
  (pY : w'.ownsRow 0 e size v rows.length xs) (hz : ∀ r ∈ rows, r.length = size) (pV : KM w' xs rows.flatten (fun _ => False)) (hb : ∀ b, blk v = some b -> w.heap.size <= b /\ b < w'.heap.size) :
  KF T0 B (σ.new d (.one (.sref d 0 0 rows.length)) [.arr true size rows]) (a.put (some d) v) w' /\ XI B w w' := by
 have pa := St.yh hf
 refine ⟨⟨X, fun t j => if t = d then ⟨v, fun k => (xs[k]?).getD undef, fun b => blk v = some b⟩ else h t j, ?_⟩, XI.U5 hg r.hB⟩
 have nB : (σ.new d (.one (.sref d 0 0 rows.length)) [.arr true size rows]).ob d 0 = .arr true size rows := by rw [St.Jx]; simp [pa, Yo]
 refine r.new hf hg (fun _ hb => hb) (fun _ hb => .inl hb) _ _ [.arr true size rows] (fun _ => ⟨v, fun k => (xs[k]?).getD undef, fun b => blk v = some b⟩) ?_ (fun j => ?_) (fun j b _ hb => hb) (fun j b _ pj => ?_) (fun j j' b pS oU _ _ => ?_)
 ·refine ⟨yZ pY, fun q' oA ph pv => ?_, fun oA ph pv => by rw [nB] at pv; cases pv⟩
  rw [nB] at pv; cases pv
  simp only [if_true]
  exact Rg pY
 ·cases j with
  | zero =>
   obtain ⟨hl, Sk, h1, h2, h3⟩ := pV
   exact ⟨e, xs, pY, hz, ⟨hl, Sk, h1, fun k b hk => (h2 k b hk).elim, h3⟩, fun k x d hx _ _ => by simp [hx]⟩
  | succ j => simp [Yo, J3]
 ·have := hb b pj
  refine ⟨this.1, fun lJ => ?_, this.2⟩
  have := (r.hX _ lJ).2; omega
 ·have : ∀ j, Yo [Ob.arr true size rows] j ≠ .none -> j = 0 := by
   intro j hj
   cases j with
   | zero => rfl
   | succ j => simp [Yo] at hj
  rw [this j pS, this j' oU]
theorem Dn (r : Rel T0 B σ a w X h) {o : Oper} {T : TypeId} {d : Nat} {row : List At} (pP : o.op = .alloc T) (hd : o.dst = some d) (hf : σ.fresh d = true) (hz : Qg P T = true) (mF : ko P 12 T = some row) (oC : YU d row = false)
  {K : Act -> World -> Prop} {Q : Exit -> Act -> World -> Prop} (hK : ∀ a' w', KF T0 B (σ.new d (.one (.bptr d 0)) [.box row]) a' w' -> XI B w w' -> K a' w') : o.wp P a w K Q := by
 obtain ⟨i, z, hi, aP, oy, pV⟩ := IK hz mF
 have pq : (execOp a.eval o).run P w = .ok (.value (.pointer (some ⟨w.heap.size, 0, none⟩))) (w.alloc (.cells z.cells T)) := by
  simp [execOp, pP, Instr.alloc, zeroValue, typeInfo, hi, aP, newVar, newRow]
 unfold Oper.wp
 rw [pq, Oper.upon_value, hd]
 have := r.wR hf z.cells T row oC (pV _ _ _ _)
 exact hK _ _ this.1 this.2
theorem AA (r : Rel T0 B σ a w X h) {o : Oper} {T : TypeId} {x : Operand} {d : Nat} (pP : o.op = .box T x) (hd : o.dst = some d) (hf : σ.fresh d = true) (hg : gOf (look P σ T x) = true) (nJ : (unc (look P σ T x)).flat = true) (oC : YU d (unc (look P σ T x)).cells = false)
  {K : Act -> World -> Prop} {Q : Exit -> Act -> World -> Prop} (hK : ∀ a' w', KF T0 B (σ.new d (.one (.bptr d 0)) [.box (unc (look P σ T x)).cells]) a' w' -> XI B w w' -> K a' w') : o.wp P a w K Q := by
 have pV := kq nJ (r.arg (P := P) T x rfl hg)
 have pq : (execOp a.eval o).run P w = .ok (.value (.pointer (some ⟨w.heap.size, 0, none⟩))) (w.alloc (.cells (a.eval x).cells T)) := by
  simp [execOp, pP, Instr.box, newVar, newRow]
 unfold Oper.wp
 rw [pq, Oper.upon_value, hd]
 have := r.wR hf (a.eval x).cells T _ oC pV
 exact hK _ _ this.1 this.2
end
end Go.Vm
