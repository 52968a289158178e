/- An abstract machine NW the model of Go, by value, and that it is sound: part Va. No condition. -/
import Derived.WalkKit
import Derived.Below
set_option linter.unusedVariables false
set_option linter.unusedSimpArgs false
namespace Go.Vm
inductive D where
 | int (k : IntKind) (n : Int)
 | bool (b : Bool)
 | str (s : ByteArray)
 | sl (size : Nat) (rows : List (List D))
 | unk
 deriving Inhabited
def D.scalar : D -> Bool
 | .sl _ _ => false
 | _ => true
abbrev CS := Nat -> Nat -> Prop
inductive Rd (T : CS) (w : World) : Value -> D -> Prop
 | int (k : IntKind) (n : Int) : Rd T w (.int k n) (.int k n)
 | bool (b : Bool) : Rd T w (.bool b) (.bool b)
 | str (s : ByteArray) : Rd T w (.string s) (.str s)
 | unk (v : Value) (h : v.oneCell' = true) : Rd T w v .unk
 | nil (size : Nat) : Rd T w (.slice none 0 0) (.sl size [])
 | sl (a : Addr) (len cap size : Nat) (rows : List (List D)) (g : Nat -> Value)
   (hl : rows.length = len) (hc : len <= cap) (hm : cap <= maxLen) (hz : ∀ r ∈ rows, r.length = size) (hs : rows.flatten ≠ [] -> a.spot = none)
   (hg : ∀ k d, rows.flatten[k]? = some d -> w.cell? ⟨a.block, a.off + k, none⟩ = some (g k) /\ T a.block (a.off + k))
   (hr : ∀ k d, rows.flatten[k]? = some d -> Rd T w (g k) d) : Rd T w (.slice (some a) len cap) (.sl size rows)
theorem Rd.mono {T T' : CS} {w w' : World} (hT : ∀ b k v, T b k -> w.cell? ⟨b, k, none⟩ = some v -> w'.cell? ⟨b, k, none⟩ = some v /\ T' b k)
  {v : Value} {d : D} (h : Rd T w v d) : Rd T' w' v d := by
 induction h with
 | int k n => exact .int k n
 | bool b => exact .bool b
 | str s => exact .str s
 | unk v h => exact .unk v h
 | nil s => exact .nil s
 | sl a len cap size rows g hl hc hm hz hs hg hr ih =>
  exact .sl a len cap size rows g hl hc hm hz hs (fun k d hk => hT _ _ _ (hg k d hk).2 (hg k d hk).1) (fun k d hk => ih k d hk)
theorem Rd.Xg {T : CS} {w : World} {v : Value} {d : D} (h : Rd T w v d) : v.oneCell' = true := by
 cases h <;> first | rfl | assumption
inductive At where
 | any
 | d (x : D)
 | nil (size : Nat)
 | sref (t j lo len : Nat)
 | ptr (t j i c : Nat)
 | bptr (t c : Nat)
 | fn (f t : Nat)
 | rptr (r : List D) (c : Nat)
 | tref (t j i c : Nat) (o : Option Nat)
 deriving Inhabited
inductive V where
 | any
 | one (x : At)
 | agg (xs : List At)
 | tup (xs : List V)
 | cnd (g : Bool) (x : V)
 | fix (v : Value) (x : V)
 deriving Inhabited
inductive Ob where
 | none
 | box (cells : List At)
 | arr (q : Bool) (size : Nat) (rows : List (List D))
 | lit (size : Nat) (rows : List (List At))
 deriving Inhabited
structure Hd where
 v : Value
 n : Nat -> Value
 u : Nat -> Prop
abbrev Ent := V × List Ob
abbrev St := List Ent
def St.get (σ : St) (t : Nat) : V := match σ[t]? with | some e => e.1 | none => .any
def YS (os : List Ob) (j : Nat) : Ob := match os[j]? with | some o => o | none => .none
def St.ob (σ : St) (t j : Nat) : Ob := match σ[t]? with | some e => YS e.2 j | none => .none
def St.put : St -> Nat -> V -> St
 | [], _, _ => []
 | e :: σ, 0, v => (v, e.2) :: σ
 | e :: σ, t + 1, v => e :: St.put σ t v
def St.Zs : St -> Nat -> Nat -> Ob -> St
 | [], _, _, _ => []
 | e :: σ, 0, j, o => (e.1, e.2.set j o) :: σ
 | e :: σ, t + 1, j, o => e :: St.Zs σ t j o
def St.new : St -> Nat -> V -> List Ob -> St
 | [], _, _, _ => []
 | _ :: σ, 0, v, os => (v, os) :: σ
 | e :: σ, t + 1, v, os => e :: St.new σ t v os
theorem St.QH (σ : St) (t : Nat) (v : V) : (σ.put t v).length = σ.length := by
 induction σ generalizing t with
 | nil => rfl
 | cons e σ ih => cases t <;> simp [St.put, ih]
theorem St.Y3 (σ : St) (t j : Nat) (o : Ob) : (σ.Zs t j o).length = σ.length := by
 induction σ generalizing t with
 | nil => rfl
 | cons e σ ih => cases t <;> simp [St.Zs, ih]
theorem St.jy (σ : St) (t : Nat) (v : V) (os : List Ob) : (σ.new t v os).length = σ.length := by
 induction σ generalizing t with
 | nil => rfl
 | cons e σ ih => cases t <;> simp [St.new, ih]
theorem St.J2 (σ : St) (t : Nat) (v : V) (u : Nat) : (σ.put t v).get u = if u = t /\ t < σ.length then v else σ.get u := by
 induction σ generalizing t u with
 | nil => simp [St.put, St.get]
 | cons e σ ih =>
  cases t with
  | zero => cases u <;> simp [St.put, St.get]
  | succ t => cases u with
   | zero => simp [St.put, St.get]
   | succ u => have := ih t u; simp only [St.get, St.put] at this ⊢; simpa using this
theorem St.QF (σ : St) (t : Nat) (v : V) : (σ.put t v).ob = σ.ob := by
 funext u j
 induction σ generalizing t u with
 | nil => simp [St.put, St.ob]
 | cons e σ ih =>
  cases t with
  | zero => cases u <;> simp [St.put, St.ob]
  | succ t => cases u with
   | zero => simp [St.put, St.ob]
   | succ u => have := ih t u; simp only [St.ob, St.put] at this ⊢; simpa using this
theorem St.Xl (σ : St) (t j : Nat) (o : Ob) (u : Nat) : (σ.Zs t j o).get u = σ.get u := by
 induction σ generalizing t u with
 | nil => simp [St.Zs, St.get]
 | cons e σ ih =>
  cases t with
  | zero => cases u <;> simp [St.Zs, St.get]
  | succ t => cases u with
   | zero => simp [St.Zs, St.get]
   | succ u => have := ih t u; simp only [St.get, St.Zs] at this ⊢; simpa using this
theorem GS (os : List Ob) (j : Nat) (o : Ob) (i : Nat) : YS (os.set j o) i = if i = j /\ j < os.length then o else YS os i := by
 unfold YS
 rw [List.getElem?_set]
 by_cases h : j = i
 ·subst h
  by_cases h2 : j < os.length
  ·simp [h2]
  ·simp [h2]
 ·simp [h, Ne.symm h]
theorem St.Xj (σ : St) (t j : Nat) (o : Ob) (u i : Nat) (hl : σ.ob t j ≠ .none) : (σ.Zs t j o).ob u i = if u = t /\ i = j then o else σ.ob u i := by
 induction σ generalizing t u with
 | nil => simp [St.ob] at hl
 | cons e σ ih =>
  cases t with
  | zero =>
   have hj : j < e.2.length := by
    simp only [St.ob, List.getElem?_cons_zero, YS] at hl
    rcases Nat.lt_or_ge j e.2.length with h | h
    ·exact h
    ·simp [List.getElem?_eq_none h] at hl
   cases u with
   | zero => simp [St.Zs, St.ob, GS, hj]
   | succ u => simp [St.Zs, St.ob]
  | succ t => cases u with
   | zero => simp [St.Zs, St.ob]
   | succ u =>
    have := ih t u (by simpa [St.ob] using hl)
    simp only [St.ob, St.Zs] at this ⊢; simpa using this
theorem St.ko (σ : St) (t : Nat) (v : V) (os : List Ob) (u : Nat) : (σ.new t v os).get u = if u = t /\ t < σ.length then v else σ.get u := by
 induction σ generalizing t u with
 | nil => simp [St.new, St.get]
 | cons e σ ih =>
  cases t with
  | zero => cases u <;> simp [St.new, St.get]
  | succ t => cases u with
   | zero => simp [St.new, St.get]
   | succ u => have := ih t u; simp only [St.get, St.new] at this ⊢; simpa using this
theorem St.Qu (σ : St) (t : Nat) (v : V) (os : List Ob) (u j : Nat) : (σ.new t v os).ob u j = if u = t /\ t < σ.length then YS os j else σ.ob u j := by
 induction σ generalizing t u with
 | nil => simp [St.new, St.ob]
 | cons e σ ih =>
  cases t with
  | zero => cases u <;> simp [St.new, St.ob]
  | succ t => cases u with
   | zero => simp [St.new, St.ob]
   | succ u => have := ih t u; simp only [St.ob, St.new] at this ⊢; simpa using this
def Lt (h : Value) (len : Nat) : Value := match h with | .slice b _ c => .slice b len c | v => v
def D0 (h : Value) (size n lo len : Nat) (v : Value) : Prop :=
 lo + len <= n /\ (len = n -> lo = 0 -> v = h) /\ (lo = 0 -> v = Lt h len) /\ ∃ base cap, v = .slice base len cap /\ len <= cap /\ cap <= maxLen /\ (base = none -> cap = 0) /\ (0 < len -> ∃ b rN, h = .slice (some ⟨b, 0, none⟩) n rN /\ base = some ⟨b, lo * size, none⟩)
def wx : Option Nat -> Value -> Value -> Prop
 | none, x, v => v = x
 | some k, x, v => ∃ b n cap, x = .slice (some ⟨b, 0, none⟩) n cap /\ v = .pointer (some ⟨b, k, none⟩)
def YD (T : CS) (h : Nat -> Nat -> Hd) (ob : Nat -> Nat -> Ob) (w : World) : At -> Value -> Prop
 | .any, v => v.oneCell' = true
 | .d x, v => Rd T w v x
 | .nil _, v => v = .slice none 0 0
 | .sref t j lo len, v => v.oneCell' = true /\ (∀ q size rows, ob t j = .arr q size rows -> D0 (h t j).v size rows.length lo len v) /\ (∀ size rows, ob t j = .lit size rows -> D0 (h t j).v size rows.length lo len v)
 | .ptr t j i c, v => v.oneCell' = true /\ (∀ q size rows, ob t j = .arr q size rows -> ∃ b n cap, (h t j).v = .slice (some ⟨b, 0, none⟩) n cap /\ v = .pointer (some ⟨b, i * size + c, none⟩))
 | .bptr t c, v => v.oneCell' = true /\ ∀ cells, ob t 0 = .box cells -> ∃ b, (h t 0).v = .pointer (some ⟨b, 0, none⟩) /\ v = .pointer (some ⟨b, c, none⟩)
 | .fn f t, v => v.oneCell' = true /\ ∀ cells, ob t 0 = .box cells -> ∃ b, (h t 0).v = .pointer (some ⟨b, 0, none⟩) /\ v = .func (.func f) #[] #[.pointer (some ⟨b, 0, none⟩)]
 | .rptr r c, v => ∃ b off, ∃ g : Nat -> Value, v = .pointer (some ⟨b, off + c, none⟩) /\ ∀ k d, r[k]? = some d -> w.cell? ⟨b, off + k, none⟩ = some (g k) /\ T b (off + k) /\ Rd T w (g k) d
 | .tref t j i c o, v => v.oneCell' = true /\ ∀ size rows, ob t j = .arr true size rows -> wx o ((h t j).n (i * size + c)) v
theorem YD.Xg {T : CS} {h : Nat -> Nat -> Hd} {ob : Nat -> Nat -> Ob} {w : World} {x : At} {v : Value} (r : YD T h ob w x v) : v.oneCell' = true := by
 cases x with
 | any => exact r
 | d x => exact Rd.Xg r
 | nil s => cases r; rfl
 | sref => exact r.1
 | ptr => exact r.1
 | bptr => exact r.1
 | fn => exact r.1
 | tref => exact r.1
 | rptr r' c => obtain ⟨b, off, g, rfl, _⟩ := r; rfl
inductive Zy {α β : Type} (R : α -> β -> Prop) : List α -> List β -> Prop
 | nil : Zy R [] []
 | cons {a b l m} : R a b -> Zy R l m -> Zy R (a :: l) (b :: m)
theorem Zy.imp {α β : Type} {R S : α -> β -> Prop} (h : ∀ a b, R a b -> S a b) {l : List α} {m : List β} (x : Zy R l m) : Zy S l m := by
 induction x with
 | nil => exact .nil
 | cons r _ ih => exact .cons (h _ _ r) ih
theorem Zy.length {α β : Type} {R : α -> β -> Prop} {l : List α} {m : List β} (x : Zy R l m) : l.length = m.length := by
 induction x with
 | nil => rfl
 | cons r _ ih => simp [ih]
theorem Zy.get {α β : Type} {R : α -> β -> Prop} {l : List α} {m : List β} (x : Zy R l m) : ∀ (i : Nat) (a : α), l[i]? = some a -> ∃ b, m[i]? = some b /\ R a b := by
 induction x with
 | nil => intro i a h; simp at h
 | cons r _ ih =>
  intro i a h
  cases i with
  | zero => simp at h; subst h; exact ⟨_, by simp, r⟩
  | succ i => simpa using ih i a (by simpa using h)
theorem Zy.get' {α β : Type} {R : α -> β -> Prop} {l : List α} {m : List β} (x : Zy R l m) : ∀ (i : Nat) (b : β), m[i]? = some b -> ∃ a, l[i]? = some a /\ R a b := by
 induction x with
 | nil => intro i a h; simp at h
 | cons r _ ih =>
  intro i a h
  cases i with
  | zero => simp at h; subst h; exact ⟨_, by simp, r⟩
  | succ i => simpa using ih i a (by simpa using h)
theorem Zy.zo {α β : Type} {R : α -> β -> Prop} {l : List α} {m : List β} (hl : l.length = m.length) (h : ∀ (i : Nat) (a : α) (b : β), l[i]? = some a -> m[i]? = some b -> R a b) : Zy R l m := by
 induction l generalizing m with
 | nil => cases m with
  | nil => exact .nil
  | cons b m => simp at hl
 | cons a l ih => cases m with
  | nil => simp at hl
  | cons b m => exact .cons (h 0 a b (by simp) (by simp)) (ih (by simpa using hl) (fun i a b ha hb => h (i + 1) a b (by simpa using ha) (by simpa using hb)))
theorem Zy.append {α β : Type} {R : α -> β -> Prop} {l l' : List α} {m m' : List β} (x : Zy R l m) (y : Zy R l' m') : Zy R (l ++ l') (m ++ m') := by
 induction x with
 | nil => exact y
 | cons r _ ih => exact .cons r ih
theorem Zy.take {α β : Type} {R : α -> β -> Prop} {l : List α} {m : List β} (x : Zy R l m) (n : Nat) : Zy R (l.take n) (m.take n) := by
 induction x generalizing n with
 | nil => simpa using Zy.nil
 | cons r _ ih => cases n with
  | zero => simpa using Zy.nil
  | succ n => simpa using Zy.cons r (ih n)
theorem Zy.drop {α β : Type} {R : α -> β -> Prop} {l : List α} {m : List β} (x : Zy R l m) (n : Nat) : Zy R (l.drop n) (m.drop n) := by
 induction x generalizing n with
 | nil => simpa using Zy.nil
 | cons r x ih => cases n with
  | zero => simpa using Zy.cons r x
  | succ n => simpa using ih n
theorem Zy.set {α β : Type} {R : α -> β -> Prop} {l : List α} {m : List β} (x : Zy R l m) (i : Nat) {a : α} {b : β} (r : R a b) : Zy R (l.set i a) (m.set i b) := by
 induction x generalizing i with
 | nil => simpa using Zy.nil
 | cons r' x ih => cases i with
  | zero => simpa using Zy.cons r x
  | succ i => simpa using Zy.cons r' (ih i)
theorem Zy.mem {α β : Type} {R : α -> β -> Prop} {l : List α} {m : List β} (x : Zy R l m) {b : β} (h : b ∈ m) : ∃ a, a ∈ l /\ R a b := by
 obtain ⟨i, hi⟩ := List.mem_iff_getElem?.1 h
 obtain ⟨a, ha, r⟩ := x.get' i b hi
 exact ⟨a, List.mem_of_getElem? ha, r⟩
def Jh (T : CS) (h : Nat -> Nat -> Hd) (ob : Nat -> Nat -> Ob) (w : World) : V -> Value -> Prop
 | .any, _ => True
 | .one x, v => YD T h ob w x v
 | .agg xs, v => ∃ cs : Array Value, v = .agg cs /\ Zy (YD T h ob w) xs cs.toList
 | .tup _, _ => False
 | .cnd _ _, _ => False
 | .fix _ _, _ => False
def QI (T : CS) (h : Nat -> Nat -> Hd) (ob : Nat -> Nat -> Ob) (w : World) : V -> Value -> Prop
 | .tup xs, v => ∃ vs : Array Value, v = .tuple vs /\ Zy (Jh T h ob w) xs vs.toList
 | .cnd g x, v => (g = true -> Jh T h ob w x v) /\ (g = false -> v = undef)
 | .any, _ => True
 | .one x, v => YD T h ob w x v
 | .agg xs, v => Jh T h ob w (.agg xs) v
 | .fix u x, v => v = u /\ Jh T h ob w x v
theorem Jh.up {T : CS} {h : Nat -> Nat -> Hd} {ob : Nat -> Nat -> Ob} {w : World} {x : V} {v : Value} (r : Jh T h ob w x v) : QI T h ob w x v := by
 cases x <;> first | exact r | exact r.elim
def blk : Value -> Option Nat
 | .slice (some a) _ _ => some a.block
 | .pointer (some a) => some a.block
 | _ => none
def Hd.of (v : Value) : Hd := ⟨v, fun _ => undef, fun b => blk v = some b⟩
inductive Own (w : World) : Value -> D -> (Nat -> Prop) -> Prop
 | int (k : IntKind) (n : Int) (S : Nat -> Prop) : Own w (.int k n) (.int k n) S
 | bool (b : Bool) (S : Nat -> Prop) : Own w (.bool b) (.bool b) S
 | str (s : ByteArray) (S : Nat -> Prop) : Own w (.string s) (.str s) S
 | unk (v : Value) (h : v.oneCell' = true) (S : Nat -> Prop) : Own w v .unk S
 | sl (v : Value) (size : Nat) (rows : List (List D)) (S : Nat -> Prop) (e : TypeId) (xs : List Value) (Sk : Nat -> Nat -> Prop) (ho : w.ownsRow 0 e size v rows.length xs) (hz : ∀ r ∈ rows, r.length = size)
   (hb : ∀ b, blk v = some b -> S b) (hl : xs.length = rows.flatten.length) (hk : ∀ k x d, xs[k]? = some x -> rows.flatten[k]? = some d -> Own w x d (Sk k))
   (hs : ∀ k b, Sk k b -> S b /\ blk v ≠ some b) (hd : ∀ i j b, Sk i b -> Sk j b -> i = j) : Own w v (.sl size rows) S
def JG (w : World) (xs : List Value) (ds : List D) (S : Nat -> Prop) : Prop :=
 xs.length = ds.length /\ ∃ Sk : Nat -> Nat -> Prop, (∀ k x d, xs[k]? = some x -> ds[k]? = some d -> Own w x d (Sk k)) /\ (∀ k b, Sk k b -> S b) /\ (∀ i j b, Sk i b -> Sk j b -> i = j)
def JA (T : CS) (h : Nat -> Nat -> Hd) (ob : Nat -> Nat -> Ob) (w : World) (hd : Hd) : Ob -> Prop
 | .none => True
 | .box cells => ∃ b cs e, hd.v = .pointer (some ⟨b, 0, none⟩) /\ w.heap[b]? = some (.cells cs e (0, 0)) /\ Zy (YD T h ob w) cells cs.toList
 | .arr false size rows => ∃ e xs, w.ownsRow 0 e size hd.v rows.length xs /\ (∀ r ∈ rows, r.length = size) /\ Zy (Rd T w) xs rows.flatten
 | .arr true size rows => ∃ e xs, w.ownsRow 0 e size hd.v rows.length xs /\ (∀ r ∈ rows, r.length = size) /\ JG w xs rows.flatten (fun b => hd.u b /\ blk hd.v ≠ some b) /\ (∀ k x d, xs[k]? = some x -> rows.flatten[k]? = some d -> d.scalar = false -> hd.n k = x)
 | .lit size rows => ∃ e xs, w.ownsRow 0 e size hd.v rows.length xs /\ (∀ r ∈ rows, r.length = size) /\ Zy (YD T h ob w) rows.flatten xs
def Tof (T0 : CS) (X : Nat -> Prop) : CS := fun b k => T0 b k \/ X b
structure Y9 (B : Nat -> Prop) (w w' : World) : Prop where
 os : w'.os = w.os
 tape : w'.tape = w.tape
 output : w'.output = w.output
 size : w.heap.size <= w'.heap.size
 block : ∀ k, B k -> w'.heap[k]? = w.heap[k]?
theorem Y9.refl (B : Nat -> Prop) (w : World) : Y9 B w w := ⟨rfl, rfl, rfl, Nat.le_refl _, fun _ _ => rfl⟩
theorem Y9.trans {B : Nat -> Prop} {a b c : World} (h : Y9 B a b) (k : Y9 B b c) : Y9 B a c :=
 ⟨k.os.trans h.os, k.tape.trans h.tape, k.output.trans h.output, Nat.le_trans h.size k.size, fun i hi => (k.block i hi).trans (h.block i hi)⟩
theorem Y9.SL {B : Nat -> Prop} {w w' : World} (h : RowKit.Below w.heap.size w w') (hB : ∀ b, B b -> b < w.heap.size) : Y9 B w w' := ⟨h.os, h.tape, h.output, h.size, fun k hk => h.block k (hB k hk)⟩
structure Rel (T0 : CS) (B : Nat -> Prop) (σ : St) (a : Act) (w : World) (X : Nat -> Prop) (h : Nat -> Nat -> Hd) : Prop where
 size : a.tmps.size = σ.length
 defers : a.defers = []
 hB : ∀ b, B b -> b < w.heap.size
 hX : ∀ b, X b -> ¬ B b /\ b < w.heap.size
 hT : ∀ b k, T0 b k -> B b
 slot : ∀ t, t < σ.length -> QI (Tof T0 X) h σ.ob w (σ.get t) (a.tmps.getD t undef)
 obj : ∀ t j, JA (Tof T0 X) h σ.ob w (h t j) (σ.ob t j)
 ub : ∀ t j b, σ.ob t j ≠ .none -> blk (h t j).v = some b -> (h t j).u b
 own : ∀ t j b, σ.ob t j ≠ .none -> (h t j).u b -> ¬ B b /\ ¬ X b /\ b < w.heap.size
 inj : ∀ t j t' j' b, σ.ob t j ≠ .none -> σ.ob t' j' ≠ .none -> (h t j).u b -> (h t' j').u b -> t = t' /\ j = j'
def JZ (T0 : CS) (B : Nat -> Prop) (σ : St) (a : Act) (w : World) : Prop := ∃ X h, Rel T0 B σ a w X h
theorem Rel.AO {T0 : CS} {B : Nat -> Prop} {σ : St} {a : Act} {w : World} {X : Nat -> Prop} {h : Nat -> Nat -> Hd} (r : Rel T0 B σ a w X h) {t j b : Nat} (ho : σ.ob t j ≠ .none) (hb : blk (h t j).v = some b) : ¬ B b /\ ¬ X b /\ b < w.heap.size :=
 r.own t j b ho (r.ub t j b ho hb)
section
variable {T T' : CS} {h h' : Nat -> Nat -> Hd} {ob sB : Nat -> Nat -> Ob} {w w' : World}
theorem YD.mono (hT : ∀ b k v, T b k -> w.cell? ⟨b, k, none⟩ = some v -> w'.cell? ⟨b, k, none⟩ = some v /\ T' b k) {x : At} {v : Value}
  (r : YD T h ob w x v) : YD T' h ob w' x v := by
 cases x with
 | any => exact r
 | d x => exact Rd.mono hT r
 | nil s => exact r
 | sref t j lo len => exact r
 | ptr t j i c => exact r
 | bptr t c => exact r
 | fn f t => exact r
 | tref t j i c o => exact r
 | rptr rr c =>
  obtain ⟨b, off, g, e, hk⟩ := r
  exact ⟨b, off, g, e, fun k d hd => ⟨(hT _ _ _ (hk k d hd).2.1 (hk k d hd).1).1, (hT _ _ _ (hk k d hd).2.1 (hk k d hd).1).2, Rd.mono hT (hk k d hd).2.2⟩⟩
theorem Jh.mono (hT : ∀ b k v, T b k -> w.cell? ⟨b, k, none⟩ = some v -> w'.cell? ⟨b, k, none⟩ = some v /\ T' b k) {x : V} {v : Value}
  (r : Jh T h ob w x v) : Jh T' h ob w' x v := by
 cases x with
 | any => exact r
 | one x => exact YD.mono hT r
 | agg xs => obtain ⟨cs, e, r⟩ := r; exact ⟨cs, e, r.imp fun _ _ => YD.mono hT⟩
 | tup xs => exact r.elim
 | cnd g x => exact r.elim
 | fix u x => exact r.elim
theorem QI.mono (hT : ∀ b k v, T b k -> w.cell? ⟨b, k, none⟩ = some v -> w'.cell? ⟨b, k, none⟩ = some v /\ T' b k) {x : V} {v : Value}
  (r : QI T h ob w x v) : QI T' h ob w' x v := by
 cases x with
 | any => exact r
 | one x => exact YD.mono hT r
 | agg xs => exact Jh.mono (x := .agg xs) hT r
 | tup xs => obtain ⟨vs, e, r⟩ := r; exact ⟨vs, e, r.imp fun _ _ => Jh.mono hT⟩
 | cnd g x => exact ⟨fun hg => Jh.mono hT (r.1 hg), r.2⟩
 | fix u x => exact ⟨r.1, Jh.mono hT r.2⟩
end
end Go.Vm
namespace Go.Vm
def unc : V -> V
 | .cnd _ x => x
 | .fix _ x => x
 | x => x
def gOf : V -> Bool
 | .cnd g _ => g
 | _ => true
def ZP (P : Program) (t : TypeId) : TypeId :=
 match P.underlying t with
 | some (.slice e) => e
 | some (.array _ e) => e
 | _ => 0
def Yq (P : Program) (t : TypeId) : Bool :=
 match P.underlying t with
 | some (.slice e) => (P.info? e).isSome
 | _ => false
def Mc (P : Program) (t : TypeId) : Option Nat :=
 match P.underlying t with
 | some (.array n e) => if (P.info? e).isSome then some n else none
 | _ => none
def WG (P : Program) (t : TypeId) : Bool :=
 match P.underlying t with
 | some (.struct _) | some (.array _ _) => true
 | _ => false
def yf (P : Program) (t : TypeId) : Bool :=
 (P.underlying t).isSome && (P.info? t).isSome && (WG P t || P.cellsOf t == 1)
def X1 (P : Program) (t : TypeId) (f : Nat) : Nat :=
 match P.underlying t with
 | some (.struct fs) => (match fs[f]? with | some fd => fd.offset | none => 0)
 | _ => 0
def yM (P : Program) (t : TypeId) (f : Nat) : TypeId :=
 match P.underlying t with
 | some (.struct fs) => (match fs[f]? with | some fd => fd.type | none => 0)
 | _ => 0
def xU (P : Program) (t : TypeId) (f : Nat) : Bool :=
 match P.underlying t with
 | some (.struct fs) => (match fs[f]? with | some fd => (P.info? fd.type).isSome && decide (P.cellsOf fd.type ≠ 0) | none => false)
 | _ => false
def F2 (P : Program) (t : TypeId) : Option IntKind :=
 match P.underlying t with
 | some (.int k) => some k
 | _ => none
def W8 (P : Program) (t : TypeId) : Bool :=
 match P.underlying t with
 | some .string => true
 | _ => false
def Pa (P : Program) (t : TypeId) : Bool :=
 match P.underlying t with
 | some .bool => true
 | _ => false
def cst (P : Program) (ty : TypeId) : Value -> V
 | .int k n => .one (.d (.int k n))
 | .bool b => .one (.d (.bool b))
 | .string s => .one (.d (.str s))
 | .slice none 0 0 => .one (.nil (P.cellsOf (ZP P ty)))
 | _ => .any
def look (P : Program) (σ : St) (ty : TypeId) : Operand -> V
 | .tmp t => σ.get t
 | .const v => cst P ty v
 | _ => .any
section
variable {P : Program} {T0 : CS} {B : Nat -> Prop} {σ : St} {a : Act} {w : World} {X : Nat -> Prop} {h : Nat -> Nat -> Hd}
theorem Rel.get (r : Rel T0 B σ a w X h) (t : Nat) : QI (Tof T0 X) h σ.ob w (σ.get t) (a.tmps.getD t undef) := by
 rcases Nat.lt_or_ge t σ.length with hl | hl
 ·exact r.slot t hl
 ·simp [St.get, List.getElem?_eq_none hl, QI]
theorem BE (T : CS) (h : Nat -> Nat -> Hd) (ob : Nat -> Nat -> Ob) (w : World) (ty : TypeId) (v : Value) : QI T h ob w (cst P ty v) v := by
 unfold cst
 split
 ·exact .int _ _
 ·exact .bool _
 ·exact .str _
 ·rfl
 ·trivial
theorem Rel.look (r : Rel T0 B σ a w X h) (ty : TypeId) (x : Operand) : QI (Tof T0 X) h σ.ob w (look P σ ty x) (a.eval x) := by
 cases x with
 | tmp t => exact r.get t
 | const v => exact BE _ _ _ _ _ _
 | global g => trivial
 | func f => trivial
theorem QI.unc {T : CS} {h : Nat -> Nat -> Hd} {ob : Nat -> Nat -> Ob} {w : World} {x : V} {v : Value} (r : QI T h ob w x v) (hg : gOf x = true) : QI T h ob w (unc x) v := by
 cases x with
 | cnd g x => exact Jh.up (r.1 hg)
 | fix u x => exact Jh.up r.2
 | _ => exact r
theorem Rel.arg (r : Rel T0 B σ a w X h) (ty : TypeId) (x : Operand) {v : V} (he : Vm.unc (Vm.look P σ ty x) = v) (hg : gOf (Vm.look P σ ty x) = true) : QI (Tof T0 X) h σ.ob w v (a.eval x) := by
 subst he
 exact (r.look ty x).unc hg
theorem Rel.put (r : Rel T0 B σ a w X h) (d : Nat) (v : V) (val : Value) (hv : QI (Tof T0 X) h σ.ob w v val) : Rel T0 B (σ.put d v) (a.put (some d) val) w X h := by
 refine ⟨by simp [Act.put, r.size, St.QH], r.defers, r.hB, r.hX, r.hT, fun t ht => ?_, fun t j => ?_, fun t j b => ?_, fun t j b => ?_, fun t j t' j' b => ?_⟩
 ·rw [St.QF, St.J2]
  rw [St.QH] at ht
  by_cases hd : t = d /\ d < σ.length
  ·obtain ⟨rfl, hl⟩ := hd
   simp only [hl, and_self, if_true]
   have : (a.tmps.setIfInBounds t val).getD t undef = val := by simp [r.size, hl]
   simp only [Act.put, this]; exact hv
  ·rw [if_neg hd]
   have uD : d ≠ t := fun e => hd ⟨e.symm, e ▸ ht⟩
   have : (a.tmps.setIfInBounds d val).getD t undef = a.tmps.getD t undef := by simp [Array.getElem?_setIfInBounds_ne uD]
   simp only [Act.put, this]; exact r.slot t ht
 ·rw [St.QF]; exact r.obj t j
 ·rw [St.QF]; exact r.ub t j b
 ·rw [St.QF]; exact r.own t j b
 ·rw [St.QF]; exact r.inj t j t' j' b
end
def ldV (P : Program) (T : TypeId) (xs : List At) : V := if WG P T then .agg xs else (match xs with | [x] => .one x | _ => .any)
def LR (k : IntKind) (x y : Int) : Int := k.wrap (BitVec.ofInt k.bits x &&& BitVec.ofInt k.bits y).toNat
def iOr (k : IntKind) (x y : Int) : Int := k.wrap (BitVec.ofInt k.bits x ||| BitVec.ofInt k.bits y).toNat
def Dx (k : IntKind) (x y : Int) : Int := k.wrap (BitVec.ofInt k.bits x ^^^ BitVec.ofInt k.bits y).toNat
def MX (op : BinOp) (k : IntKind) (x y : Int) (v : V) : Prop :=
 match op with
 | .eql => v = .one (.d (.bool (x == y)))
 | .neq => v = .one (.d (.bool (x != y)))
 | .lss => v = .one (.d (.bool (decide (x < y))))
 | .leq => v = .one (.d (.bool (decide (x <= y))))
 | .gtr => v = .one (.d (.bool (decide (x > y))))
 | .geq => v = .one (.d (.bool (decide (x >= y))))
 | .add => v = .one (.d (.int k (k.wrap (x + y))))
 | .sub => v = .one (.d (.int k (k.wrap (x - y))))
 | .mul => v = .one (.d (.int k (k.wrap (x * y))))
 | .quo => y ≠ 0 /\ v = .one (.d (.int k (k.wrap (x.tdiv y))))
 | .rem => y ≠ 0 /\ v = .one (.d (.int k (x.tmod y)))
 | .and => v = .one (.d (.int k (LR k x y)))
 | .or => v = .one (.d (.int k (iOr k x y)))
 | .xor => v = .one (.d (.int k (Dx k x y)))
 | .shl => 0 <= y /\ v = .one (.d (.int k (k.wrap (x * 2 ^ (min y.toNat k.bits)))))
 | .shr => 0 <= y /\ v = .one (.d (.int k (x.fdiv (2 ^ (min y.toNat k.bits)))))
 | _ => False
def MH (op : BinOp) (x y : ByteArray) (v : V) : Prop :=
 match op with
 | .add => ((x.size + y.size : Nat) : Int) <= 9223372036854775807 /\ v = .one (.d (.str (x ++ y)))
 | .eql => v = .one (.d (.bool (decide (x = y))))
 | .neq => v = .one (.d (.bool (!decide (x = y))))
 | _ => False
def RA (op : BinOp) (x y : Bool) (v : V) : Prop :=
 match op with
 | .eql => v = .one (.d (.bool (x == y)))
 | .neq => v = .one (.d (.bool (!(x == y))))
 | _ => False
theorem G9 {P : Program} {op : BinOp} {k : IntKind} {x y : Int} {v : V} {t : TypeId} {kk : IntKind} (hk : (op = .shl \/ op = .shr) \/ kk = k) (hb : MX op k x y v) (w : World) :
  ∃ d, v = .one (.d d) /\ ∃ val, (binOp op t (.int k x) (.int kk y)).run P w = .ok val w /\ ∀ T w', Rd T w' val d := by
 cases op <;> simp only [MX] at hb
 case shl => obtain ⟨h0, rfl⟩ := hb; exact ⟨_, rfl, _, by simp [binOp, Op.shift, Int.not_lt.2 h0], fun _ _ => .int _ _⟩
 case shr => obtain ⟨h0, rfl⟩ := hb; exact ⟨_, rfl, _, by simp [binOp, Op.shift, Int.not_lt.2 h0], fun _ _ => .int _ _⟩
 all_goals (have ee : kk = k := by rcases hk with (hk | hk) | hk <;> first | exact hk | cases hk)
 all_goals subst ee
 case quo => obtain ⟨h0, rfl⟩ := hb; exact ⟨_, rfl, _, by simp [binOp, Op.intDiv, h0], fun _ _ => .int _ _⟩
 case rem => obtain ⟨h0, rfl⟩ := hb; exact ⟨_, rfl, _, by simp [binOp, Op.intDiv, h0], fun _ _ => .int _ _⟩
 case add => subst hb; exact ⟨_, rfl, _, by simp [binOp, Op.intArith], fun _ _ => .int _ _⟩
 case sub => subst hb; exact ⟨_, rfl, _, by simp [binOp, Op.intArith], fun _ _ => .int _ _⟩
 case mul => subst hb; exact ⟨_, rfl, _, by simp [binOp, Op.intArith], fun _ _ => .int _ _⟩
 case and => subst hb; exact ⟨_, rfl, _, by simp [binOp, Op.intBits, LR], fun _ _ => .int _ _⟩
 case or => subst hb; exact ⟨_, rfl, _, by simp [binOp, Op.intBits, iOr], fun _ _ => .int _ _⟩
 case xor => subst hb; exact ⟨_, rfl, _, by simp [binOp, Op.intBits, Dx], fun _ _ => .int _ _⟩
 all_goals (subst hb; exact ⟨_, rfl, .bool _, by simp only [binOp, Op.intCmp, ne_eq, not_true_eq_false, if_false]; rfl, fun _ _ => .bool _⟩)
theorem FR (x y : ByteArray) : (x.toList == y.toList) = decide (x = y) := by
 rw [ByteArray.toList_eq, ByteArray.toList_eq, Bool.eq_iff_iff]
 simp only [beq_iff_eq, decide_eq_true_eq]
 constructor
 ·intro hh; cases x; cases y; simp_all
 ·rintro rfl; rfl
theorem Fu {P : Program} {op : BinOp} {x y : ByteArray} {v : V} {t : TypeId} (hb : MH op x y v) (w : World) :
  ∃ d, v = .one (.d d) /\ ∃ val, (binOp op t (.string x) (.string y)).run P w = .ok val w /\ ∀ T w', Rd T w' val d := by
 cases op <;> simp only [MH] at hb
 case add => obtain ⟨h0, rfl⟩ := hb; exact ⟨_, rfl, _, by simp only [binOp, Op.stringOp]; rw [if_neg (by simp [IntKind.max, IntKind.signed, IntKind.bits]; omega)]; rfl, fun _ _ => .str _⟩
 case eql => subst hb; exact ⟨_, rfl, .bool _, by simp only [binOp, Op.stringOp, FR]; rfl, fun _ _ => .bool _⟩
 case neq => subst hb; exact ⟨_, rfl, .bool _, by simp only [binOp, Op.stringOp, FR]; rfl, fun _ _ => .bool _⟩
theorem run_equalIn_bool {P : Program} {t : TypeId} (hu : P.underlying t = some .bool) (d : Nat) (x y : Bool) (w : World) : (Op.equalIn (d + 1) t (.bool x) (.bool y)).run P w = .ok (x == y) w := by
 simp [Op.equalIn, run_underlying hu]
theorem HO {P : Program} {op : BinOp} {x y : Bool} {v : V} {t : TypeId} (ht : Pa P t = true) (hb : RA op x y v) (w : World) :
  ∃ d, v = .one (.d d) /\ ∃ val, (binOp op t (.bool x) (.bool y)).run P w = .ok val w /\ ∀ T w', Rd T w' val d := by
 have hu : P.underlying t = some .bool := by
  unfold Pa at ht; split at ht <;> first | assumption | cases ht
 cases op <;> simp only [RA] at hb
 case eql => subst hb; exact ⟨_, rfl, _, by simp only [binOp, Op.equal, Op.maxDepth, Sem.run_bind, run_equalIn_bool hu 9999, Result.andThen_ok, Sem.run_pure], fun _ _ => .bool _⟩
 case neq => subst hb; exact ⟨_, rfl, _, by simp only [binOp, Op.equal, Op.maxDepth, Sem.run_bind, run_equalIn_bool hu 9999, Result.andThen_ok, Sem.run_pure], fun _ _ => .bool _⟩
end Go.Vm
namespace Go.Vm
def kN (P : Program) (σ : St) (x : Operand) (k : IntKind) (n : Int) : Prop := gOf (look P σ 0 x) = true /\ unc (look P σ 0 x) = .one (.d (.int k n))
def bnd (P : Program) (σ : St) (ta : Nat) : Option Operand -> Nat -> Prop
 | none, n => n = ta
 | some x, n => ∃ k i, gOf (look P σ 0 x) = true /\ unc (look P σ 0 x) = .one (.d (.int k i)) /\ 0 <= i /\ n = i.toNat
def cut {α : Type} (xs : List α) (off n : Nat) : List α := (xs.drop off).take n
def qp (P : Program) : Nat -> TypeId -> Option (List At)
 | 0, _ => none
 | n + 1, t =>
  match P.underlying t with
  | some .bool => some [.d (.bool false)]
  | some (.int k) => some [.d (.int k 0)]
  | some .string => some [.d (.str ⟨#[]⟩)]
  | some (.slice e) => some [.nil (P.cellsOf e)]
  | some (.struct fs) => (fs.toList.mapM (fun f => qp P n f.type)).map List.flatten
  | some (.array m e) => (qp P n e).map (fun r => (List.replicate m r).flatten)
  | _ => none
def zAt : At -> Value -> Bool
 | .d (.bool b), .bool b' => b == b'
 | .d (.int k n), .int k' n' => k == k' && n == n'
 | .d (.str s), .string s' => s.data.toList == s'.data.toList
 | .nil _, .slice none 0 0 => true
 | _, _ => false
def E1 : List At -> List Value -> Bool
 | [], [] => true
 | x :: xs, v :: vs => zAt x v && E1 xs vs
 | _, _ => false
def XX (P : Program) (t : TypeId) : Bool :=
 match qp P 12 t, P.info? t with
 | some row, some i => (match i.zero with | some z => E1 row z.cells.toList && i.size == row.length | none => false)
 | _, _ => false
theorem BV {x : At} {v : Value} (hz : zAt x v = true) (T : CS) (h : Nat -> Nat -> Hd) (ob : Nat -> Nat -> Ob) (w : World) : YD T h ob w x v := by
 unfold zAt at hz
 split at hz
 ·simp at hz; subst hz; exact .bool _
 ·simp at hz; obtain ⟨rfl, rfl⟩ := hz; exact .int _ _
 ·rename_i s s'
  simp at hz
  have : s = s' := by cases s; cases s'; simp_all
  subst this; exact .str _
 ·rfl
 ·cases hz
theorem CW {xs : List At} {vs : List Value} (hz : E1 xs vs = true) (T : CS) (h : Nat -> Nat -> Hd) (ob : Nat -> Nat -> Ob) (w : World) : Zy (YD T h ob w) xs vs := by
 induction xs generalizing vs with
 | nil => cases vs with
  | nil => exact .nil
  | cons v vs => simp [E1] at hz
 | cons x xs ih => cases vs with
  | nil => simp [E1] at hz
  | cons v vs => simp [E1] at hz; exact .cons (BV hz.1 _ _ _ _) (ih hz.2)
theorem N5 {P : Program} {t : TypeId} {row : List At} (hz : XX P t = true) (hr : qp P 12 t = some row) :
  ∃ i z, P.info? t = some i /\ i.zero = some z /\ i.size = row.length /\ (∀ T h ob w, Zy (YD T h ob w) row z.cells.toList) := by
 unfold XX at hz
 rw [hr] at hz
 split at hz
 ·rename_i uO i th hi
  cases th
  split at hz
  ·rename_i z rK
   simp at hz
   exact ⟨i, z, hi, rK, hz.2, fun T h ob w => CW hz.1 T h ob w⟩
  ·cases hz
 ·cases hz
def V.cells : V -> List At
 | .one c => [c]
 | .agg xs => xs
 | _ => []
def V.flat : V -> Bool
 | .one _ => true
 | .agg _ => true
 | _ => false
def place {α : Type} (r : List α) (off : Nat) (xs : List α) : List α := r.take off ++ xs ++ r.drop (off + xs.length)
def xN (P : Program) (T : TypeId) (i : Nat) : Nat := match P.underlying T with | some (.array _ e) => i * P.cellsOf e | _ => X1 P T i
def bTy (P : Program) (T : TypeId) (i : Nat) : TypeId := match P.underlying T with | some (.array _ e) => e | _ => yM P T i
def bOk (P : Program) (T : TypeId) (i : Nat) : Bool := match P.underlying T with
 | some (.array _ e) => (P.info? e).isSome
 | some (.struct fs) => fs.all (fun f => (P.info? f.type).isSome) && decide (i < fs.size)
 | _ => false
def WM (P : Program) (σ : St) (T : TypeId) : List (Nat × Operand) -> List At -> List At -> Prop
 | [], r, out => out = r
 | (i, x) :: ps, r, out => bOk P T i = true /\ gOf (look P σ (bTy P T i) x) = true /\ (unc (look P σ (bTy P T i) x)).flat = true /\
   (unc (look P σ (bTy P T i) x)).cells.length = P.cellsOf (bTy P T i) /\ xN P T i + P.cellsOf (bTy P T i) <= r.length /\
   WM P σ T ps (place r (xN P T i) (unc (look P σ (bTy P T i) x)).cells) out
def Ur (P : Program) (t : TypeId) : Bool := match P.underlying t with | some .bool => true | some (.int _) => true | some .string => true | _ => false
def kB (P : Program) : List Field -> Nat -> Bool
 | [], _ => true
 | f :: fs, i => decide (f.name ≠ "_") && f.offset == i && Ur P f.type && kB P fs (i + 1)
def WQ (P : Program) : List Field -> Nat -> Bool
 | [], _ => true
 | f :: fs, i => decide (f.name ≠ "_") && f.offset == i && (if Ur P f.type then WQ P fs (i + 1) else (match P.underlying f.type with | some (.struct gs) => yf P f.type && WG P f.type && P.cellsOf f.type == gs.size && decide (0 < gs.size) && !P.stoodInHeld f.type && kB P gs.toList 0 && WQ P fs (i + gs.size) | _ => false))
def L3 (P : Program) (f : Field) : List TypeId := if Ur P f.type then [f.type] else (match P.underlying f.type with | some (.struct gs) => gs.toList.map (·.type) | _ => [])
def J3 (P : Program) (T : TypeId) : List TypeId := (P.fieldsOf T).toList.flatMap (L3 P)
def TA (P : Program) (t : TypeId) : Bool := match P.underlying t with
 | some (.struct fs) => !P.stoodInHeld t && !P.eqGuardType P.depth t && WQ P fs.toList 0
 | _ => false
def C2 (P : Program) (t : TypeId) : At -> At -> Option Bool
 | .d (.int k a), .d (.int k' b) => if k = k' /\ (F2 P t).isSome then some (a == b) else none
 | .d (.bool a), .d (.bool b) => if Pa P t then some (a == b) else none
 | .d (.str a), .d (.str b) => if W8 P t then some (decide (a = b)) else none
 | _, _ => none
def Xv (P : Program) : List TypeId -> List At -> List At -> Option Bool
 | [], _, _ => some true
 | f :: fs, x :: xs, y :: ys => (match C2 P f x y, Xv P fs xs ys with | some p, some q => some (p && q) | _, _ => none)
 | _, _, _ => none
def Gf (P : Program) (op : BinOp) (T : TypeId) (x y v : V) : Prop :=
 match x, y with
 | .one (.d (.int k m)), .one (.d (.int k' n)) => ((op = .shl \/ op = .shr) \/ k' = k) /\ MX op k m n v
 | .one (.d (.str m)), .one (.d (.str n)) => MH op m n v
 | .one (.d (.bool m)), .one (.d (.bool n)) => Pa P T = true /\ RA op m n v
 | .agg xs, .agg ys => TA P T = true /\ ∃ q, Xv P (J3 P T) xs ys = some q /\ ((op = .eql /\ v = .one (.d (.bool q))) \/ (op = .neq /\ v = .one (.d (.bool (!q)))))
 | _, _ => False
def jA (t j i : Nat) : Nat -> List D -> List At
 | _, [] => []
 | c, x :: xs => (match x with | .sl _ _ => .tref t j i c none | x => .d x) :: jA t j i (c + 1) xs
def W2 (q : Bool) (t j i c : Nat) (xs : List D) : List At := match q with | true => jA t j i c xs | false => xs.map .d
def YJ (P : Program) (σ : St) (op : Op) (ty : TypeId) (v : V) : Prop :=
 match op with
 | .move x => v = look P σ ty x
 | .assign x => v = look P σ ty x
 | .pick c a b => ∃ bc p q, gOf (look P σ ty c) = true /\ unc (look P σ ty c) = .one (.d (.bool bc)) /\ (bc = true -> unc (look P σ ty a) = .one (.d (.bool p))) /\ (bc = false -> unc (look P σ ty b) = .one (.d (.bool q))) /\
   (bc = true -> gOf (look P σ ty a) = true) /\ (bc = false -> gOf (look P σ ty b) = true) /\ v = .one (.d (.bool (cond bc p q)))
 | .load T x => gOf (look P σ 0 x) = true /\ yf P T = true /\
   (match unc (look P σ 0 x) with
   | .one (.bptr t c) => ∃ cells, σ.ob t 0 = .box cells /\ c + P.cellsOf T <= cells.length /\ v = ldV P T (cut cells c (P.cellsOf T))
   | .one (.ptr t j i c) => ∃ q size rows, σ.ob t j = .arr q size rows /\ i < rows.length /\ c + P.cellsOf T <= size /\ v = ldV P T (W2 q t j i c (cut (rows.getD i []) c (P.cellsOf T)))
   | .one (.rptr r c) => c + P.cellsOf T <= r.length /\ v = ldV P T ((cut r c (P.cellsOf T)).map .d)
   | .one (.tref t j i c (some k)) => ∃ size rows s, σ.ob t j = .arr true size rows /\ i < rows.length /\ (rows.getD i [])[c]? = some (.sl 1 s) /\ P.cellsOf T = 1 /\ k < s.length /\ (s.getD k []).all D.scalar = true /\ v = ldV P T ((s.getD k []).map .d)
   | _ => False)
 | .fieldAddr T x f => gOf (look P σ 0 x) = true /\ xU P T f = true /\
   (match unc (look P σ 0 x) with
   | .one (.bptr t c) => (∃ cells, σ.ob t 0 = .box cells) /\ v = .one (.bptr t (c + X1 P T f))
   | .one (.ptr t j i c) => (∃ q size rows, σ.ob t j = .arr q size rows) /\ v = .one (.ptr t j i (c + X1 P T f))
   | .one (.rptr r c) => v = .one (.rptr r (c + X1 P T f))
   | .one (.tref t j i c (some k)) => (∃ size rows, σ.ob t j = .arr true size rows) /\ v = .one (.tref t j i c (some (k + X1 P T f)))
   | _ => False)
 | .nilCheck x => gOf (look P σ 0 x) = true /\
   (match unc (look P σ 0 x) with
   | .one (.bptr t c) => (∃ cells, σ.ob t 0 = .box cells) /\ v = .one (.bptr t c)
   | _ => False)
 | .indexAddr T x ix => ∃ k i, kN P σ ix k i /\ 0 <= i /\ gOf (look P σ 0 x) = true /\
   (match unc (look P σ 0 x) with
   | .one (.d (.sl size rows)) => Yq P T = true /\ size = P.cellsOf (ZP P T) /\ 0 < size /\ i < (rows.length : Int) /\ v = .one (.rptr (rows.getD i.toNat []) 0)
   | .one (.sref t j lo len) => Yq P T = true /\ 0 < P.cellsOf (ZP P T) /\ (∃ q rows, σ.ob t j = .arr q (P.cellsOf (ZP P T)) rows) /\ i < (len : Int) /\ v = .one (.ptr t j (lo + i.toNat) 0)
   | .one (.bptr t c) => (∃ cells, σ.ob t 0 = .box cells) /\ (∃ n, Mc P T = some n /\ 1 < n /\ i < (n : Int)) /\ v = .one (.bptr t (c + i.toNat * P.cellsOf (ZP P T)))
   | .one (.tref t j m c none) => Yq P T = true /\ 0 < P.cellsOf (ZP P T) /\ (∃ size rows s, σ.ob t j = .arr true size rows /\ m < rows.length /\ (rows.getD m [])[c]? = some (.sl (P.cellsOf (ZP P T)) s) /\ i < (s.length : Int)) /\ v = .one (.tref t j m c (some (i.toNat * P.cellsOf (ZP P T))))
   | _ => False)
 | .index T x ix => ∃ k i, kN P σ ix k i /\ 0 <= i /\ gOf (look P σ 0 x) = true /\
   (match unc (look P σ 0 x) with
   | .one (.d (.str s)) => W8 P T = true /\ i < (s.size : Int) /\ v = .one (.d (.int .u8 (s.data.toList.getD i.toNat 0).toNat))
   | .agg xs => (∃ n, Mc P T = some n /\ i < (n : Int)) /\ yf P (ZP P T) = true /\ i.toNat * P.cellsOf (ZP P T) + P.cellsOf (ZP P T) <= xs.length /\ v = ldV P (ZP P T) (cut xs (i.toNat * P.cellsOf (ZP P T)) (P.cellsOf (ZP P T)))
   | _ => False)
 | .slice T x lo hi none => gOf (look P σ 0 x) = true /\
   (match unc (look P σ 0 x) with
   | .one (.d (.str s)) => W8 P T = true /\ ∃ l h, bnd P σ 0 lo l /\ bnd P σ s.size hi h /\ l <= h /\ h <= s.size /\ v = .one (.d (.str (s.extract l h)))
   | .one (.d (.sl size rows)) => Yq P T = true /\ size = P.cellsOf (ZP P T) /\ ∃ l h, bnd P σ 0 lo l /\ bnd P σ rows.length hi h /\ l <= h /\ h <= rows.length /\ v = .one (.d (.sl size (cut rows l (h - l))))
   | .one (.sref t j o len) => Yq P T = true /\ (∃ q rows, σ.ob t j = .arr q (P.cellsOf (ZP P T)) rows) /\ ∃ l h, bnd P σ 0 lo l /\ bnd P σ len hi h /\ l <= h /\ h <= len /\ v = .one (.sref t j (o + l) (h - l))
   | _ => False)
 | .binOp op T x y _ => gOf (look P σ T x) = true /\ gOf (look P σ T y) = true /\
   Gf P op T (unc (look P σ T x)) (unc (look P σ T y)) v
 | .unOp op _ x => gOf (look P σ 0 x) = true /\
   (match op, unc (look P σ 0 x) with
   | .not, .one (.d (.bool b)) => v = .one (.d (.bool (!b)))
   | .neg, .one (.d (.int k n)) => v = .one (.d (.int k (k.wrap (-n))))
   | _, _ => False)
 | .convert S T x => gOf (look P σ 0 x) = true /\ (P.underlying S).isSome = true /\
   (match unc (look P σ 0 x) with
   | .one (.d (.int _ n)) => ∃ k, F2 P T = some k /\ v = .one (.d (.int k (k.wrap n)))
   | _ => False)
 | .extract x i => gOf (look P σ 0 x) = true /\
   (match unc (look P σ 0 x) with
   | .tup xs => xs[i]? = some v /\ v.flat = true
   | _ => False)
 | .field T x f => gOf (look P σ 0 x) = true /\ xU P T f = true /\ yf P (yM P T f) = true /\
   (match unc (look P σ 0 x) with
   | .agg xs => X1 P T f + P.cellsOf (yM P T f) <= xs.length /\ v = ldV P (yM P T f) (cut xs (X1 P T f) (P.cellsOf (yM P T f)))
   | _ => False)
 | .build T parts => XX P T = true /\ WG P T = true /\ ∃ z out, qp P 12 T = some z /\ WM P σ T parts.toList z out /\ v = .agg out
 | .call c =>
   (match c.callee, c.args.toList, c.argTypes.toList with
   | .builtin .len, [x], [t] => gOf (look P σ t x) = true /\
     (match unc (look P σ t x) with
     | .one (.d (.str s)) => W8 P t = true /\ v = .one (.d (.int .i64 s.size))
     | .one (.d (.sl _ rows)) => Yq P t = true /\ v = .one (.d (.int .i64 rows.length))
     | .one (.nil _) => Yq P t = true /\ v = .one (.d (.int .i64 0))
     | .one (.sref u j _ len) => Yq P t = true /\ ((∃ q size rows, σ.ob u j = .arr q size rows) \/ ∃ size rows, σ.ob u j = .lit size rows) /\ v = .one (.d (.int .i64 len))
     | .one (.tref u j i c none) => Yq P t = true /\ ∃ size rows n s, σ.ob u j = .arr true size rows /\ i < rows.length /\ (rows.getD i [])[c]? = some (.sl n s) /\ v = .one (.d (.int .i64 s.length))
     | _ => False)
   | .builtin .max, [x, y], _ => ∃ k m n, kN P σ x k m /\ kN P σ y k n /\ v = .one (.d (.int k (if n > m then n else m)))
   | .builtin .min, [x, y], _ => ∃ k m n, kN P σ x k m /\ kN P σ y k n /\ v = .one (.d (.int k (if n < m then n else m)))
   | _, _, _ => False)
 | _ => False
end Go.Vm
namespace Go.Vm
section
variable {P : Program} {T0 : CS} {B : Nat -> Prop} {σ : St} {a : Act} {w : World} {X : Nat -> Prop} {h : Nat -> Nat -> Hd}
theorem ze (b off n : Nat) : (⟨b, off, none⟩ : Addr).add n = ⟨b, off + n, none⟩ := by
 unfold Addr.add; split <;> simp_all
theorem kG {T : TypeId} (ht : yf P T = true) : ∃ d i, P.underlying T = some d /\ P.info? T = some i /\ i.size = P.cellsOf T /\ (WG P T = true \/ P.cellsOf T = 1) := by
 simp only [yf, Bool.and_eq_true, Bool.or_eq_true, beq_iff_eq] at ht
 obtain ⟨⟨h1, h2⟩, h3⟩ := ht
 obtain ⟨d, hd⟩ := Option.isSome_iff_exists.1 h1
 obtain ⟨i, hi⟩ := Option.isSome_iff_exists.1 h2
 exact ⟨d, i, hd, hi, by simp [Program.cellsOf, hi], h3⟩
theorem U1 {T : TypeId} {d : TypeDesc} (hd : P.underlying T = some d) (w : World) : (isAgg T).run P w = .ok (WG P T) w := by
 unfold isAgg WG
 rw [hd]
 simp only [Sem.run_bind, run_underlying hd, Result.andThen_ok]
 cases d <;> simp
theorem Qx {T : TypeId} {i : TypeInfo} (hi : P.info? T = some i) (w : World) : (sizeOf T).run P w = .ok (P.cellsOf T) w := by
 simp [sizeOf, typeInfo, hi, Program.cellsOf]
theorem CT {T : TypeId} (ht : yf P T = true) {b off : Nat} {cs : List Value} (hl : cs.length = P.cellsOf T) (hc : ∀ j v, cs[j]? = some v -> w.cell? ⟨b, off + j, none⟩ = some v) :
  ∃ val, (Instr.loadAt T (.pointer (some ⟨b, off, none⟩))).run P w = .ok val w /\ (WG P T = true -> val = .agg cs.toArray) /\ (WG P T = false -> cs = [val]) := by
 obtain ⟨d, i, hd, hi, tG, tA⟩ := kG ht
 cases rm : WG P T with
 | true =>
  refine ⟨.agg cs.toArray, ?_, fun _ => rfl, (fun hh => by cases hh)⟩
  have := run_loadCells_list (P := P) w ⟨b, off, none⟩ cs (fun j v hv => by rw [ze]; exact hc j v hv)
  simp only [Instr.loadAt, Instr.sureAddr, loadVar, Sem.run_bind, Sem.run_pure, Result.andThen_ok, U1 hd, rm, if_true, Qx hi, <- hl, this]
 | false =>
  rcases tA with tA | tA
  ·rw [rm] at tA; cases tA
  ·rw [tA] at hl
   obtain ⟨val, rfl⟩ := List.length_eq_one_iff.1 hl
   refine ⟨val, ?_, (fun hh => by cases hh), fun _ => rfl⟩
   have lB := hc 0 val (by simp)
   simp only [Nat.add_zero] at lB
   simp [Instr.loadAt, Instr.sureAddr, loadVar, U1 hd, rm, load, Sem.run, lB]
theorem EH {T : TypeId} (cz : yf P T = true) {T' : CS} {ob : Nat -> Nat -> Ob} {xs : List At} {cs : List Value} {val : Value} (hx : Zy (YD T' h ob w) xs cs)
  (h1 : WG P T = true -> val = .agg cs.toArray) (h2 : WG P T = false -> cs = [val]) : QI T' h ob w (ldV P T xs) val := by
 unfold ldV
 cases rm : WG P T with
 | true => simp only [if_true]; exact ⟨_, h1 rm, by simpa using hx⟩
 | false =>
  simp only [Bool.false_eq_true, if_false]
  rw [h2 rm] at hx
  cases hx with
  | cons r hx => cases hx; exact r
theorem Zy.cut {α β : Type} {R : α -> β -> Prop} {l : List α} {m : List β} (x : Zy R l m) (o n : Nat) : Zy R (Vm.cut l o n) (Vm.cut m o n) := (x.drop o).take n
theorem Yp {α : Type} (l : List α) (o n : Nat) (hl : o + n <= l.length) : (cut l o n).length = n := by simp [cut]; omega
theorem J5 {α : Type} (l : List α) (o n j : Nat) (v : α) (hv : (cut l o n)[j]? = some v) : l[o + j]? = some v := by
 simp only [cut, List.getElem?_take, List.getElem?_drop] at hv
 split at hv
 ·exact hv
 ·cases hv
theorem qg {α : Type} : ∀ (rows : List (List α)) (size : Nat), (∀ r ∈ rows, r.length = size) -> ∀ (i : Nat) (r : List α), rows[i]? = some r -> ∀ (j : Nat) (d : α), r[j]? = some d -> rows.flatten[i * size + j]? = some d
 | [], _, _, i, r, hr, _, _, _ => by simp at hr
 | r0 :: rows, size, hz, 0, r, hr, j, d, hd => by
  simp at hr; subst hr
  have hj : j < r0.length := (List.getElem?_eq_some_iff.1 hd).1
  simp [List.getElem?_append_left hj, hd]
 | r0 :: rows, size, hz, i + 1, r, hr, j, d, hd => by
  have ih := qg rows size (fun r hr => hz r (by simp [hr])) i r (by simpa using hr) j d hd
  have h0 : r0.length = size := hz r0 (by simp)
  rw [List.flatten_cons, List.getElem?_append_right (by rw [h0, Nat.add_mul]; omega), h0]
  have : (i + 1) * size + j - size = i * size + j := by rw [Nat.add_mul]; omega
  rw [this]; exact ih
theorem YA {α : Type} (rows : List (List α)) (size : Nat) (hz : ∀ r ∈ rows, r.length = size) : rows.flatten.length = rows.length * size := by
 induction rows with
 | nil => simp
 | cons r rows ih => rw [List.flatten_cons, List.length_append, ih (fun r hr => hz r (by simp [hr])), hz r (by simp), List.length_cons, Nat.add_mul]; omega
theorem Rd.row {T : CS} {v : Value} {size : Nat} {rows : List (List D)} (r : Rd T w v (.sl size rows)) (i : Nat) (hi : i < rows.length) (tG : 0 < size) :
  ∃ a len cap, v = .slice (some a) len cap /\ len = rows.length /\ a.spot = none /\
   ∃ g : Nat -> Value, ∀ k d, (rows.getD i [])[k]? = some d -> w.cell? ⟨a.block, a.off + i * size + k, none⟩ = some (g k) /\ T a.block (a.off + i * size + k) /\ Rd T w (g k) d := by
 cases r with
 | nil => simp at hi
 | sl a len cap size rows g hl hc hm hz hs hg hr =>
  have ur : rows[i]? = some (rows.getD i []) := by simp [List.getD_eq_getElem?_getD, List.getElem?_eq_getElem hi]
  have uD : rows.flatten ≠ [] := by
   have hlen := YA rows size hz
   have hp : 0 < rows.length * size := Nat.mul_pos (by omega) tG
   intro he
   have h0 : rows.flatten.length = 0 := by rw [he]; rfl
   omega
  refine ⟨a, len, cap, rfl, hl.symm, hs uD, fun k => g (i * size + k), fun k d hd => ?_⟩
  have hf := qg rows size hz i _ ur k d hd
  have h1 := hg _ _ hf
  rw [Nat.add_assoc]
  exact ⟨h1.1, h1.2, hr _ _ hf⟩
theorem LM {T : CS} {v : Value} {size : Nat} {rows : List (List D)} (r : Rd T w v (.sl size rows)) : ∀ x ∈ rows, x.length = size := by
 cases r with
 | nil => intro x hx; cases hx
 | sl a len cap size rows g hl hc hm hz hs hg hr => exact hz
theorem Fq {T : CS} {v : Value} {size : Nat} {rows : List (List D)} (r : Rd T w v (.sl size rows)) : ∃ base cap, v = .slice base rows.length cap /\ rows.length <= cap /\ cap <= maxLen := by
 cases r with
 | nil => exact ⟨none, 0, rfl, by simp, by simp [maxLen]⟩
 | sl a len cap size rows g hl hc hm hz hs hg hr => exact ⟨some a, cap, by rw [hl], by omega, hm⟩
theorem XS {t : TypeId} (ht : Yq P t = true) : ∃ i, P.underlying t = some (.slice (ZP P t)) /\ P.info? (ZP P t) = some i /\ i.size = P.cellsOf (ZP P t) := by
 unfold Yq at ht
 split at ht
 ·rename_i e he
  obtain ⟨i, hi⟩ := Option.isSome_iff_exists.1 ht
  have : ZP P t = e := by simp [ZP, he]
  rw [this]
  exact ⟨i, he, hi, by simp [Program.cellsOf, hi]⟩
 ·cases ht
theorem Ns {t : TypeId} {n : Nat} (ht : Mc P t = some n) : ∃ i, P.underlying t = some (.array n (ZP P t)) /\ P.info? (ZP P t) = some i /\ i.size = P.cellsOf (ZP P t) := by
 unfold Mc at ht
 split at ht
 ·rename_i m e he
  split at ht
  ·rename_i hh
   cases ht
   obtain ⟨i, hi⟩ := Option.isSome_iff_exists.1 hh
   have : ZP P t = e := by simp [ZP, he]
   rw [this]
   exact ⟨i, he, hi, by simp [Program.cellsOf, hi]⟩
  ·cases ht
 ·cases ht
theorem Tc {t : TypeId} {f : Nat} (ht : xU P t f = true) : ∃ fs fd i, P.underlying t = some (.struct fs) /\ fs[f]? = some fd /\ fd.offset = X1 P t f /\ fd.type = yM P t f /\ P.info? fd.type = some i /\ i.size ≠ 0 := by
 unfold xU at ht
 split at ht
 ·rename_i fs he
  split at ht
  ·rename_i fd hf
   simp at ht
   obtain ⟨i, hi⟩ := Option.isSome_iff_exists.1 ht.1
   exact ⟨fs, fd, i, he, hf, by simp [X1, he, hf], by simp [yM, he, hf], hi, by simpa [Program.cellsOf, hi] using ht.2⟩
  ·cases ht
 ·cases ht
theorem y3 {t : TypeId} (ht : W8 P t = true) : P.underlying t = some .string := by
 unfold W8 at ht; split at ht <;> first | assumption | cases ht
theorem NS {t : TypeId} {k : IntKind} (ht : F2 P t = some k) : P.underlying t = some (.int k) := by
 unfold F2 at ht
 split at ht
 ·cases ht; assumption
 ·cases ht
theorem W9 {T : CS} {v : Value} {k : IntKind} {n : Int} (r : Rd T w v (.int k n)) : v = .int k n := by cases r; rfl
theorem xe {T : CS} {v : Value} {b : Bool} (r : Rd T w v (.bool b)) : v = .bool b := by cases r; rfl
theorem Ua {T : CS} {v : Value} {s : ByteArray} (r : Rd T w v (.str s)) : v = .string s := by cases r; rfl
theorem zx (r : Rel T0 B σ a w X h) {x : Operand} {k : IntKind} {n : Int} (hx : kN P σ x k n) : a.eval x = .int k n :=
 W9 (r.arg 0 x hx.2 hx.1)
end
end Go.Vm
namespace Go.Vm
section
variable {P : Program} {T0 : CS} {B : Nat -> Prop} {σ : St} {a : Act} {w : World} {X : Nat -> Prop} {h : Nat -> Nat -> Hd}
theorem Own.Xg {v : Value} {d : D} {S : Nat -> Prop} (h : Own w v d S) : v.oneCell' = true := by
 cases h with
 | int => rfl
 | bool => rfl
 | str => rfl
 | unk _ h => exact h
 | sl v size rows S e xs Sk ho hz hb hl hk hs hd => rcases ho.2 with ⟨rfl, _⟩ | ⟨g, cap, cur, rfl, _⟩ <;> rfl
theorem Nu {t j i : Nat} : ∀ {xs : List D} {c k : Nat} {x : At}, (jA t j i c xs)[k]? = some x -> ∃ d, xs[k]? = some d /\ x = (match d with | .sl _ _ => .tref t j i (c + k) none | d => .d d)
 | [], c, k, x, hx => by simp [jA] at hx
 | d :: xs, c, 0, x, hx => by
  simp only [jA, List.getElem?_cons_zero] at hx
  cases hx
  exact ⟨d, by simp, by cases d <;> simp⟩
 | d :: xs, c, k + 1, x, hx => by
  simp only [jA, List.getElem?_cons_succ] at hx
  obtain ⟨d', uM, rfl⟩ := Nu hx
  exact ⟨d', by simpa using uM, by cases d' <;> simp; omega⟩
theorem Tl {t j i : Nat} : ∀ (c : Nat) (xs : List D), (jA t j i c xs).length = xs.length
 | _, [] => rfl
 | c, d :: xs => by simp [jA, Tl (c + 1) xs]
theorem LW (q : Bool) (t j i c : Nat) (xs : List D) : (W2 q t j i c xs).length = xs.length := by
 cases q <;> simp [W2, Tl]
theorem Rel.box (r : Rel T0 B σ a w X h) {t : Nat} {cells : List At} (ho : σ.ob t 0 = .box cells) {c : Nat} {v : Value} (hv : YD (Tof T0 X) h σ.ob w (.bptr t c) v) :
  ∃ b cs e, (h t 0).v = .pointer (some ⟨b, 0, none⟩) /\ v = .pointer (some ⟨b, c, none⟩) /\ w.heap[b]? = some (.cells cs e (0, 0)) /\ Zy (YD (Tof T0 X) h σ.ob w) cells cs.toList := by
 obtain ⟨b, hb, rfl⟩ := hv.2 cells ho
 have uX := r.obj t 0
 rw [ho] at uX
 obtain ⟨b', cs, e, uS, hh, uF⟩ := uX
 rw [hb] at uS
 cases uS
 exact ⟨b, cs, e, hb, rfl, hh, uF⟩
theorem Jt {b : Nat} {cs : Array Value} {e : TypeId} {f : Nat × Nat} (hh : w.heap[b]? = some (.cells cs e f)) (k : Nat) (v : Value) (hv : cs.toList[k]? = some v) : w.cell? ⟨b, k, none⟩ = some v := by
 simp only [World.cell?, hh]
 simpa using hv
theorem Rel.arr (r : Rel T0 B σ a w X h) {t j : Nat} {q : Bool} {size : Nat} {rows : List (List D)} (ho : σ.ob t j = .arr q size rows) {i c : Nat} {v : Value} (hv : YD (Tof T0 X) h σ.ob w (.ptr t j i c) v) :
  ∃ b cap cur e xs, (h t j).v = .slice (some ⟨b, 0, none⟩) rows.length cap /\ v = .pointer (some ⟨b, i * size + c, none⟩) /\ w.heap[b]? = some (.cells cur e (0, 0)) /\ rows.length <= cap /\ cap <= maxLen /\ cur.size = cap * size /\
   cur.toList.take (rows.length * size) = xs /\ (∀ r ∈ rows, r.length = size) /\ xs.length = rows.flatten.length /\ (q = false -> Zy (Rd (Tof T0 X) w) xs rows.flatten) /\
   (q = true -> JG w xs rows.flatten (fun b => (h t j).u b /\ blk (h t j).v ≠ some b) /\ ∀ k x d, xs[k]? = some x -> rows.flatten[k]? = some d -> d.scalar = false -> (h t j).n k = x) := by
 obtain ⟨b, n, cap, hb, rfl⟩ := hv.2 q size rows ho
 have uX := r.obj t j
 rw [ho] at uX
 cases q with
 | false =>
  obtain ⟨e, xs, uG, hz, uF⟩ := uX
  rcases uG.2 with ⟨h0, _⟩ | ⟨g, ou, cur, hg, _, hh, hle, sM, sY, se⟩
  ·rw [hb] at h0; cases h0
  ·rw [hb] at hg
   cases hg
   exact ⟨b, cap, cur, e, xs, hb, rfl, hh, hle, sM, sY, se, hz, uF.length, fun _ => uF, fun hh => by cases hh⟩
 | true =>
  obtain ⟨e, xs, uG, hz, uF, hn⟩ := uX
  rcases uG.2 with ⟨h0, _⟩ | ⟨g, ou, cur, hg, _, hh, hle, sM, sY, se⟩
  ·rw [hb] at h0; cases h0
  ·rw [hb] at hg
   cases hg
   exact ⟨b, cap, cur, e, xs, hb, rfl, hh, hle, sM, sY, se, hz, uF.1, (fun hh => by cases hh), fun _ => ⟨uF, hn⟩⟩
theorem Own.hdr {v : Value} {n : Nat} {s : List (List D)} {S : Nat -> Prop} (h : Own w v (.sl n s) S) (hp : 0 < s.length) : ∃ b cap, v = .slice (some ⟨b, 0, none⟩) s.length cap := by
 cases h with
 | sl v size rows S e xs Sk ho hz hb hl hk hs hd =>
  obtain ⟨_, ⟨_, h0⟩ | ⟨g, cap, cur, hv, _⟩⟩ := ho
  ·omega
  ·exact ⟨g, cap, hv⟩
theorem Rel.nest (r : Rel T0 B σ a w X h) {t j i c size n : Nat} {rows s : List (List D)} (ho : σ.ob t j = .arr true size rows) (hi : i < rows.length) (uI : (rows.getD i [])[c]? = some (.sl n s)) : ∃ v0 S, (h t j).n (i * size + c) = v0 /\ Own w v0 (.sl n s) S := by
 have h0 := r.obj t j
 rw [ho] at h0
 obtain ⟨e, vs, rG, hz, ⟨hl, Sk, o1, o2, o3⟩, hn⟩ := h0
 have ur : rows[i]? = some (rows.getD i []) := by simp [List.getD_eq_getElem?_getD, List.getElem?_eq_getElem hi]
 have tn : rows.flatten[i * size + c]? = some (.sl n s) := qg rows size hz i _ ur c _ uI
 have uL : i * size + c < vs.length := by rw [hl]; exact (List.getElem?_eq_some_iff.1 tn).1
 have hH : vs[i * size + c]? = some vs[i * size + c] := List.getElem?_eq_getElem uL
 exact ⟨_, _, hn _ _ _ hH tn rfl, o1 _ _ _ hH tn⟩
theorem FV (r : Rel T0 B σ a w X h) {o : Oper} {T : TypeId} {x : Operand} {v : V} (uA : o.op = .load T x) (hs : YJ P σ o.op o.type v) :
  ∃ val, (execOp a.eval o).run P w = .ok (.value val) w /\ QI (Tof T0 X) h σ.ob w v val := by
 simp only [uA, YJ] at hs
 obtain ⟨hg, sT, hs⟩ := hs
 have hx := r.arg (P := P) 0 x rfl hg
 have key : ∀ (b off : Nat) (xs : List At) (cs : List Value), a.eval x = .pointer (some ⟨b, off, none⟩) -> v = ldV P T xs -> cs.length = P.cellsOf T ->
   (∀ j u, cs[j]? = some u -> w.cell? ⟨b, off + j, none⟩ = some u) -> Zy (YD (Tof T0 X) h σ.ob w) xs cs -> ∃ val, (execOp a.eval o).run P w = .ok (.value val) w /\ QI (Tof T0 X) h σ.ob w v val := by
  intro b off xs cs he hv hl hc uF
  obtain ⟨val, hr, h1, h2⟩ := CT (P := P) sT hl hc
  refine ⟨val, ?_, ?_⟩
  ·simp only [execOp, uA, he, Sem.run_bind, hr, Result.andThen_ok, Sem.run_pure]
  ·rw [hv]; exact EH sT uF h1 h2
 split at hs
 ·rename_i t c heq
  rw [heq] at hx
  obtain ⟨cells, ho, hle, hv⟩ := hs
  obtain ⟨b, cs, e, hb, he, hh, uF⟩ := r.box ho hx
  have hlen := uF.length
  refine key b c _ (cut cs.toList c (P.cellsOf T)) he hv (Yp _ _ _ (by omega)) (fun j u hu => Jt hh _ _ (J5 _ _ _ _ _ hu)) (uF.cut _ _)
 ·rename_i t j i c heq
  rw [heq] at hx
  obtain ⟨q, size, rows, ho, hi, hle, hv⟩ := hs
  obtain ⟨b, cap, cur, e, xs, hb, he, hh, tu, sM, sY, se, hz, oo, uF, uG⟩ := r.arr ho hx
  have ur : rows[i]? = some (rows.getD i []) := by simp [List.getD_eq_getElem?_getD, List.getElem?_eq_getElem hi]
  have oY : (rows.getD i []).length = size := hz _ (List.mem_of_getElem? ur)
  have tg := YA rows size hz
  have hmul : i * size + size <= rows.length * size := by rw [<- Nat.succ_mul]; exact Nat.mul_le_mul_right _ hi
  have pn : ∀ k d', (cut (rows.getD i []) c (P.cellsOf T))[k]? = some d' -> rows.flatten[i * size + c + k]? = some d' := by
   intro k d' uM
   have h2 := qg rows size hz i _ ur (c + k) d' (J5 _ _ _ _ _ uM)
   rw [show i * size + c + k = i * size + (c + k) by omega]; exact h2
  refine key b (i * size + c) _ (cut xs (i * size + c) (P.cellsOf T)) he hv (Yp _ _ _ (by omega)) (fun j u hu => ?_) ?_
  ·have h1 := J5 _ _ _ _ _ hu
   refine Jt hh _ _ ?_
   rw [<- se, List.getElem?_take] at h1
   split at h1
   ·exact h1
   ·cases h1
  ·refine Zy.zo (by rw [Yp _ _ _ (by omega), LW, Yp _ _ _ (by omega)]) (fun k x u hx hu => ?_)
   have h1 := J5 _ _ _ _ _ hu
   cases q with
   | false =>
    obtain ⟨d, hd, hr⟩ := (uF rfl).get _ _ h1
    simp only [W2] at hx
    rw [List.getElem?_map] at hx
    cases uM : (cut (rows.getD i []) c (P.cellsOf T))[k]? with
    | none => rw [uM] at hx; cases hx
    | some d' =>
     rw [uM] at hx
     cases hx
     rw [pn k d' uM] at hd
     cases hd
     exact hr
   | true =>
    obtain ⟨⟨_, Sk, uG, _, _⟩, hn⟩ := uG rfl
    simp only [W2] at hx
    obtain ⟨d', uM, rfl⟩ := Nu hx
    have uV := uG _ _ _ h1 (pn k d' uM)
    cases d' with
    | sl s rs =>
     refine ⟨uV.Xg, fun uh uQ sL => ?_⟩
     rw [ho] at sL; cases sL
     show _ = _
     rw [<- hn _ _ _ h1 (pn k _ uM) rfl, Nat.add_assoc]
    | int k n => cases uV; exact .int _ _
    | bool b => cases uV; exact .bool _
    | str s => cases uV; exact .str _
    | unk => exact .unk _ uV.Xg
 ·rename_i rr c heq
  rw [heq] at hx
  obtain ⟨hle, hv⟩ := hs
  obtain ⟨b, off, g, he, hk⟩ := hx
  refine key b (off + c) _ ((List.range (P.cellsOf T)).map fun j => g (c + j)) he hv (by simp) (fun j u hu => ?_) ?_
  ·rw [List.getElem?_map] at hu
   rcases Nat.lt_or_ge j (P.cellsOf T) with hj | hj
   ·rw [List.getElem?_range hj] at hu
    cases hu
    have hd := hk (c + j) (rr[c + j]'(by omega)) (List.getElem?_eq_getElem _)
    rw [Nat.add_assoc]; exact hd.1
   ·rw [List.getElem?_eq_none (by simpa using hj)] at hu; cases hu
  ·refine Zy.zo (by rw [List.length_map, Yp _ _ _ (by omega)]; simp) (fun k x u hx hu => ?_)
   rw [List.getElem?_map] at hx hu
   cases uM : (cut rr c (P.cellsOf T))[k]? with
   | none => rw [uM] at hx; cases hx
   | some d' =>
    rw [uM] at hx
    cases hx
    have er : k < P.cellsOf T := by have := (List.getElem?_eq_some_iff.1 uM).1; rw [Yp _ _ _ (by omega)] at this; exact this
    rw [List.getElem?_range er] at hu
    cases hu
    exact (hk (c + k) d' (J5 _ _ _ _ _ uM)).2.2
 ·rename_i t j i c k heq
  rw [heq] at hx
  obtain ⟨size, rows, s, ho, hi, uI, fp, ei, tJ, hv⟩ := hs
  obtain ⟨v0, S, hn, uG⟩ := r.nest ho hi uI
  obtain ⟨b, len, rN, nQ, he⟩ := hx.2 _ _ ho
  rw [hn] at nQ
  cases uG with
  | sl v uh uQ S e xs Sk sL hz hb hl hk uK hd =>
   rcases sL.2 with ⟨rfl, h0⟩ | ⟨g, cap, cur, rfl, _, hh, tk, sM, sY, se⟩
   ·omega
   ·cases nQ
    have ur : s[k]? = some (s.getD k []) := by simp [List.getD_eq_getElem?_getD, List.getElem?_eq_getElem ei]
    have oY : (s.getD k []).length = 1 := hz _ (List.mem_of_getElem? ur)
    have tg := YA s 1 hz
    refine key b k _ (cut xs k (P.cellsOf T)) he hv (Yp _ _ _ (by omega)) (fun j u hu => ?_) ?_
    ·have h1 := J5 _ _ _ _ _ hu
     refine Jt hh _ _ ?_
     rw [<- se, List.getElem?_take] at h1
     split at h1
     ·exact h1
     ·cases h1
    ·refine Zy.zo (by rw [List.length_map, Yp _ _ _ (by omega)]; omega) (fun q x u hx hu => ?_)
     rw [List.getElem?_map] at hx
     cases uM : (s.getD k [])[q]? with
     | none => rw [uM] at hx; cases hx
     | some d' =>
      rw [uM] at hx
      cases hx
      have hq : q = 0 := by have := (List.getElem?_eq_some_iff.1 uM).1; omega
      subst hq
      have hf := qg s 1 hz k _ ur 0 d' uM
      rw [Nat.mul_one] at hf
      have hJ := hk _ _ _ (J5 _ _ _ _ _ hu) hf
      have et : d'.scalar = true := List.all_eq_true.1 tJ d' (List.mem_of_getElem? uM)
      cases d' with
      | sl s' rs => cases et
      | int k' n' => cases hJ; exact .int _ _
      | bool b' => cases hJ; exact .bool _
      | str s' => cases hJ; exact .str _
      | unk => exact .unk _ hJ.Xg
 ·exact hs.elim
theorem ke {T : TypeId} {f : Nat} (hf : xU P T f = true) (b off : Nat) : (Instr.fieldAt T (.pointer (some ⟨b, off, none⟩)) f).run P w = .ok (.pointer (some ⟨b, off + X1 P T f, none⟩)) w := by
 obtain ⟨fs, fd, i, hu, nv, mM, sT, hi, uD⟩ := Tc hf
 have uw : P.cellsOf fd.type ≠ 0 := by simpa [Program.cellsOf, hi] using uD
 simp [Instr.fieldAt, run_underlying hu, nv, Instr.sureAddr, fieldPlace, Qx hi, uw, ze, mM]
theorem Pt (r : Rel T0 B σ a w X h) {o : Oper} {T : TypeId} {x : Operand} {f : Nat} {v : V} (uA : o.op = .fieldAddr T x f) (hs : YJ P σ o.op o.type v) :
  ∃ val, (execOp a.eval o).run P w = .ok (.value val) w /\ QI (Tof T0 X) h σ.ob w v val := by
 simp only [uA, YJ] at hs
 obtain ⟨hg, hf, hs⟩ := hs
 have hx := r.arg (P := P) 0 x rfl hg
 split at hs
 ·rename_i t c heq
  rw [heq] at hx
  obtain ⟨⟨cells, ho⟩, rfl⟩ := hs
  obtain ⟨b, hb, he⟩ := hx.2 cells ho
  refine ⟨.pointer (some ⟨b, c + X1 P T f, none⟩), by simp only [execOp, uA, he, Sem.run_bind, ke hf, Result.andThen_ok, Sem.run_pure], rfl, fun uJ _ => ⟨b, hb, rfl⟩⟩
 ·rename_i t j i c heq
  rw [heq] at hx
  obtain ⟨⟨q, size, rows, ho⟩, rfl⟩ := hs
  obtain ⟨b, n, cap, hb, he⟩ := hx.2 q size rows ho
  refine ⟨.pointer (some ⟨b, i * size + c + X1 P T f, none⟩), by simp only [execOp, uA, he, Sem.run_bind, ke hf, Result.andThen_ok, Sem.run_pure], rfl, fun q' uh uQ uV => ?_⟩
  rw [ho] at uV
  cases uV
  exact ⟨b, n, cap, hb, by rw [Nat.add_assoc]⟩
 ·rename_i rr c heq
  rw [heq] at hx
  subst hs
  obtain ⟨b, off, g, he, hk⟩ := hx
  exact ⟨.pointer (some ⟨b, off + c + X1 P T f, none⟩), by simp only [execOp, uA, he, Sem.run_bind, ke hf, Result.andThen_ok, Sem.run_pure], b, off, g, by rw [Nat.add_assoc], hk⟩
 ·rename_i t j i c k heq
  rw [heq] at hx
  obtain ⟨⟨size, rows, ho⟩, rfl⟩ := hs
  obtain ⟨b, n, cap, hb, he⟩ := hx.2 size rows ho
  refine ⟨.pointer (some ⟨b, k + X1 P T f, none⟩), by simp only [execOp, uA, he, Sem.run_bind, ke hf, Result.andThen_ok, Sem.run_pure], rfl, fun uh uQ uV => ?_⟩
  rw [ho] at uV
  cases uV
  exact ⟨b, n, cap, hb, rfl⟩
 ·exact hs.elim
theorem Na (r : Rel T0 B σ a w X h) {o : Oper} {x : Operand} {v : V} (uA : o.op = .nilCheck x) (hs : YJ P σ o.op o.type v) :
  ∃ val, (execOp a.eval o).run P w = .ok (.value val) w /\ QI (Tof T0 X) h σ.ob w v val := by
 simp only [uA, YJ] at hs
 obtain ⟨hg, hs⟩ := hs
 have hx := r.arg (P := P) 0 x rfl hg
 split at hs
 ·rename_i t c heq
  rw [heq] at hx
  obtain ⟨⟨cells, ho⟩, rfl⟩ := hs
  obtain ⟨b, hb, he⟩ := hx.2 cells ho
  exact ⟨.pointer (some ⟨b, c, none⟩), by simp only [execOp, uA, he, Sem.run_pure], rfl, fun uJ _ => ⟨b, hb, rfl⟩⟩
 ·exact hs.elim
theorem Vy {T : TypeId} (ht : Yq P T = true) (ad : Addr) (p8 : ad.spot = none) (len cap : Nat) (k : IntKind) (i : Int) (h0 : 0 <= i) (hl : i < (len : Int)) :
  (Instr.indexAt T (.slice (some ad) len cap) (.int k i)).run P w = .ok (.pointer (some ⟨ad.block, ad.off + i.toNat * P.cellsOf (ZP P T), none⟩)) w := by
 obtain ⟨ti, hu, hi, tG⟩ := XS ht
 obtain ⟨b, off, sp⟩ := ad
 simp at p8; subst p8
 simp [Instr.indexAt, asIntOf, run_underlying hu, h0, hl, Qx hi, ze]
theorem IM {T : TypeId} {n : Nat} (ht : Mc P T = some n) (bA : 1 < n) (b off : Nat) (k : IntKind) (i : Int) (h0 : 0 <= i) (hl : i < (n : Int)) :
  (Instr.indexAt T (.pointer (some ⟨b, off, none⟩)) (.int k i)).run P w = .ok (.pointer (some ⟨b, off + i.toNat * P.cellsOf (ZP P T), none⟩)) w := by
 obtain ⟨ti, hu, hi, tG⟩ := Ns ht
 simp [Instr.indexAt, Instr.sureAddr, asIntOf, run_underlying hu, h0, hl, Qx hi, ze]
theorem OR (r : Rel T0 B σ a w X h) {o : Oper} {T : TypeId} {x ix : Operand} {v : V} (uA : o.op = .indexAddr T x ix) (hs : YJ P σ o.op o.type v) :
  ∃ val, (execOp a.eval o).run P w = .ok (.value val) w /\ QI (Tof T0 X) h σ.ob w v val := by
 simp only [uA, YJ] at hs
 obtain ⟨k, i, gI, h0, hg, hs⟩ := hs
 have hx := r.arg (P := P) 0 x rfl hg
 have nS := zx r gI
 split at hs
 ·rename_i size rows heq
  rw [heq] at hx
  obtain ⟨ht, rfl, tH, uL, rfl⟩ := hs
  have lU : i.toNat < rows.length := by omega
  obtain ⟨ad, len, cap, he, hlen, p8, g, hk⟩ := Rd.row (show Rd _ _ _ _ from hx) i.toNat lU tH
  refine ⟨.pointer (some ⟨ad.block, ad.off + i.toNat * P.cellsOf (ZP P T), none⟩), by simp only [execOp, uA, he, nS, Sem.run_bind, Vy ht ad p8 len cap k i h0 (by omega), Result.andThen_ok, Sem.run_pure], ad.block, ad.off + i.toNat * P.cellsOf (ZP P T), g, by simp, hk⟩
 ·rename_i t j lo len heq
  rw [heq] at hx
  obtain ⟨ht, tH, ⟨q, rows, ho⟩, uL, rfl⟩ := hs
  obtain ⟨hle, _, _, base, cap, he, tu, _, _, hb⟩ := hx.2.1 _ _ rows ho
  obtain ⟨b, rN, hh, sw⟩ := hb (by omega)
  rw [sw] at he
  refine ⟨.pointer (some ⟨b, lo * P.cellsOf (ZP P T) + i.toNat * P.cellsOf (ZP P T), none⟩), by simp only [execOp, uA, he, nS, Sem.run_bind, Vy ht ⟨b, lo * P.cellsOf (ZP P T), none⟩ rfl len cap k i h0 uL, Result.andThen_ok, Sem.run_pure], rfl, fun q' uh uQ uV => ?_⟩
  rw [ho] at uV
  cases uV
  exact ⟨b, rows.length, rN, hh, by simp [Nat.add_mul]⟩
 ·rename_i t c heq
  rw [heq] at hx
  obtain ⟨⟨cells, ho⟩, ⟨n, hn, h1, uL⟩, rfl⟩ := hs
  obtain ⟨b, hb, he⟩ := hx.2 cells ho
  exact ⟨.pointer (some ⟨b, c + i.toNat * P.cellsOf (ZP P T), none⟩), by simp only [execOp, uA, he, nS, Sem.run_bind, IM hn h1 b c k i h0 uL, Result.andThen_ok, Sem.run_pure], rfl, fun uJ _ => ⟨b, hb, rfl⟩⟩
 ·rename_i t j m c heq
  rw [heq] at hx
  obtain ⟨ht, tH, ⟨size, rows, s, ho, hm, uI, uL⟩, rfl⟩ := hs
  obtain ⟨v0, S, hn, uG⟩ := r.nest ho hm uI
  have he : a.eval x = v0 := by rw [<- hn]; exact hx.2 size rows ho
  obtain ⟨b, cap, nQ⟩ := uG.hdr (by omega)
  rw [nQ] at he hn
  refine ⟨.pointer (some ⟨b, 0 + i.toNat * P.cellsOf (ZP P T), none⟩), by simp only [execOp, uA, he, nS, Sem.run_bind, Vy ht ⟨b, 0, none⟩ rfl s.length cap k i h0 uL, Result.andThen_ok, Sem.run_pure], rfl, fun uh uQ uV => ?_⟩
  rw [ho] at uV
  cases uV
  exact ⟨b, s.length, cap, hn, by simp⟩
 ·exact hs.elim
end
end Go.Vm
namespace Go.Vm
section
variable {P : Program} {T0 : CS} {B : Nat -> Prop} {σ : St} {a : Act} {w : World} {X : Nat -> Prop} {h : Nat -> Nat -> Hd}
theorem NZ {T : TypeId} (ht : yf P T = true) {cs : Array Value} {off : Nat} (hl : off + P.cellsOf T <= cs.size) :
  ∃ val, (part T cs off).run P w = .ok val w /\ (WG P T = true -> val = .agg (cut cs.toList off (P.cellsOf T)).toArray) /\ (WG P T = false -> cut cs.toList off (P.cellsOf T) = [val]) := by
 obtain ⟨d, i, hd, hi, tG, tA⟩ := kG ht
 cases rm : WG P T with
 | true =>
  refine ⟨.agg (cs.extract off (off + P.cellsOf T)), ?_, fun _ => ?_, (fun hh => by cases hh)⟩
  ·simp only [part, Sem.run_bind, U1 hd, rm, Result.andThen_ok, if_true, Qx hi, Sem.run_pure]
  ·congr 1
   apply Array.toList_inj.1
   simp [cut, Array.toList_extract, List.extract_eq_take_drop]
 | false =>
  rcases tA with tA | tA
  ·rw [rm] at tA; cases tA
  ·rw [tA] at hl ⊢
   have uL : off < cs.size := by omega
   refine ⟨cs[off], ?_, (fun hh => by cases hh), fun _ => ?_⟩
   ·simp [part, U1 hd, rm, Array.getElem?_eq_getElem uL]
   ·have : cut cs.toList off 1 = [cs.toList[off]'(by simpa using uL)] := by
     simp only [cut]
     rw [List.drop_eq_getElem_cons (by simpa using uL)]
     simp
    rw [this]
    simp
theorem HV {T : TypeId} (ht : yf P T = true) {xs : List At} {x : Value} {off : Nat} (hx : QI (Tof T0 X) h σ.ob w (.agg xs) x) (hl : off + P.cellsOf T <= xs.length) :
  ∃ cs : Array Value, x = .agg cs /\ ∃ val, (part T cs off).run P w = .ok val w /\ QI (Tof T0 X) h σ.ob w (ldV P T (cut xs off (P.cellsOf T))) val := by
 obtain ⟨cs, rfl, uF⟩ := hx
 obtain ⟨val, hr, h1, h2⟩ := NZ (P := P) (w := w) ht (cs := cs) (off := off) (by have := uF.length; simp at this; omega)
 exact ⟨cs, rfl, val, hr, EH ht (uF.cut _ _) h1 h2⟩
theorem Hl (r : Rel T0 B σ a w X h) {o : Oper} {T : TypeId} {x ix : Operand} {v : V} (uA : o.op = .index T x ix) (hs : YJ P σ o.op o.type v) :
  ∃ val, (execOp a.eval o).run P w = .ok (.value val) w /\ QI (Tof T0 X) h σ.ob w v val := by
 simp only [uA, YJ] at hs
 obtain ⟨k, i, gI, h0, hg, hs⟩ := hs
 have hx := r.arg (P := P) 0 x rfl hg
 have nS := zx r gI
 split at hs
 ·rename_i s heq
  rw [heq] at hx
  obtain ⟨ht, uL, rfl⟩ := hs
  have he := Ua hx
  have lU : i.toNat < s.size := by omega
  refine ⟨.int .u8 (s.data.toList.getD i.toNat 0).toNat, ?_, .int _ _⟩
  have tO : s[i.toNat]? = some (s.data.toList.getD i.toNat 0) := by
   rw [List.getD_eq_getElem?_getD]
   have h1 : s.data.toList[i.toNat]? = some (s.data[i.toNat]'lU) := by
    rw [List.getElem?_eq_getElem (by simpa using lU)]; simp
   rw [h1, getElem?_pos s i.toNat lU]
   rfl
  simp [execOp, uA, he, nS, Instr.index, asIntOf, run_underlying (y3 ht), h0, tO]
 ·rename_i xs heq
  rw [heq] at hx
  obtain ⟨⟨n, hn, uL⟩, ht, hl, rfl⟩ := hs
  obtain ⟨ti, hu, hi, tG⟩ := Ns hn
  obtain ⟨cs, he, val, hr, hv⟩ := HV ht hx hl
  refine ⟨val, ?_, hv⟩
  simp [execOp, uA, he, nS, Instr.index, asIntOf, run_underlying hu, h0, uL, Qx hi, hr]
 ·exact hs.elim
theorem Gc (r : Rel T0 B σ a w X h) {o : Oper} {T : TypeId} {x : Operand} {f : Nat} {v : V} (uA : o.op = .field T x f) (hs : YJ P σ o.op o.type v) :
  ∃ val, (execOp a.eval o).run P w = .ok (.value val) w /\ QI (Tof T0 X) h σ.ob w v val := by
 simp only [uA, YJ] at hs
 obtain ⟨hg, hf, ht, hs⟩ := hs
 have hx := r.arg (P := P) 0 x rfl hg
 split at hs
 ·rename_i xs heq
  rw [heq] at hx
  obtain ⟨hl, rfl⟩ := hs
  obtain ⟨fs, fd, i, hu, nv, mM, sT, hi, uD⟩ := Tc hf
  obtain ⟨cs, he, val, hr, hv⟩ := HV ht hx hl
  refine ⟨val, ?_, hv⟩
  rw [<- mM, <- sT] at hr
  simp [execOp, uA, he, Instr.field, run_underlying hu, nv, asAgg, hr]
 ·exact hs.elim
theorem Io (r : Rel T0 B σ a w X h) {ta n y : Nat} {x : Option Operand} {code : BoundsCode} (hb : bnd P σ ta x n) (hy : n <= y) (uD : x ≠ none) :
  (Instr.sliceBound ((x.map a.eval).getD undef) y code).run P w = .ok n w := by
 cases x with
 | none => exact absurd rfl uD
 | some x =>
  obtain ⟨k, i, hg, hx, h0, rfl⟩ := hb
  have he := W9 (r.arg (P := P) 0 x hx hg)
  have : i <= (y : Int) := by omega
  simp [he, Instr.sliceBound, asIntOf, h0, this]
theorem T7 (r : Rel T0 B σ a w X h) {sl : Bool} {len cap l hh : Nat} {lo hi : Option Operand} (rF : bnd P σ 0 lo l) (ph : bnd P σ len hi hh) (h1 : l <= hh) (h2 : hh <= cap) :
  (Instr.sliceBounds sl len cap (lo.map a.eval) (hi.map a.eval) none).run P w = .ok (l, hh, cap) w := by
 unfold Instr.sliceBounds
 cases hi with
 | none =>
  cases ph
  cases lo with
  | none => cases rF; simp
  | some x =>
   have := Io (w := w) r (code := .sliceB) rF h1 (by simp)
   simp at this
   simp [this]
 | some y =>
  have hb := Io (w := w) r (code := if sl then .sliceAcap else .sliceAlen) ph h2 (by simp)
  simp at hb
  cases lo with
  | none => cases rF; simp [hb]
  | some x =>
   have := Io (w := w) r (code := .sliceB) rF h1 (by simp)
   simp at this
   simp [this, hb]
theorem y9 {α : Type} (rows : List (List α)) (size l n : Nat) (hz : ∀ r ∈ rows, r.length = size) (k : Nat) (d : α) (hd : (cut rows l n).flatten[k]? = some d) : rows.flatten[l * size + k]? = some d := by
 induction rows generalizing l with
 | nil => simp [cut] at hd
 | cons r rows ih =>
  have hr : r.length = size := hz r (by simp)
  cases l with
  | zero =>
   simp only [cut, List.drop_zero, Nat.zero_mul, Nat.zero_add] at hd ⊢
   have mQ : (r :: rows).flatten = ((r :: rows).take n).flatten ++ ((r :: rows).drop n).flatten := by rw [<- List.flatten_append, List.take_append_drop]
   rw [mQ, List.getElem?_append_left (List.getElem?_eq_some_iff.1 hd).1]; exact hd
  | succ l =>
   have := ih l (fun r hr => hz r (by simp [hr])) (by simpa [cut] using hd)
   rw [List.flatten_cons, List.getElem?_append_right (by rw [hr, Nat.add_mul]; omega), hr]
   rw [show (l + 1) * size + k - size = l * size + k by rw [Nat.add_mul]; omega]; exact this
theorem Rd.cut {T : CS} {v : Value} {size : Nat} {rows : List (List D)} {base : Option Addr} {len cap : Nat} (hv : v = .slice base len cap) (r : Rd T w v (.sl size rows)) (l hh : Nat) (h1 : l <= hh) (h2 : hh <= rows.length) (ef : 0 < size \/ True) :
  Rd T w (.slice (if cap = l then base else base.map (·.add (l * size))) (hh - l) (cap - l)) (.sl size (Vm.cut rows l (hh - l))) := by
 subst hv
 cases r with
 | nil =>
  simp at h2; subst h2
  have : l = 0 := by omega
  subst this
  simp [Vm.cut]; exact .nil _
 | sl a len cap size rows g hl hc hm hz hs hg hr =>
  have hlen : (Vm.cut rows l (hh - l)).length = hh - l := Yp _ _ _ (by omega)
  have sn : ∀ r ∈ Vm.cut rows l (hh - l), r.length = size := fun r hr => hz r (List.mem_of_mem_drop (List.mem_of_mem_take hr))
  by_cases uk : cap = l
  ·have h0 : hh - l = 0 := by omega
   have rQ : Vm.cut rows l (hh - l) = [] := List.eq_nil_of_length_eq_zero (by omega)
   rw [if_pos uk, rQ, h0]
   exact .sl a 0 (cap - l) size [] g rfl (Nat.zero_le _) (by omega) (by intro r hr; cases hr) (by simp) (by simp) (by simp)
  ·rw [if_neg uk]
   refine .sl (a.add (l * size)) (hh - l) (cap - l) size _ (fun k => g (l * size + k)) hlen (by omega) (by omega) sn (fun uD => ?_) (fun k d hd => ?_) (fun k d hd => hr _ _ (y9 rows size l _ hz k d hd))
   ·have : rows.flatten ≠ [] := by
     intro he
     apply uD
     cases ux : (Vm.cut rows l (hh - l)).flatten with
     | nil => rfl
     | cons d ds =>
      have := y9 rows size l (hh - l) hz 0 d (by rw [ux]; rfl)
      rw [he] at this; simp at this
    have p8 := hs this
    unfold Addr.add; split <;> simp [p8]
   ·have p8 : a.spot = none := hs (by
     intro he
     have := y9 rows size l (hh - l) hz k d hd
     rw [he] at this; simp at this)
    have := hg _ _ (y9 rows size l (hh - l) hz k d hd)
    obtain ⟨b, off, sp⟩ := a
    simp at p8; subst p8
    rw [ze]
    simp only [Nat.add_assoc] at this ⊢
    exact this
theorem GZ (r : Rel T0 B σ a w X h) {o : Oper} {T : TypeId} {x : Operand} {lo hi : Option Operand} {v : V} (uA : o.op = .slice T x lo hi none) (hs : YJ P σ o.op o.type v) :
  ∃ val, (execOp a.eval o).run P w = .ok (.value val) w /\ QI (Tof T0 X) h σ.ob w v val := by
 simp only [uA, YJ] at hs
 obtain ⟨hg, hs⟩ := hs
 have hx := r.arg (P := P) 0 x rfl hg
 split at hs
 ·rename_i s heq
  rw [heq] at hx
  obtain ⟨ht, l, hh, rF, ph, h1, h2, rfl⟩ := hs
  have he := Ua hx
  have hb := T7 (w := w) r (sl := false) rF ph h1 h2
  refine ⟨.string (s.extract l hh), ?_, .str _⟩
  simp [execOp, uA, he, Instr.sliceAt, Instr.slice, run_underlying (y3 ht), hb]
 ·rename_i size rows heq
  rw [heq] at hx
  obtain ⟨ht, rfl, l, hh, rF, ph, h1, h2, rfl⟩ := hs
  obtain ⟨ti, hu, tZ, tG⟩ := XS ht
  obtain ⟨base, cap, he, tu, sM⟩ := Fq (show Rd _ _ _ _ from hx)
  have hb := T7 (w := w) r (sl := true) (cap := cap) rF ph h1 (by omega)
  refine ⟨_, ?_, Rd.cut he hx l hh h1 h2 (.inr trivial)⟩
  simp [execOp, uA, he, Instr.sliceAt, Instr.slice, run_underlying hu, hb, Qx tZ]
 ·rename_i t j bB len heq
  rw [heq] at hx
  obtain ⟨ht, ⟨q, rows, ho⟩, l, hh, rF, ph, h1, h2, rfl⟩ := hs
  obtain ⟨ti, hu, tZ, tG⟩ := XS ht
  obtain ⟨hle, tb, sy, base, cap, he, tu, sM, oq, gJ⟩ := hx.2.1 _ _ rows ho
  have hb := T7 (w := w) r (sl := true) (cap := cap) rF ph h1 (by omega)
  refine ⟨.slice (if cap = l then base else base.map (·.add (l * P.cellsOf (ZP P T)))) (hh - l) (cap - l), ?_, rfl, fun q' uh uQ uV => ?_, fun uh uQ uV => by rw [ho] at uV; cases uV⟩
  ·simp [execOp, uA, he, Instr.sliceAt, Instr.slice, run_underlying hu, hb, Qx tZ]
  ·rw [ho] at uV
   cases uV
   refine ⟨by omega, fun hD lS => ?_, fun lS => ?_, _, cap - l, rfl, by omega, by omega, fun hn => ?_, fun tH => ?_⟩
   ·have hl : l = 0 := by omega
    subst hl
    have : len = rows.length := by omega
    have hv := tb this (by omega)
    rw [<- hv, he]
    simp only [Nat.sub_zero, Nat.zero_mul]
    have h3 : hh = len := by omega
    rw [h3]
    congr 1
    split
    ·rfl
    ·cases base <;> simp [Addr.add]
   ·have hl : l = 0 := by omega
    subst hl
    have hv := sy (by omega)
    rw [he] at hv
    have gQ : (if cap = 0 then base else base.map (·.add (0 * P.cellsOf (ZP P T)))) = base := by
     split
     ·rfl
     ·cases base <;> simp [Addr.add]
    rw [gQ]
    unfold Lt at hv ⊢
    revert hv
    cases (h t j).v with
    | slice b n c => intro hv; cases hv; simp
    | _ => intro hv; cases hv
   ·have nZ : base = none := by
     by_cases uk : cap = l
     ·rw [if_pos uk] at hn; exact hn
     ·rw [if_neg uk] at hn; simpa using hn
    have := oq nZ; omega
   ·obtain ⟨b, rN, ot, sw⟩ := gJ (by omega)
    refine ⟨b, rN, ot, ?_⟩
    rw [if_neg (by omega), sw]
    simp [ze, Nat.add_mul]
 ·exact hs.elim
end
end Go.Vm
namespace Go.Vm
section
variable {P : Program} {T0 : CS} {B : Nat -> Prop} {σ : St} {a : Act} {w : World} {X : Nat -> Prop} {h : Nat -> Nat -> Hd}
theorem FD {α : Type} (l : List α) (k : Nat) (v : α) (vs : List α) (hk : k + (vs.length + 1) <= l.length) : place (l.set k v) (k + 1) vs = place l k (v :: vs) := by
 unfold place
 have h1 : (l.set k v).take (k + 1) = l.take k ++ [v] := by
  rw [List.take_set, List.take_succ_eq_append_getElem (by omega)]
  rw [List.set_append_right _ _ (by simp; omega)]
  simp [Nat.min_eq_left (show k <= l.length by omega)]
 have h2 : (l.set k v).drop (k + 1 + vs.length) = l.drop (k + (vs.length + 1)) := by
  rw [List.drop_set_of_lt (by omega)]; congr 1; omega
 rw [h1, h2]; simp
theorem Pp (off : Nat) : ∀ (vs : List Value) (j : Nat) (cs : Array Value), off + j + vs.length <= cs.size ->
  ((vs.zipIdx j).foldl (fun cs x => cs.setIfInBounds (off + x.2) x.1) cs).toList = place cs.toList (off + j) vs
 | [], j, cs, _ => by simp [place]
 | v :: vs, j, cs, hl => by
  rw [List.zipIdx_cons, List.foldl_cons, Pp off vs (j + 1) _ (by simp at hl ⊢; omega)]
  rw [Array.toList_setIfInBounds, show off + (j + 1) = off + j + 1 by omega, FD _ _ _ _ (by simp at hl ⊢; omega)]
theorem VC (off : Nat) (vs cs : Array Value) (hl : off + vs.size <= cs.size) :
  (vs.zipIdx.foldl (fun cs x => cs.setIfInBounds (off + x.2) x.1) cs).toList = place cs.toList off vs.toList := by
 rw [<- Array.foldl_toList, Array.toList_zipIdx, Pp off vs.toList 0 cs (by simpa using hl)]
 rfl
theorem Qc {α : Type} (r : List α) (off : Nat) (xs : List α) (hl : off + xs.length <= r.length) : (place r off xs).length = r.length := by
 simp [place]; omega
theorem Zy.place {α β : Type} {R : α -> β -> Prop} {l : List α} {m : List β} (x : Zy R l m) (off : Nat) {l' : List α} {m' : List β} (y : Zy R l' m') : Zy R (Vm.place l off l') (Vm.place m off m') := by
 unfold Vm.place
 rw [y.length]
 exact ((x.take _).append y).append (x.drop _)
theorem ju {T' : CS} {ob : Nat -> Nat -> Ob} {x : V} {v : Value} (hf : x.flat = true) (hv : QI T' h ob w x v) : Zy (YD T' h ob w) x.cells v.cells.toList := by
 cases x with
 | one c =>
  have h1 := YD.Xg (show YD _ _ _ _ _ _ from hv)
  have : v.cells = #[v] := by cases v <;> first | rfl | (simp [Value.oneCell'] at h1)
  rw [this]
  exact .cons hv .nil
 | agg xs => obtain ⟨cs, rfl, uF⟩ := hv; exact uF
 | any => cases hf
 | tup xs => cases hf
 | cnd g x => cases hf
 | fix u x => cases hf
theorem Ox (r : Rel T0 B σ a w X h) (T : TypeId) (pl : Nat -> Option (Nat × Nat)) (pj : ∀ i, bOk P T i = true -> pl i = some (xN P T i, P.cellsOf (bTy P T i))) :
  ∀ (ps : List (Nat × Operand)) (row out : List At) (cells : Array Value), Zy (YD (Tof T0 X) h σ.ob w) row cells.toList -> WM P σ T ps row out ->
   ∃ uJ, Instr.fill pl cells (ps.map fun x => (x.1, a.eval x.2)) = some uJ /\ Zy (YD (Tof T0 X) h σ.ob w) out uJ.toList
 | [], row, out, cells, uF, hb => by cases hb; exact ⟨cells, rfl, uF⟩
 | (i, x) :: ps, row, out, cells, uF, hb => by
  obtain ⟨uW, hg, hf, hlen, hle, hb⟩ := hb
  have hx := ju hf (r.arg (P := P) (bTy P T i) x rfl hg)
  have ov := hx.length
  have lS := uF.length
  have e1 : cells.toList.length = cells.size := Array.length_toList
  have e2 : (a.eval x).cells.toList.length = (a.eval x).cells.size := Array.length_toList
  have pK := uF.place (xN P T i) hx
  have heq := VC (xN P T i) (a.eval x).cells cells (by omega)
  rw [<- heq] at pK
  obtain ⟨uJ, h1, h2⟩ := Ox r T pl pj ps _ out _ pK hb
  refine ⟨uJ, ?_, h2⟩
  have tG : (a.eval x).cells.size = P.cellsOf (bTy P T i) := by omega
  simp only [List.map_cons, Instr.fill, pj i uW]
  rw [if_neg (by simp [tG]; omega)]
  exact h1
theorem run_places (fs : List Field) (oU : ∀ f ∈ fs, (P.info? f.type).isSome = true) (w : World) :
  (fs.mapM (m := Sem) fun f => do pure (f.offset, <- sizeOf f.type)).run P w = .ok (fs.map fun f => (f.offset, P.cellsOf f.type)) w := by
 induction fs with
 | nil => simp
 | cons f fs ih =>
  obtain ⟨i, hi⟩ := Option.isSome_iff_exists.1 (oU f (by simp))
  simp only [List.mapM_cons, Sem.run_bind, Qx hi, Result.andThen_ok, Sem.run_pure, ih (fun f hf => oU f (by simp [hf])), List.map_cons]
theorem Hj (r : Rel T0 B σ a w X h) {o : Oper} {T : TypeId} {parts : Array (Nat × Operand)} {v : V} (uA : o.op = .build T parts) (hs : YJ P σ o.op o.type v) :
  ∃ val, (execOp a.eval o).run P w = .ok (.value val) w /\ QI (Tof T0 X) h σ.ob w v val := by
 simp only [uA, YJ] at hs
 obtain ⟨hz, rm, z, out, sV, hb, rfl⟩ := hs
 obtain ⟨i, zv, hi, gL, tG, sN⟩ := N5 hz sV
 have sZ : (zeroValue T).run P w = .ok zv w := by simp [zeroValue, typeInfo, hi, gL]
 have s4 : (parts.map fun (x : Nat × Operand) => (x.1, a.eval x.2)).toList = parts.toList.map fun x => (x.1, a.eval x.2) := by simp
 unfold WG at rm
 split at rm
 ·rename_i fs hu
  by_cases tC : ∀ f ∈ fs.toList, (P.info? f.type).isSome = true
  ·have pj : ∀ i, bOk P T i = true -> (fs.toList.map fun f => (f.offset, P.cellsOf f.type)).toArray[i]? = some (xN P T i, P.cellsOf (bTy P T i)) := by
    intro i uW
    simp only [bOk, hu, Bool.and_eq_true, decide_eq_true_eq] at uW
    have uL := uW.2
    simp [xN, bTy, hu, X1, yM, uL]
   obtain ⟨uJ, h1, h2⟩ := Ox r T _ pj parts.toList z out zv.cells (sN _ _ _ _) hb
   refine ⟨.agg uJ, ?_, uJ, rfl, h2⟩
   have hm := run_places (P := P) fs.toList tC w
   have : (fs.mapM (m := Sem) fun f => do pure (f.offset, <- sizeOf f.type)).run P w = .ok (fs.toList.map fun f => (f.offset, P.cellsOf f.type)).toArray w := by
    rw [Array.mapM_eq_mapM_toList]
    change ((fs.toList.mapM (m := Sem) fun f => do pure (f.offset, <- sizeOf f.type)) >>= fun l => pure l.toArray).run P w = _
    simp only [Sem.run_bind, hm, Result.andThen_ok, Sem.run_pure]
   simp only [execOp, uA, Instr.build, Sem.run_bind, sZ, Result.andThen_ok, run_underlying hu, this, s4, h1, Sem.run_pure]
  · -- no part can be placed: then there are none
   have rQ : parts.toList = [] := by
    cases hp : parts.toList with
    | nil => rfl
    | cons p ps =>
     obtain ⟨i, x⟩ := p
     rw [hp] at hb
     have uW := hb.1
     simp only [bOk, hu, Bool.and_eq_true] at uW
     exact absurd (by intro f hf; exact Array.all_eq_true'.1 uW.1 f (by simpa using hf)) tC
   exfalso
   rw [show (12 : Nat) = 11 + 1 from rfl, qp, hu] at sV
   simp only [Option.map_eq_some_iff] at sV
   obtain ⟨rs, sc, _⟩ := sV
   apply tC
   intro f hf
   have : ∀ (l : List Field) (rs : List (List At)), l.mapM (fun f => qp P 11 f.type) = some rs -> ∀ f ∈ l, (P.info? f.type).isSome = true := by
    intro l
    induction l with
    | nil => intro rs _ f hf; cases hf
    | cons g l ih =>
     intro rs sc f hf
     simp only [List.mapM_cons, Option.bind_eq_bind, Option.bind_eq_some_iff] at sc
     obtain ⟨r0, rO, lA, mN, _⟩ := sc
     rcases List.mem_cons.1 hf with rfl | hf
     ·rw [show (11 : Nat) = 10 + 1 from rfl, qp] at rO
      cases hi0 : P.info? f.type with
      | some i => rfl
      | none => simp [Program.underlying, hi0] at rO
     ·exact ih lA mN f hf
   exact this fs.toList rs sc f hf
 ·rename_i n e hu
  cases nS : P.info? e with
  | none =>
   exfalso
   rw [show (12 : Nat) = 11 + 1 from rfl, qp, hu] at sV
   simp only [Option.map_eq_some_iff] at sV
   obtain ⟨r0, rO, _⟩ := sV
   rw [show (11 : Nat) = 10 + 1 from rfl, qp] at rO
   simp [Program.underlying, nS] at rO
  | some ie =>
   have pj : ∀ i, bOk P T i = true -> (fun i => some (i * P.cellsOf e, P.cellsOf e)) i = some (xN P T i, P.cellsOf (bTy P T i)) := by
    intro i _
    simp [xN, bTy, hu]
   obtain ⟨uJ, h1, h2⟩ := Ox r T _ pj parts.toList z out zv.cells (sN _ _ _ _) hb
   refine ⟨.agg uJ, ?_, uJ, rfl, h2⟩
   simp only [execOp, uA, Instr.build, Sem.run_bind, sZ, Result.andThen_ok, run_underlying hu, Qx nS, s4, h1, Sem.run_pure]
 ·cases rm
theorem jP {t : TypeId} (ht : Ur P t = true) {cs : Array Value} {i : Nat} {v : Value} (hv : cs[i]? = some v) : (part t cs i).run P w = .ok v w := by
 unfold Ur at ht
 split at ht <;> first | (rename_i hu; simp [part, isAgg, run_underlying hu, hv]) | cases ht
theorem Hk {t : TypeId} {T' : CS} {ob : Nat -> Nat -> Ob} {x y : At} {u v : Value} {p : Bool} (hp : C2 P t x y = some p) (hx : YD T' h ob w x u) (hy : YD T' h ob w y v) (d : Nat) (w' : World) :
  (Op.equalIn (d + 1) t u v).run P w' = .ok p w' := by
 unfold C2 at hp
 split at hp
 ·rename_i k a' k' b'
  split at hp
  ·rename_i hc
   obtain ⟨rfl, hi⟩ := hc
   obtain ⟨k2, oW⟩ := Option.isSome_iff_exists.1 hi
   cases hp
   rw [W9 hx, W9 hy]
   exact Go.run_equalIn_int w' d t _ _ _ _ (NS oW)
  ·cases hp
 ·split at hp
  ·rename_i hc
   cases hp
   rw [xe hx, xe hy]
   have hu : P.underlying t = some .bool := by
    unfold Pa at hc; split at hc <;> first | assumption | cases hc
   exact Go.run_equalIn_bool' w' d t _ _ hu
  ·cases hp
 ·split at hp
  ·rename_i hc
   cases hp
   rw [Ua hx, Ua hy]
   rw [Go.run_equalIn_string w' d t _ _ (y3 hc), FR]
  ·cases hp
 ·cases hp
theorem RK {T' : CS} {ob : Nat -> Nat -> Ob} (d : Nat) (cs ds : Array Value) (w' : World) : ∀ (fs : List Field) (i : Nat) (xs ys : List At) (q : Bool), kB P fs i = true -> Xv P (fs.map (·.type)) xs ys = some q ->
  Zy (YD T' h ob w) xs (cs.toList.drop i) -> Zy (YD T' h ob w) ys (ds.toList.drop i) -> (Op.eqFields (d + 1) cs ds fs).run P w' = .ok q w'
 | [], i, xs, ys, q, _, hq, _, _ => by simp [Xv] at hq; subst hq; simp [Op.eqFields]
 | f :: fs, i, [], ys, q, _, hq, _, _ => by simp [Xv] at hq
 | f :: fs, i, x :: xs, [], q, _, hq, _, _ => by simp [Xv] at hq
 | f :: fs, i, x :: xs, y :: ys, q, uW, hq, hx, hy => by
  simp only [kB, Bool.and_eq_true, decide_eq_true_eq, beq_iff_eq] at uW
  obtain ⟨⟨⟨hn, ho⟩, tJ⟩, uW⟩ := uW
  simp only [List.map_cons, Xv] at hq
  split at hq
  ·rename_i p q' hp pJ
   cases hq
   cases hcd : cs.toList.drop i with
   | nil => rw [hcd] at hx; cases hx
   | cons u us =>
    cases rH : ds.toList.drop i with
    | nil => rw [rH] at hy; cases hy
    | cons v vs =>
     rw [hcd] at hx; rw [rH] at hy
     cases hx with
     | cons gM hx =>
      cases hy with
      | cons gN hy =>
       have hu : cs[i]? = some u := by
        have : (cs.toList.drop i)[0]? = some u := by rw [hcd]; rfl
        simpa using this
       have hv : ds[i]? = some v := by
        have : (ds.toList.drop i)[0]? = some v := by rw [rH]; rfl
        simpa using this
       have eu : cs.toList.drop (i + 1) = us := by rw [<- List.drop_drop, hcd]; rfl
       have hH : ds.toList.drop (i + 1) = vs := by rw [<- List.drop_drop, rH]; rfl
       have ih := RK d cs ds w' fs (i + 1) xs ys q' uW pJ (by rw [eu]; exact hx) (by rw [hH]; exact hy)
       subst ho
       simp only [Op.eqFields, if_pos hn, Sem.run_bind, jP tJ hu, jP tJ hv, Result.andThen_ok, Hk hp gM gN d w']
       cases p
       ·simp
       ·simpa using ih
  ·cases hq
theorem Tx (P : Program) : ∀ (ts : List TypeId) (xs ys : List At) (q : Bool), Xv P ts xs ys = some q -> ts.length <= xs.length /\ ts.length <= ys.length
 | [], _, _, _, _ => ⟨Nat.zero_le _, Nat.zero_le _⟩
 | t :: ts, [], _, _, h => by simp [Xv] at h
 | t :: ts, x :: xs, [], _, h => by simp [Xv] at h
 | t :: ts, x :: xs, y :: ys, q, h => by
  simp only [Xv] at h
  split at h
  ·rename_i p q' hp pJ
   have := Tx P ts xs ys q' pJ
   simp only [List.length_cons]; omega
  ·cases h
theorem Ph (P : Program) : ∀ (ts : List TypeId) (xs ys : List At) (m : Nat), ts.length <= m -> Xv P ts (xs.take m) (ys.take m) = Xv P ts xs ys
 | [], _, _, _, _ => by simp [Xv]
 | t :: ts, _, _, 0, h => by simp at h
 | t :: ts, [], _, m + 1, _ => by simp [Xv]
 | t :: ts, x :: xs, [], m + 1, _ => by simp [Xv]
 | t :: ts, x :: xs, y :: ys, m + 1, h => by
  simp only [List.take_succ_cons, Xv]
  rw [Ph P ts xs ys m (by simpa using h)]
theorem MA (P : Program) : ∀ (ts us : List TypeId) (xs ys : List At) (q : Bool), Xv P (ts ++ us) xs ys = some q -> ∃ p q', Xv P ts xs ys = some p /\ Xv P us (xs.drop ts.length) (ys.drop ts.length) = some q' /\ q = (p && q')
 | [], us, xs, ys, q, h => ⟨true, q, by simp [Xv], by simpa using h, by simp⟩
 | t :: ts, us, [], _, _, h => by simp [Xv] at h
 | t :: ts, us, x :: xs, [], _, h => by simp [Xv] at h
 | t :: ts, us, x :: xs, y :: ys, q, h => by
  simp only [List.cons_append, Xv] at h
  split at h
  ·rename_i p q0 hp gH
   obtain ⟨p2, q2, h1, h2, h3⟩ := MA P ts us xs ys q0 gH
   cases h
   exact ⟨p && p2, q2, by simp only [Xv, hp, h1], by simpa using h2, by rw [h3, Bool.and_assoc]⟩
  ·cases h
theorem T9 {T' : CS} {ob : Nat -> Nat -> Ob} (d : Nat) (cs ds : Array Value) (w' : World) : ∀ (fs : List Field) (i : Nat) (xs ys : List At) (q : Bool), WQ P fs i = true -> Xv P (fs.flatMap (L3 P)) xs ys = some q ->
  Zy (YD T' h ob w) xs (cs.toList.drop i) -> Zy (YD T' h ob w) ys (ds.toList.drop i) -> (Op.eqFields (d + 2) cs ds fs).run P w' = .ok q w'
 | [], i, xs, ys, q, _, hq, _, _ => by simp [Xv] at hq; subst hq; simp [Op.eqFields]
 | f :: fs, i, xs, ys, q, uW, hq, hx, hy => by
  simp only [WQ, Bool.and_eq_true, decide_eq_true_eq, beq_iff_eq] at uW
  obtain ⟨⟨hn, ho⟩, uW⟩ := uW
  subst ho
  rw [List.flatMap_cons] at hq
  obtain ⟨p, q', hp, pJ, rfl⟩ := MA P _ _ _ _ _ hq
  cases tJ : Ur P f.type with
  | true =>
   rw [tJ, if_pos rfl] at uW
   have hl : L3 P f = [f.type] := by unfold L3; rw [tJ, if_pos rfl]
   rw [hl] at hp pJ
   have tn := RK (P := P) (d + 1) cs ds w' [f] f.offset xs ys p (by simp only [kB, Bool.and_eq_true, decide_eq_true_eq, beq_iff_eq]; exact ⟨⟨⟨hn, trivial⟩, tJ⟩, trivial⟩) hp hx hy
   have ih := T9 d cs ds w' fs (f.offset + 1) (xs.drop 1) (ys.drop 1) q' uW pJ (by rw [<- List.drop_drop]; exact hx.drop 1) (by rw [<- List.drop_drop]; exact hy.drop 1)
   simp only [Op.eqFields, if_pos hn] at tn ⊢
   have hlen := Tx P _ _ _ _ hp
   have oo := hx.length
   have sC := hy.length
   simp only [List.length_cons, List.length_nil, List.length_drop, Array.length_toList] at hlen oo sC
   have hu : cs[f.offset]? = some (cs[f.offset]'(by omega)) := Array.getElem?_eq_getElem _
   have hv : ds[f.offset]? = some (ds[f.offset]'(by omega)) := Array.getElem?_eq_getElem _
   simp only [Sem.run_bind, jP tJ hu, jP tJ hv, Result.andThen_ok] at tn ⊢
   cases xs with
   | nil => simp at hlen
   | cons x xs =>
    cases ys with
    | nil => simp at hlen
    | cons y ys =>
     obtain ⟨u, ej, gM⟩ := hx.get 0 x rfl
     obtain ⟨v, tN, gN⟩ := hy.get 0 y rfl
     simp only [Xv] at hp
     split at hp
     ·rename_i p0 q0 eg gH
      cases gH
      cases hp
      have e1 : cs[f.offset]'(by omega) = u := by
       have : cs[f.offset]? = some u := by simpa using ej
       rw [hu] at this; exact Option.some.inj this
      have e2 : ds[f.offset]'(by omega) = v := by
       have : ds[f.offset]? = some v := by simpa using tN
       rw [hv] at this; exact Option.some.inj this
      rw [e1, e2, Hk eg gM gN (d + 1) w', Result.andThen_ok]
      cases p0
      ·simp
      ·simpa using ih
     ·cases hp
  | false =>
   rw [tJ, if_neg (by simp)] at uW
   cases hu : P.underlying f.type with
   | none => rw [hu] at uW; cases uW
   | some de =>
    rw [hu] at uW
    cases de with
    | struct gs =>
     simp only [Bool.and_eq_true, beq_iff_eq, Bool.not_eq_true', decide_eq_true_eq] at uW
     obtain ⟨⟨⟨⟨⟨⟨sT, rm⟩, uk⟩, hG⟩, uf⟩, ek⟩, uW⟩ := uW
     have hl : L3 P f = gs.toList.map (·.type) := by unfold L3; rw [tJ, if_neg (by simp), hu]
     rw [hl] at hp pJ
     rw [List.length_map, Array.length_toList] at pJ
     have hf : P.fieldsOf f.type = gs := by simp [Program.fieldsOf, hu]
     have hlen := Tx P _ _ _ _ hp
     have oo := hx.length
     have sC := hy.length
     simp only [List.length_map, Array.length_toList, List.length_drop] at hlen oo sC
     have ih := T9 d cs ds w' fs (f.offset + gs.size) (xs.drop gs.size) (ys.drop gs.size) q' uW pJ (by rw [<- List.drop_drop]; exact hx.drop gs.size) (by rw [<- List.drop_drop]; exact hy.drop gs.size)
     obtain ⟨va, eo, lT, _⟩ := NZ (P := P) (w := w') sT (cs := cs) (off := f.offset) (by rw [uk]; omega)
     obtain ⟨vb, gO, tW, _⟩ := NZ (P := P) (w := w') sT (cs := ds) (off := f.offset) (by rw [uk]; omega)
     rw [uk] at lT tW
     have nT : (Op.equalIn (d + 2) f.type va vb).run P w' = .ok p w' := by
      rw [lT rm, tW rm, show d + 2 = (d + 1) + 1 from rfl, Go.run_equalIn_struct w' (d + 1) f.type _ _ (by rw [hf]; exact hu) uf, hf]
      refine RK (P := P) (h := h) (w := w) (T' := T') (ob := ob) d _ _ w' gs.toList 0 (xs.take gs.size) (ys.take gs.size) p ek ?_ ?_ ?_
      ·rw [Ph P _ _ _ _ (by simp)]; exact hp
      ·simpa [cut] using hx.take gs.size
      ·simpa [cut] using hy.take gs.size
     simp only [Op.eqFields, if_pos hn, Sem.run_bind, eo, gO, Result.andThen_ok, nT]
     cases p
     ·simp
     ·simpa using ih
    | _ => cases uW
theorem DA {T : TypeId} {T' : CS} {ob : Nat -> Nat -> Ob} {xs ys : List At} {u v : Value} {q : Bool} (uW : TA P T = true) (hq : Xv P (J3 P T) xs ys = some q)
  (hx : QI T' h ob w (.agg xs) u) (hy : QI T' h ob w (.agg ys) v) (op : BinOp) (x y : Operand) (w' : World) :
  (eqGuard op T x y u v).run P w' = .ok () w' /\ (binOp .eql T u v).run P w' = .ok (.bool q) w' /\ (binOp .neq T u v).run P w' = .ok (.bool (!q)) w' := by
 obtain ⟨cs, rfl, sY⟩ := hx
 obtain ⟨ds, rfl, oX⟩ := hy
 unfold TA at uW
 split at uW
 ·rename_i fs hu
  simp only [Bool.and_eq_true, Bool.not_eq_true'] at uW
  have hf : P.fieldsOf T = fs := by simp [Program.fieldsOf, hu]
  have sH : P.underlying T = some (.struct (P.fieldsOf T)) := by rw [hf]; exact hu
  have uT : (Op.equalIn 10000 T (.agg cs) (.agg ds)).run P w' = .ok q w' := by
   rw [show (10000 : Nat) = 9999 + 1 from rfl, Go.run_equalIn_struct w' 9999 T cs ds sH uW.1.1, show (9999 : Nat) = 9997 + 2 from rfl]
   exact T9 9997 cs ds w' _ 0 xs ys q (by rw [hf]; exact uW.2) hq (by simpa using sY) (by simpa using oX)
  refine ⟨Go.run_eqGuard_agg w' op T x y cs ds uW.1.2, ?_, ?_⟩
  ·rw [Go.run_eql_struct, uT]; rfl
  ·rw [Go.run_neq_struct, uT]; rfl
 ·cases uW
end
end Go.Vm
namespace Go.Vm
section
variable {P : Program} {T0 : CS} {B : Nat -> Prop} {σ : St} {a : Act} {w : World} {X : Nat -> Prop} {h : Nat -> Nat -> Hd}
theorem Nn (r : Rel T0 B σ a w X h) {o : Oper} {x : Operand} {v : V} (uA : o.op = .move x \/ o.op = .assign x) (hs : YJ P σ o.op o.type v) :
  ∃ val, (execOp a.eval o).run P w = .ok (.value val) w /\ QI (Tof T0 X) h σ.ob w v val := by
 rcases uA with uA | uA <;>
 ·simp only [uA, YJ] at hs
  subst hs
  exact ⟨a.eval x, by simp [execOp, uA], r.look _ x⟩
theorem Fs (r : Rel T0 B σ a w X h) {o : Oper} {c x y : Operand} {v : V} (uA : o.op = .pick c x y) (hs : YJ P σ o.op o.type v) :
  ∃ val, (execOp a.eval o).run P w = .ok (.value val) w /\ QI (Tof T0 X) h σ.ob w v val := by
 simp only [uA, YJ] at hs
 obtain ⟨bc, p, q, hg, hc, hp, hq, hG, ep, rfl⟩ := hs
 have he := xe (r.arg (P := P) o.type c hc hg)
 cases bc with
 | true =>
  have hx := xe (r.arg (P := P) o.type x (hp rfl) (hG rfl))
  exact ⟨.bool p, by simp [execOp, uA, he, asBool, hx], .bool _⟩
 | false =>
  have hy := xe (r.arg (P := P) o.type y (hq rfl) (ep rfl))
  exact ⟨.bool q, by simp [execOp, uA, he, asBool, hy], .bool _⟩
theorem xt (op : BinOp) (T : TypeId) (x y : Operand) {v u : Value} (hv : ∀ cs, v ≠ .agg cs) (hn : v ≠ .nilIface) : (eqGuard op T x y v u).run P w = .ok () w := by
 unfold eqGuard
 cases op <;> simp <;> (split <;> first | exact absurd rfl hn | exact absurd rfl (hv _) | simp)
theorem DF (r : Rel T0 B σ a w X h) {o : Oper} {op : BinOp} {T T' : TypeId} {x y : Operand} {v : V} (uA : o.op = .binOp op T x y T') (hs : YJ P σ o.op o.type v) :
  ∃ val, (execOp a.eval o).run P w = .ok (.value val) w /\ QI (Tof T0 X) h σ.ob w v val := by
 simp only [uA, YJ] at hs
 obtain ⟨r7, r8, hs⟩ := hs
 have hx := r.arg (P := P) T x rfl r7
 have hy := r.arg (P := P) T y rfl r8
 unfold Gf at hs
 split at hs
 ·rename_i k m k' n heq rM
  rw [heq] at hx; rw [rM] at hy
  have ex := W9 hx
  have ey := W9 hy
  obtain ⟨d, rfl, val, hr, hd⟩ := G9 (P := P) (t := T) hs.1 hs.2 w
  refine ⟨val, ?_, hd _ _⟩
  simp only [execOp, uA, ex, ey, Sem.run_bind, xt op T x y (v := .int k m) (u := .int k' n) (by simp) (by simp), Result.andThen_ok, hr, Sem.run_pure]
 ·rename_i m n heq rM
  rw [heq] at hx; rw [rM] at hy
  have ex := Ua hx
  have ey := Ua hy
  obtain ⟨d, rfl, val, hr, hd⟩ := Fu (P := P) (t := T) hs w
  refine ⟨val, ?_, hd _ _⟩
  simp only [execOp, uA, ex, ey, Sem.run_bind, xt op T x y (v := .string m) (u := .string n) (by simp) (by simp), Result.andThen_ok, hr, Sem.run_pure]
 ·rename_i m n heq rM
  rw [heq] at hx; rw [rM] at hy
  have ex := xe hx
  have ey := xe hy
  obtain ⟨d, rfl, val, hr, hd⟩ := HO (P := P) (t := T) hs.1 hs.2 w
  refine ⟨val, ?_, hd _ _⟩
  simp only [execOp, uA, ex, ey, Sem.run_bind, xt op T x y (v := .bool m) (u := .bool n) (by simp) (by simp), Result.andThen_ok, hr, Sem.run_pure]
 ·rename_i xs ys heq rM
  rw [heq] at hx; rw [rM] at hy
  obtain ⟨uW, q, hq, hs⟩ := hs
  obtain ⟨h1, h2, h3⟩ := DA (P := P) uW hq hx hy op x y w
  rcases hs with ⟨rfl, rfl⟩ | ⟨rfl, rfl⟩
  ·exact ⟨.bool q, by simp only [execOp, uA, Sem.run_bind, h1, Result.andThen_ok, h2, Sem.run_pure], .bool _⟩
  ·exact ⟨.bool (!q), by simp only [execOp, uA, Sem.run_bind, h1, Result.andThen_ok, h3, Sem.run_pure], .bool _⟩
 ·exact hs.elim
theorem Dm (r : Rel T0 B σ a w X h) {o : Oper} {op : UnOp} {T : TypeId} {x : Operand} {v : V} (uA : o.op = .unOp op T x) (hs : YJ P σ o.op o.type v) :
  ∃ val, (execOp a.eval o).run P w = .ok (.value val) w /\ QI (Tof T0 X) h σ.ob w v val := by
 simp only [uA, YJ] at hs
 obtain ⟨hg, hs⟩ := hs
 have hx := r.arg (P := P) 0 x rfl hg
 split at hs
 ·rename_i b heq
  rw [heq] at hx
  subst hs
  have he := xe hx
  exact ⟨.bool (!b), by simp [execOp, uA, he, Op.unary], .bool _⟩
 ·rename_i k n heq
  rw [heq] at hx
  subst hs
  have he := W9 hx
  exact ⟨.int k (k.wrap (-n)), by simp [execOp, uA, he, Op.unary, Op.intArith], .int _ _⟩
 ·exact hs.elim
theorem M5 (r : Rel T0 B σ a w X h) {o : Oper} {S T : TypeId} {x : Operand} {v : V} (uA : o.op = .convert S T x) (hS : (P.underlying S).isSome = true) (hs : YJ P σ o.op o.type v) :
  ∃ val, (execOp a.eval o).run P w = .ok (.value val) w /\ QI (Tof T0 X) h σ.ob w v val := by
 simp only [uA, YJ] at hs
 obtain ⟨hg, _, hs⟩ := hs
 have hx := r.arg (P := P) 0 x rfl hg
 split at hs
 ·rename_i k' n heq
  rw [heq] at hx
  obtain ⟨k, hk, rfl⟩ := hs
  have he := W9 hx
  obtain ⟨d, hd⟩ := Option.isSome_iff_exists.1 hS
  exact ⟨.int k (k.wrap n), by simp [execOp, uA, he, convert, run_underlying hd, run_underlying (NS hk), Conv.intToInt], .int _ _⟩
 ·exact hs.elim
theorem LP (r : Rel T0 B σ a w X h) {o : Oper} {x : Operand} {i : Nat} {v : V} (uA : o.op = .extract x i) (hs : YJ P σ o.op o.type v) :
  ∃ val, (execOp a.eval o).run P w = .ok (.value val) w /\ QI (Tof T0 X) h σ.ob w v val := by
 simp only [uA, YJ] at hs
 obtain ⟨hg, hs⟩ := hs
 have hx := r.arg (P := P) 0 x rfl hg
 split at hs
 ·rename_i xs heq
  rw [heq] at hx
  obtain ⟨vs, he, uF⟩ := hx
  obtain ⟨val, s3, hr⟩ := uF.get i v hs.1
  have : vs[i]? = some val := by simpa using s3
  exact ⟨val, by simp [execOp, uA, he, Instr.extract, this], hr.up⟩
 ·exact hs.elim
theorem Ha (r : Rel T0 B σ a w X h) {o : Oper} {c : Call} {v : V} (uA : o.op = .call c) (hs : YJ P σ o.op o.type v) :
  ∃ val, (execOp a.eval o).run P w = .ok (.value val) w /\ QI (Tof T0 X) h σ.ob w v val := by
 simp only [uA, YJ] at hs
 obtain ⟨callee, args, argTypes⟩ := c
 simp only at hs
 split at hs
 ·rename_i x t ha ht
  obtain rfl : args = #[x] := by apply Array.toList_inj.1; simpa using ha
  obtain rfl : argTypes = #[t] := by apply Array.toList_inj.1; simpa using ht
  obtain ⟨hg, hs⟩ := hs
  have hx := r.arg (P := P) t x rfl hg
  split at hs
  ·rename_i s heq
   rw [heq] at hx
   obtain ⟨uf, rfl⟩ := hs
   have he := Ua hx
   exact ⟨.int .i64 s.size, by simp [execOp, uA, resolve, invoke, builtin, he, Builtin.len_, run_underlying (y3 uf), goInt], .int _ _⟩
  ·rename_i size rows heq
   rw [heq] at hx
   obtain ⟨uf, rfl⟩ := hs
   obtain ⟨ti, hu, _, _⟩ := XS uf
   obtain ⟨base, cap, he, _, _⟩ := Fq (show Rd _ _ _ _ from hx)
   exact ⟨.int .i64 rows.length, by simp [execOp, uA, resolve, invoke, builtin, he, Builtin.len_, run_underlying hu, goInt], .int _ _⟩
  ·rename_i size heq
   rw [heq] at hx
   obtain ⟨uf, rfl⟩ := hs
   obtain ⟨ti, hu, _, _⟩ := XS uf
   have he : a.eval x = .slice none 0 0 := hx
   exact ⟨.int .i64 0, by simp [execOp, uA, resolve, invoke, builtin, he, Builtin.len_, run_underlying hu, goInt], .int _ _⟩
  ·rename_i u j lo len heq
   rw [heq] at hx
   obtain ⟨uf, ho, rfl⟩ := hs
   obtain ⟨ti, hu, _, _⟩ := XS uf
   have ot : ∃ base cap, a.eval x = .slice base len cap := by
    rcases ho with ⟨q, size, rows, ho⟩ | ⟨size, rows, ho⟩
    ·obtain ⟨_, _, _, base, cap, he, _, _, _, _⟩ := hx.2.1 _ _ _ ho
     exact ⟨base, cap, he⟩
    ·obtain ⟨_, _, _, base, cap, he, _, _, _, _⟩ := hx.2.2 _ _ ho
     exact ⟨base, cap, he⟩
   obtain ⟨base, cap, he⟩ := ot
   exact ⟨.int .i64 len, by simp [execOp, uA, resolve, invoke, builtin, he, Builtin.len_, run_underlying hu, goInt], .int _ _⟩
  ·rename_i u j i c heq
   rw [heq] at hx
   obtain ⟨uf, size, rows, n, s, ho, hi, uI, rfl⟩ := hs
   obtain ⟨ti, hu, _, _⟩ := XS uf
   obtain ⟨v0, S, hn, uG⟩ := r.nest ho hi uI
   have nw : a.eval x = _ := hx.2 _ _ ho
   rw [hn] at nw
   have he : ∃ base cap, a.eval x = .slice base s.length cap := by
    rw [nw]
    cases uG with
    | sl v size rows S e xs Sk sL hz hb hl hk hs hd =>
     rcases sL.2 with ⟨rfl, h0⟩ | ⟨g, cap, cur, rfl, _⟩
     ·exact ⟨none, 0, by rw [h0]⟩
     ·exact ⟨_, cap, rfl⟩
   obtain ⟨base, cap, he⟩ := he
   exact ⟨.int .i64 s.length, by simp [execOp, uA, resolve, invoke, builtin, he, Builtin.len_, run_underlying hu, goInt], .int _ _⟩
  ·exact hs.elim
 ·rename_i x y ha
  obtain rfl : args = #[x, y] := by apply Array.toList_inj.1; simpa using ha
  obtain ⟨k, m, n, hx, hy, rfl⟩ := hs
  have ex := zx r hx
  have ey := zx r hy
  exact ⟨.int k (if n > m then n else m), by simp [execOp, uA, resolve, invoke, builtin, ex, ey, Builtin.max_, Builtin.max2], .int _ _⟩
 ·rename_i x y ha
  obtain rfl : args = #[x, y] := by apply Array.toList_inj.1; simpa using ha
  obtain ⟨k, m, n, hx, hy, rfl⟩ := hs
  have ex := zx r hx
  have ey := zx r hy
  exact ⟨.int k (if n < m then n else m), by simp [execOp, uA, resolve, invoke, builtin, ex, ey, Builtin.min_, Builtin.min2], .int _ _⟩
 ·exact hs.elim
theorem PR (r : Rel T0 B σ a w X h) {o : Oper} {v : V} (hs : YJ P σ o.op o.type v) :
  ∃ val, (execOp a.eval o).run P w = .ok (.value val) w /\ QI (Tof T0 X) h σ.ob w v val := by
 cases uA : o.op with
 | move x => exact Nn r (.inl uA) hs
 | assign x => exact Nn r (.inr uA) hs
 | pick c x y => exact Fs r uA hs
 | load T x => exact FV r uA hs
 | fieldAddr T x f => exact Pt r uA hs
 | nilCheck x => exact Na r uA hs
 | indexAddr T x i => exact OR r uA hs
 | index T x i => exact Hl r uA hs
 | field T x f => exact Gc r uA hs
 | slice T x lo hi m =>
  cases m with
  | none => exact GZ r uA hs
  | some m => rw [uA] at hs; exact hs.elim
 | binOp op T x y T' => exact DF r uA hs
 | unOp op T x => exact Dm r uA hs
 | convert S T x => rw [uA] at hs; exact M5 r uA hs.2.1 (by rw [uA]; exact hs)
 | extract x i => exact LP r uA hs
 | call c => exact Ha r uA hs
 | build T ps => exact Hj r uA hs
 | _ => rw [uA] at hs; exact hs.elim
end
end Go.Vm
namespace Go.Vm
def At.ref (d : Nat) : At -> Bool
 | .sref t _ _ _ => t == d
 | .ptr t _ _ _ => t == d
 | .bptr t _ => t == d
 | .fn _ t => t == d
 | .tref t _ _ _ _ => t == d
 | _ => false
def YF (d : Nat) : List At -> Bool
 | [] => false
 | x :: xs => x.ref d || YF d xs
def V.SQ (d : Nat) : V -> Bool
 | .one x => x.ref d
 | .agg xs => YF d xs
 | _ => false
def WS (d : Nat) : List V -> Bool
 | [] => false
 | x :: xs => x.SQ d || WS d xs
def V.ref (d : Nat) : V -> Bool
 | .tup xs => WS d xs
 | .cnd _ x => x.SQ d || (match x with | .tup xs => WS d xs | _ => false)
 | .one x => x.ref d
 | .agg xs => YF d xs
 | .fix _ x => x.SQ d || (match x with | .tup xs => WS d xs | _ => false)
 | .any => false
def Yh (d : Nat) : List Ob -> Bool
 | [] => false
 | .box cells :: os => YF d cells || Yh d os
 | .lit _ rows :: os => YF d rows.flatten || Yh d os
 | _ :: os => Yh d os
def Km (d : Nat) : Nat -> St -> Bool
 | _, [] => true
 | k, e :: σ => (k == d || (!e.1.ref d && !Yh d e.2)) && Km d (k + 1) σ
def St.fresh (σ : St) (d : Nat) : Bool := decide (d < σ.length) && Km d 0 σ
theorem zP {d : Nat} : ∀ {σ : St} {k : Nat}, Km d k σ = true -> ∀ t e, σ[t]? = some e -> k + t ≠ d -> e.1.ref d = false /\ Yh d e.2 = false
 | [], _, _, t, e, he, _ => by simp at he
 | e0 :: σ, k, hf, t, e, he, uD => by
  simp only [Km, Bool.and_eq_true, Bool.or_eq_true, beq_iff_eq, Bool.not_eq_true'] at hf
  cases t with
  | zero =>
   simp at he; subst he
   rcases hf.1 with h | h
   ·omega
   ·exact h
  | succ t => exact zP hf.2 t e (by simpa using he) (by omega)
theorem St.EW {σ : St} {d : Nat} (hf : σ.fresh d = true) (t : Nat) (uD : t ≠ d) : (σ.get t).ref d = false := by
 simp only [St.fresh, Bool.and_eq_true] at hf
 unfold St.get
 cases he : σ[t]? with
 | none => rfl
 | some e => exact (zP hf.2 t e he (by omega)).1
theorem Lo {d : Nat} : ∀ {os : List Ob}, Yh d os = false -> ∀ j cells, YS os j = .box cells -> YF d cells = false
 | [], _, j, cells, h => by simp [YS] at h
 | o :: os, hr, j, cells, h => by
  cases j with
  | zero =>
   simp [YS] at h; subst h
   simp [Yh] at hr; exact hr.1
  | succ j =>
   have : YS os j = .box cells := by simpa [YS] using h
   refine Lo (os := os) ?_ j cells this
   cases o <;> simp_all [Yh]
theorem O7 {d : Nat} : ∀ {os : List Ob}, Yh d os = false -> ∀ j size rows, YS os j = .lit size rows -> YF d rows.flatten = false
 | [], _, j, _, _, h => by simp [YS] at h
 | o :: os, hr, j, size, rows, h => by
  cases j with
  | zero =>
   simp [YS] at h; subst h
   simp [Yh] at hr; exact hr.1
  | succ j =>
   have : YS os j = .lit size rows := by simpa [YS] using h
   refine O7 (os := os) ?_ j size rows this
   cases o <;> simp_all [Yh]
theorem St.DL {σ : St} {d : Nat} (hf : σ.fresh d = true) (t j : Nat) (uD : t ≠ d) (size : Nat) (rows : List (List At)) (ho : σ.ob t j = .lit size rows) : YF d rows.flatten = false := by
 simp only [St.fresh, Bool.and_eq_true] at hf
 unfold St.ob at ho
 cases he : σ[t]? with
 | none => rw [he] at ho; cases ho
 | some e => rw [he] at ho; exact O7 (zP hf.2 t e he (by omega)).2 j size rows ho
theorem St.CN {σ : St} {d : Nat} (hf : σ.fresh d = true) (t j : Nat) (uD : t ≠ d) (cells : List At) (ho : σ.ob t j = .box cells) : YF d cells = false := by
 simp only [St.fresh, Bool.and_eq_true] at hf
 unfold St.ob at ho
 cases he : σ[t]? with
 | none => rw [he] at ho; cases ho
 | some e => rw [he] at ho; exact Lo (zP hf.2 t e he (by omega)).2 j cells ho
theorem St.KJ {σ : St} {d : Nat} (hf : σ.fresh d = true) : d < σ.length := by
 simp only [St.fresh, Bool.and_eq_true, decide_eq_true_eq] at hf; exact hf.1
def Cpt (h h' : Nat -> Nat -> Hd) (ob sB : Nat -> Nat -> Ob) (t j : Nat) : Prop :=
 (∀ q size rows, sB t j = .arr q size rows -> h' t j = h t j /\ ∃ uP, ob t j = .arr q size uP /\ uP.length = rows.length) /\
 (∀ size rows, sB t j = .lit size rows -> h' t j = h t j /\ ∃ uP, ob t j = .lit size uP /\ uP.length = rows.length) /\
 (∀ cells, sB t j = .box cells -> h' t j = h t j /\ ∃ tV, ob t j = .box tV)
theorem Cpt.same {h h' : Nat -> Nat -> Hd} {ob sB : Nat -> Nat -> Ob} {t j : Nat} (hh : h' t j = h t j) (ho : sB t j = ob t j) : Cpt h h' ob sB t j :=
 ⟨fun q size rows e => ⟨hh, rows, by rw [<- ho]; exact e, rfl⟩, fun size rows e => ⟨hh, rows, by rw [<- ho]; exact e, rfl⟩, fun cells e => ⟨hh, cells, by rw [<- ho]; exact e⟩⟩
section
variable {T T' : CS} {h h' : Nat -> Nat -> Hd} {ob sB : Nat -> Nat -> Ob} {w w' : World} {d : Nat}
theorem YD.carry (hT : ∀ b k v, T b k -> w.cell? ⟨b, k, none⟩ = some v -> w'.cell? ⟨b, k, none⟩ = some v /\ T' b k) (hc : ∀ t j, t ≠ d -> Cpt h h' ob sB t j)
  {x : At} {v : Value} (hx : x.ref d = false) (r : YD T h ob w x v) : YD T' h' sB w' x v := by
 cases x with
 | any => exact r
 | d x => exact Rd.mono hT r
 | nil s => exact r
 | sref t j lo len =>
  have ht : t ≠ d := by simpa [At.ref] using hx
  refine ⟨r.1, fun q size rows ho => ?_, fun size rows ho => ?_⟩
  ·obtain ⟨hh, uP, tK, hl⟩ := (hc t j ht).1 q size rows ho
   rw [hh, <- hl]; exact r.2.1 q size uP tK
  ·obtain ⟨hh, uP, tK, hl⟩ := (hc t j ht).2.1 size rows ho
   rw [hh, <- hl]; exact r.2.2 size uP tK
 | ptr t j i c =>
  have ht : t ≠ d := by simpa [At.ref] using hx
  refine ⟨r.1, fun q size rows ho => ?_⟩
  obtain ⟨hh, uP, tK, hl⟩ := (hc t j ht).1 q size rows ho
  rw [hh]; exact r.2 q size uP tK
 | bptr t c =>
  have ht : t ≠ d := by simpa [At.ref] using hx
  refine ⟨r.1, fun cells ho => ?_⟩
  obtain ⟨hh, tV, tK⟩ := (hc t 0 ht).2.2 cells ho
  rw [hh]; exact r.2 tV tK
 | fn f t =>
  have ht : t ≠ d := by simpa [At.ref] using hx
  refine ⟨r.1, fun cells ho => ?_⟩
  obtain ⟨hh, tV, tK⟩ := (hc t 0 ht).2.2 cells ho
  rw [hh]; exact r.2 tV tK
 | tref t j i c o =>
  have ht : t ≠ d := by simpa [At.ref] using hx
  refine ⟨r.1, fun size rows ho => ?_⟩
  obtain ⟨hh, uP, tK, hl⟩ := (hc t j ht).1 true size rows ho
  rw [hh]; exact r.2 size uP tK
 | rptr rr c =>
  obtain ⟨b, off, g, e, hk⟩ := r
  exact ⟨b, off, g, e, fun k d hd => ⟨(hT _ _ _ (hk k d hd).2.1 (hk k d hd).1).1, (hT _ _ _ (hk k d hd).2.1 (hk k d hd).1).2, Rd.mono hT (hk k d hd).2.2⟩⟩
theorem ja (hT : ∀ b k v, T b k -> w.cell? ⟨b, k, none⟩ = some v -> w'.cell? ⟨b, k, none⟩ = some v /\ T' b k) (hc : ∀ t j, t ≠ d -> Cpt h h' ob sB t j)
  {xs : List At} {vs : List Value} (hx : YF d xs = false) (r : Zy (YD T h ob w) xs vs) : Zy (YD T' h' sB w') xs vs := by
 induction r with
 | nil => exact .nil
 | cons r _ ih =>
  simp only [YF, Bool.or_eq_false_iff] at hx
  exact .cons (YD.carry hT hc hx.1 r) (ih hx.2)
theorem Jh.carry (hT : ∀ b k v, T b k -> w.cell? ⟨b, k, none⟩ = some v -> w'.cell? ⟨b, k, none⟩ = some v /\ T' b k) (hc : ∀ t j, t ≠ d -> Cpt h h' ob sB t j)
  {x : V} {v : Value} (hx : x.SQ d = false) (r : Jh T h ob w x v) : Jh T' h' sB w' x v := by
 cases x with
 | any => exact r
 | one x => exact YD.carry hT hc hx r
 | agg xs => obtain ⟨cs, e, r⟩ := r; exact ⟨cs, e, ja hT hc hx r⟩
 | tup xs => exact r.elim
 | cnd g x => exact r.elim
 | fix u x => exact r.elim
theorem QI.carry (hT : ∀ b k v, T b k -> w.cell? ⟨b, k, none⟩ = some v -> w'.cell? ⟨b, k, none⟩ = some v /\ T' b k) (hc : ∀ t j, t ≠ d -> Cpt h h' ob sB t j)
  {x : V} {v : Value} (hx : x.ref d = false) (r : QI T h ob w x v) : QI T' h' sB w' x v := by
 cases x with
 | any => exact r
 | one x => exact YD.carry hT hc hx r
 | agg xs => obtain ⟨cs, e, r⟩ := r; exact ⟨cs, e, ja hT hc hx r⟩
 | tup xs =>
  obtain ⟨vs, e, r⟩ := r
  refine ⟨vs, e, ?_⟩
  clear e
  generalize vs.toList = vl at r
  simp only [V.ref] at hx
  induction r with
  | nil => exact .nil
  | cons r _ ih =>
   simp only [WS, Bool.or_eq_false_iff] at hx
   exact .cons (Jh.carry hT hc hx.1 r) (ih hx.2)
 | cnd g x =>
  simp only [V.ref, Bool.or_eq_false_iff] at hx
  exact ⟨fun hg => Jh.carry hT hc hx.1 (r.1 hg), r.2⟩
 | fix u x =>
  simp only [V.ref, Bool.or_eq_false_iff] at hx
  exact ⟨r.1, Jh.carry hT hc hx.1 r.2⟩
end
section
variable {P : Program} {T0 : CS} {B : Nat -> Prop} {σ : St} {a : Act} {w w' : World} {X X' : Nat -> Prop} {h : Nat -> Nat -> Hd}
theorem Rel.Tlt (r : Rel T0 B σ a w X h) {b k : Nat} (hb : Tof T0 X b k) : b < w.heap.size := by
 rcases hb with hb | hb
 ·exact r.hB b (r.hT b k hb)
 ·exact (r.hX b hb).2
theorem xE {e : TypeId} {size n : Nat} {v : Value} {xs : List Value} (hb : ∀ b, blk v = some b -> w'.heap[b]? = w.heap[b]?) (ho : w.ownsRow 0 e size v n xs) : w'.ownsRow 0 e size v n xs := by
 refine ⟨ho.1, ?_⟩
 rcases ho.2 with hn | ⟨g, cap, cur, rfl, h0, hg, rest⟩
 ·exact .inl hn
 ·exact .inr ⟨g, cap, cur, rfl, h0, by rw [hb g rfl]; exact hg, rest⟩
theorem Own.SF {v : Value} {d : D} {S : Nat -> Prop} (hb : ∀ b, S b -> w'.heap[b]? = w.heap[b]?) (ho : Own w v d S) : Own w' v d S := by
 induction ho with
 | int k n S => exact .int k n S
 | bool b S => exact .bool b S
 | str s S => exact .str s S
 | unk v h S => exact .unk v h S
 | sl v size rows S e xs Sk ho hz uS hl hk hs hd ih =>
  exact .sl v size rows S e xs Sk (xE (fun b h => hb b (uS b h)) ho) hz uS hl (fun k x d hx uM => ih k x d hx uM (fun b h => hb b (hs k b h).1)) hs hd
theorem Own.mono {v : Value} {d : D} {S S' : Nat -> Prop} (hS : ∀ b, S b -> S' b) (ho : Own w v d S) : Own w v d S' := by
 cases ho with
 | int k n S => exact .int k n S'
 | bool b S => exact .bool b S'
 | str s S => exact .str s S'
 | unk v h S => exact .unk v h S'
 | sl v size rows S e xs Sk ho hz uS hl hk hs hd => exact .sl v size rows S' e xs Sk ho hz (fun b h => hS b (uS b h)) hl hk (fun k b h => ⟨hS b (hs k b h).1, (hs k b h).2⟩) hd
theorem JG.SF {xs : List Value} {ds : List D} {S : Nat -> Prop} (hb : ∀ b, S b -> w'.heap[b]? = w.heap[b]?) (ho : JG w xs ds S) : JG w' xs ds S := by
 obtain ⟨hl, Sk, h1, h2, h3⟩ := ho
 exact ⟨hl, Sk, fun k x d hx hd => (h1 k x d hx hd).SF (fun b h => hb b (h2 k b h)), h2, h3⟩
theorem JA.SF {T T' : CS} {h h' : Nat -> Nat -> Hd} {ob sB : Nat -> Nat -> Ob} {d : Nat} {hd : Hd} {o : Ob}
  (hT : ∀ b k v, T b k -> w.cell? ⟨b, k, none⟩ = some v -> w'.cell? ⟨b, k, none⟩ = some v /\ T' b k) (hc : ∀ t j, t ≠ d -> Cpt h h' ob sB t j)
  (tY : o ≠ .none -> ∀ b, blk hd.v = some b -> hd.u b) (hb : o ≠ .none -> ∀ b, hd.u b -> w'.heap[b]? = w.heap[b]?) (hr : Yh d [o] = false) (r : JA T h ob w hd o) : JA T' h' sB w' hd o := by
 cases o with
 | none => trivial
 | box cells =>
  obtain ⟨b, cs, e, hv, hh, uF⟩ := r
  simp only [Yh, Bool.or_false] at hr
  exact ⟨b, cs, e, hv, by rw [hb (by simp) b (tY (by simp) b (by rw [hv]; rfl))]; exact hh, ja hT hc hr uF⟩
 | arr q size rows =>
  have hk : ∀ {e : TypeId} {n : Nat} {xs : List Value}, w.ownsRow 0 e size hd.v n xs -> w'.ownsRow 0 e size hd.v n xs := fun ho => xE (fun b h => hb (by simp) b (tY (by simp) b h)) ho
  cases q with
  | false =>
   obtain ⟨e, xs, ho, hz, uF⟩ := r
   exact ⟨e, xs, hk ho, hz, uF.imp fun _ _ => Rd.mono hT⟩
  | true =>
   obtain ⟨e, xs, ho, hz, uF, hn⟩ := r
   exact ⟨e, xs, hk ho, hz, uF.SF (fun b h => hb (by simp) b h.1), hn⟩
 | lit size rows =>
  obtain ⟨e, xs, ho, hz, uF⟩ := r
  simp only [Yh, Bool.or_false] at hr
  exact ⟨e, xs, xE (fun b h => hb (by simp) b (tY (by simp) b h)) ho, hz, ja hT hc hr uF⟩
theorem St.Es {σ : St} {d : Nat} (hf : σ.fresh d = true) (t j : Nat) (uD : t ≠ d) : Yh d [σ.ob t j] = false := by
 cases ho : σ.ob t j with
 | none => rfl
 | box cells => simp [Yh, St.CN hf t j uD cells ho]
 | arr q size rows => rfl
 | lit size rows => simp only [Yh, St.DL hf t j uD size rows ho, Bool.or_false]
theorem Rel.Ey (r : Rel T0 B σ a w X h) {d : Nat} (hf : σ.fresh d = true) (M : Nat -> Prop) (tG : w.heap.size <= w'.heap.size) (hg : ∀ k, k < w.heap.size -> ¬ M k -> w'.heap[k]? = w.heap[k]?)
  (hm : ∀ b, M b -> ¬ B b /\ ¬ X b /\ ∀ t j, t ≠ d -> σ.ob t j ≠ .none -> ¬ (h t j).u b) (hX : ∀ b, X b -> X' b) (oV : ∀ b, X' b -> X b \/ (w.heap.size <= b /\ b < w'.heap.size))
  (v : V) (val : Value) (os : List Ob) (hd : Nat -> Hd)
  (hv : QI (Tof T0 X') (fun t j => if t = d then hd j else h t j) (σ.new d v os).ob w' v val)
  (lQ : ∀ j, JA (Tof T0 X') (fun t j => if t = d then hd j else h t j) (σ.new d v os).ob w' (hd j) (YS os j))
  (tY : ∀ j b, YS os j ≠ .none -> blk (hd j).v = some b -> (hd j).u b)
  (uG : ∀ j b, YS os j ≠ .none -> (hd j).u b -> (w.heap.size <= b \/ M b) /\ ¬ X' b /\ b < w'.heap.size)
  (og : ∀ j j' b, YS os j ≠ .none -> YS os j' ≠ .none -> (hd j).u b -> (hd j').u b -> j = j') :
  Rel T0 B (σ.new d v os) (a.put (some d) val) w' X' (fun t j => if t = d then hd j else h t j) := by
 have uL := St.KJ hf
 have ev : ∀ b k, Tof T0 X b k -> ¬ M b := by
  intro b k hb hE
  rcases hb with hb | hb
  ·exact (hm b hE).1 (r.hT b k hb)
  ·exact (hm b hE).2.1 hb
 have hT : ∀ b k v, Tof T0 X b k -> w.cell? ⟨b, k, none⟩ = some v -> w'.cell? ⟨b, k, none⟩ = some v /\ Tof T0 X' b k := by
  intro b k v hb uI
  refine ⟨?_, hb.imp id (hX b)⟩
  rw [World.cell?_of_block (hg b (r.Tlt hb) (ev b k hb))]; exact uI
 have hc : ∀ t j, t ≠ d -> Cpt h (fun t j => if t = d then hd j else h t j) σ.ob (σ.new d v os).ob t j := by
  intro t j uD
  have he : (σ.new d v os).ob t j = σ.ob t j := by rw [St.Qu, if_neg (fun hh => uD hh.1)]
  exact Cpt.same (by simp [uD]) he
 refine ⟨by simp [Act.put, r.size, St.jy], r.defers, fun b hb => Nat.lt_of_lt_of_le (r.hB b hb) tG, fun b hb => ?_, r.hT, fun t ht => ?_, fun t j => ?_, fun t j b ho hb => ?_, fun t j b ho hb => ?_, fun t j t' j' b ho uV hb uS => ?_⟩
 ·rcases oV b hb with hb | hb
  ·have := r.hX b hb; exact ⟨this.1, by omega⟩
  ·exact ⟨fun rJ => by have := r.hB b rJ; omega, hb.2⟩
 ·rw [St.jy] at ht
  rw [St.ko]
  by_cases uM : t = d
  ·subst uM
   simp only [uL, and_self, if_true]
   have : (a.tmps.setIfInBounds t val).getD t undef = val := by simp [r.size, uL]
   simp only [Act.put, this]; exact hv
  ·rw [if_neg (fun hh => uM hh.1)]
   have : (a.tmps.setIfInBounds d val).getD t undef = a.tmps.getD t undef := by simp [Array.getElem?_setIfInBounds_ne (Ne.symm uM)]
   simp only [Act.put, this]
   exact QI.carry hT hc (St.EW hf t uM) (r.slot t ht)
 ·rw [St.Qu]
  by_cases uM : t = d
  ·subst uM
   simp only [uL, and_self, if_true]; exact lQ j
  ·have uD : ¬ (t = d /\ d < σ.length) := fun hh => uM hh.1
   rw [if_neg uD]
   simp only [if_neg uM]
   exact JA.SF hT hc (fun ho b => r.ub t j b ho) (fun ho b hu => hg b (r.own t j b ho hu).2.2 (fun hE => (hm b hE).2.2 t j uM ho hu)) (St.Es hf t j uM) (r.obj t j)
 ·rw [St.Qu] at ho
  by_cases uM : t = d
  ·subst uM
   simp only [uL, and_self, if_true] at ho hb ⊢
   exact tY j b ho hb
  ·rw [if_neg (fun hh => uM hh.1)] at ho
   simp only [uM, if_false] at hb ⊢
   exact r.ub t j b ho hb
 ·rw [St.Qu] at ho
  by_cases uM : t = d
  ·subst uM
   simp only [uL, and_self, if_true] at ho hb
   have h1 := uG j b ho hb
   refine ⟨?_, h1.2.1, h1.2.2⟩
   rcases h1.1 with h2 | h2
   ·exact fun rJ => by have := r.hB b rJ; omega
   ·exact (hm b h2).1
  ·rw [if_neg (fun hh => uM hh.1)] at ho
   simp only [uM, if_false] at hb
   have := r.own t j b ho hb
   refine ⟨this.1, fun hx => ?_, by omega⟩
   rcases oV b hx with hx | hx
   ·exact this.2.1 hx
   ·omega
 ·rw [St.Qu] at ho uV
  by_cases hd1 : t = d
  ·by_cases pa : t' = d
   ·subst hd1; subst pa
    simp only [uL, and_self, if_true] at ho hb uV uS
    exact ⟨rfl, og j j' b ho uV hb uS⟩
   ·subst hd1
    simp only [uL, and_self, if_true] at ho hb
    rw [if_neg (fun hh => pa hh.1)] at uV
    simp only [pa, if_false] at uS
    have h1 := uG j b ho hb
    have h2 := r.own t' j' b uV uS
    rcases h1.1 with h3 | h3
    ·omega
    ·exact absurd uS ((hm b h3).2.2 t' j' pa uV)
  ·by_cases pa : t' = d
   ·subst pa
    simp only [uL, and_self, if_true] at uV uS
    rw [if_neg (fun hh => hd1 hh.1)] at ho
    simp only [hd1, if_false] at hb
    have h1 := uG j' b uV uS
    have h2 := r.own t j b ho hb
    rcases h1.1 with h3 | h3
    ·omega
    ·exact absurd hb ((hm b h3).2.2 t j hd1 ho)
   ·rw [if_neg (fun hh => hd1 hh.1)] at ho
    rw [if_neg (fun hh => pa hh.1)] at uV
    simp only [hd1, pa, if_false] at hb uS
    exact r.inj t j t' j' b ho uV hb uS
theorem Rel.new (r : Rel T0 B σ a w X h) {d : Nat} (hf : σ.fresh d = true) (hg : w.grownBy w' none) (hX : ∀ b, X b -> X' b) (oV : ∀ b, X' b -> X b \/ (w.heap.size <= b /\ b < w'.heap.size))
  (v : V) (val : Value) (os : List Ob) (hd : Nat -> Hd)
  (hv : QI (Tof T0 X') (fun t j => if t = d then hd j else h t j) (σ.new d v os).ob w' v val)
  (lQ : ∀ j, JA (Tof T0 X') (fun t j => if t = d then hd j else h t j) (σ.new d v os).ob w' (hd j) (YS os j))
  (tY : ∀ j b, YS os j ≠ .none -> blk (hd j).v = some b -> (hd j).u b)
  (uG : ∀ j b, YS os j ≠ .none -> (hd j).u b -> w.heap.size <= b /\ ¬ X' b /\ b < w'.heap.size)
  (og : ∀ j j' b, YS os j ≠ .none -> YS os j' ≠ .none -> (hd j).u b -> (hd j').u b -> j = j') :
  Rel T0 B (σ.new d v os) (a.put (some d) val) w' X' (fun t j => if t = d then hd j else h t j) :=
 r.Ey hf (fun _ => False) hg.size (fun k hk _ => hg.block k hk (by simp)) (fun _ hh => hh.elim) hX oV v val os hd hv lQ tY (fun j b h1 h2 => ⟨.inl (uG j b h1 h2).1, (uG j b h1 h2).2⟩) og
end
end Go.Vm
namespace Go.Vm
open Go.RowKit
def Ku (v : Value) (cs : List Value) : Prop := (∃ c, cs = [c] /\ v = c /\ c.oneCell' = true) \/ (cs.length ≠ 1 /\ v = .agg cs.toArray)
def V4 : List Value -> Value
 | [v] => v
 | vs => .tuple vs.toArray
def Qr (T : CS) (w : World) (v : Value) : D -> Prop
 | .sl size rows => ∃ e xs, w.ownsRow 0 e size v rows.length xs /\ (∀ r ∈ rows, r.length = size) /\ Zy (Rd T w) xs rows.flatten
 | d => Rd T w v d
def yO (own : Bool) (T : CS) (w : World) (v : Value) (d : D) : Prop := if own then Qr T w v d else Rd T w v d
def U5 (P : Program) (f : FuncId) : Bool :=
 match P.funcs[f]? with
 | some fn => fn.body.isSome && fn.name != "runtime.NumGoroutine"
 | none => false
def wA (B N : Nat) (Y : Nat -> Prop) (cs : List Value) (ds : List D) : Prop :=
 (∀ (i : Nat) (c : Value) (d : D) (b : Nat), cs[i]? = some c -> ds[i]? = some d -> d.scalar = false -> blk c = some b -> B <= b /\ b < N /\ ¬ Y b) /\
 (∀ (i j : Nat) (c c' : Value) (d d' : D) (b : Nat), cs[i]? = some c -> ds[i]? = some d -> cs[j]? = some c' -> ds[j]? = some d' -> d.scalar = false -> d'.scalar = false -> blk c = some b -> blk c' = some b -> i = j)
def wI (own : Bool) (T : CS) (w : World) (res : List (List D)) (e : Ending) (w' : World) : Prop :=
 ∃ (vs : List Value) (uj : List (List Value)) (Y : Nat -> Prop), e = .returned (V4 vs) /\ Below w.heap.size w w' /\ (∀ b, Y b -> w.heap.size <= b /\ b < w'.heap.size) /\
  Zy Ku vs uj /\ Zy (fun cs row => Zy (yO own (Tof T Y) w') cs row) uj res /\ (own = true -> wA w.heap.size w'.heap.size Y uj.flatten res.flatten)
def QB (P : Program) (f : FuncId) (own : Bool) (args res : List (List D)) : Prop :=
 U5 P f = true /\ ∀ (T : CS) (w : World) (uu : List Value), (∀ b k, T b k -> b < w.heap.size) -> Zy (fun v row => ∃ cs, Ku v cs /\ Zy (Rd T w) cs row) uu args ->
  Calls P f uu.toArray w (wI own T w res)
def vOf : List At -> V
 | [x] => .one x
 | xs => .agg xs
def kJ (t : Nat) : Nat -> List D -> List At
 | _, [] => []
 | k, .sl _ rows :: ds => .sref t k 0 rows.length :: kJ t (k + 1) ds
 | k, d :: ds => .d d :: kJ t (k + 1) ds
def zW : List D -> List Ob
 | [] => []
 | .sl size rows :: ds => .arr false size rows :: zW ds
 | _ :: ds => .none :: zW ds
def Lf (t : Nat) : Nat -> List (List D) -> List V
 | _, [] => []
 | k, r :: rs => vOf (kJ t k r) :: Lf t (k + r.length) rs
def xL (t : Nat) : List (List D) -> V
 | [r] => vOf (kJ t 0 r)
 | rs => .tup (Lf t 0 rs)
def ye : List (List D) -> V
 | [r] => vOf (r.map .d)
 | rs => .tup (rs.map fun r => vOf (r.map .d))
def Kc (σ : St) : At -> Option D
 | .d x => some x
 | .nil s => some (.sl s [])
 | .sref t j lo len => (match σ.ob t j with | .arr _ size rows => some (.sl size (cut rows lo len)) | _ => none)
 | _ => none
def rowOf (σ : St) : List At -> Option (List D)
 | [] => some []
 | x :: xs => (match Kc σ x, rowOf σ xs with | some d, some ds => some (d :: ds) | _, _ => none)
def V.Jm (σ : St) : V -> Option (List D)
 | .one x => rowOf σ [x]
 | .agg [_] => none
 | .agg xs => rowOf σ xs
 | _ => none
def QC (P : Program) (σ : St) : List Operand -> List TypeId -> List (List D) -> Prop
 | [], _, rs => rs = []
 | x :: xs, t :: ts, rs => gOf (look P σ t x) = true /\ ∃ r rest, (unc (look P σ t x)).Jm σ = some r /\ QC P σ xs ts rest /\ rs = r :: rest
 | _ :: _, [], _ => False
def At.II : At -> Bool
 | .sref _ _ _ _ => false
 | .tref _ _ _ _ _ => false
 | _ => true
def Jw : List At -> Bool
 | [] => true
 | x :: xs => x.II && Jw xs
def YM (P : Program) (σ : St) : List Operand -> List TypeId -> Bool
 | x :: xs, t :: ts => Jw (unc (look P σ t x)).cells && YM P σ xs ts
 | _, _ => true
section
variable {P : Program} {T0 : CS} {B : Nat -> Prop} {σ : St} {a : Act} {w w' : World} {X X' : Nat -> Prop} {h : Nat -> Nat -> Hd}
theorem Rel.grow (r : Rel T0 B σ a w X h) (hg : w.grownBy w' none) (hX : ∀ b, X b -> X' b) (oV : ∀ b, X' b -> X b \/ (w.heap.size <= b /\ b < w'.heap.size)) : Rel T0 B σ a w' X' h := by
 have hT : ∀ b k v, Tof T0 X b k -> w.cell? ⟨b, k, none⟩ = some v -> w'.cell? ⟨b, k, none⟩ = some v /\ Tof T0 X' b k := by
  intro b k v hb uI
  refine ⟨?_, hb.imp id (hX b)⟩
  rw [World.cell?_of_block (hg.block b (r.Tlt hb) (by simp))]; exact uI
 have hB : w.heap.size <= w'.heap.size := hg.size
 refine ⟨r.size, r.defers, fun b hb => Nat.lt_of_lt_of_le (r.hB b hb) hB, fun b hb => ?_, r.hT, fun t ht => QI.mono hT (r.slot t ht), fun t j => ?_, r.ub, fun t j b ho hb => ?_, r.inj⟩
 ·rcases oV b hb with hb | hb
  ·have := r.hX b hb; exact ⟨this.1, by omega⟩
  ·exact ⟨fun rJ => by have := r.hB b rJ; omega, hb.2⟩
 ·have h0 := r.obj t j
  have hk : σ.ob t j ≠ .none -> ∀ b, (h t j).u b -> w'.heap[b]? = w.heap[b]? := fun ho b hu => hg.block b (r.own t j b ho hu).2.2 (by simp)
  have uX := r.ub t j
  cases ho : σ.ob t j with
  | none => trivial
  | box cells =>
   rw [ho] at h0 hk uX
   obtain ⟨b, cs, e, hv, hh, uF⟩ := h0
   exact ⟨b, cs, e, hv, by rw [hk (by simp) b (uX b (by simp) (by rw [hv]; rfl))]; exact hh, uF.imp fun _ _ => YD.mono hT⟩
  | arr q size rows =>
   rw [ho] at h0 hk uX
   cases q with
   | false =>
    obtain ⟨e, xs, rG, hz, uF⟩ := h0
    exact ⟨e, xs, xE (fun b hb => hk (by simp) b (uX b (by simp) hb)) rG, hz, uF.imp fun _ _ => Rd.mono hT⟩
   | true =>
    obtain ⟨e, xs, rG, hz, uF, hn⟩ := h0
    exact ⟨e, xs, xE (fun b hb => hk (by simp) b (uX b (by simp) hb)) rG, hz, uF.SF (fun b hb => hk (by simp) b hb.1), hn⟩
  | lit size rows =>
   rw [ho] at h0 hk uX
   obtain ⟨e, xs, rG, hz, uF⟩ := h0
   exact ⟨e, xs, xE (fun b hb => hk (by simp) b (uX b (by simp) hb)) rG, hz, uF.imp fun _ _ => YD.mono hT⟩
 ·have := r.own t j b ho hb
  refine ⟨this.1, fun hx => ?_, by omega⟩
  rcases oV b hx with hx | hx
  ·exact this.2.1 hx
  ·omega
def T4 (T0 : CS) (X : Nat -> Prop) (h : Nat -> Nat -> Hd) (σ : St) : CS := fun b k => Tof T0 X b k \/ ∃ t j q size rows, σ.ob t j = .arr q size rows /\ (h t j).u b
theorem Rel.IE (r : Rel T0 B σ a w X h) {b k : Nat} (hb : T4 T0 X h σ b k) : b < w.heap.size := by
 rcases hb with hb | ⟨t, j, q, size, rows, ho, hb⟩
 ·exact r.Tlt hb
 ·exact (r.own t j b (by rw [ho]; simp) hb).2.2
theorem EF {T : CS} {w : World} {e : TypeId} {size : Nat} {v : Value} {rows : List (List D)} {xs : List Value} (ho : w.ownsRow 0 e size v rows.length xs) (hz : ∀ r ∈ rows, r.length = size) (hT : ∀ b k, blk v = some b -> T b k)
  (uF : Zy (Rd T w) xs rows.flatten) : Rd T w v (.sl size rows) := by
 rcases ho.2 with ⟨rfl, hn⟩ | ⟨g, cap, cur, rfl, _, hh, tk, sM, sY, se⟩
 ·have : rows = [] := List.eq_nil_of_length_eq_zero hn
  subst this; exact .nil _
 ·refine .sl ⟨g, 0, none⟩ _ cap size rows (fun k => (xs[k]?).getD undef) rfl tk sM hz (fun _ => rfl) (fun k d hd => ?_) (fun k d hd => ?_)
  ·obtain ⟨u, hu, _⟩ := uF.get' k d hd
   have uL : k < rows.length * size := by
    have := (List.getElem?_eq_some_iff.1 hd).1
    rw [YA rows size hz] at this; exact this
   rw [hu]
   refine ⟨?_, hT g _ rfl⟩
   simp only [Nat.zero_add]
   refine Jt hh _ _ ?_
   rw [<- se, List.getElem?_take, if_pos uL] at hu
   exact hu
  ·obtain ⟨u, hu, hr⟩ := uF.get' k d hd
   rw [hu]; exact hr
theorem Own.rd {T : CS} {w : World} {v : Value} {d : D} {S : Nat -> Prop} (ho : Own w v d S) (hT : ∀ b k, S b -> T b k) : Rd T w v d := by
 induction ho with
 | int k n S => exact .int k n
 | bool b S => exact .bool b
 | str s S => exact .str s
 | unk v h S => exact .unk v h
 | sl v size rows S e xs Sk ho hz uS hl hk hs hd ih =>
  exact EF ho hz (fun b k hb => hT b k (uS b hb)) (Zy.zo hl (fun k x d hx uM => ih k x d hx uM (fun b k' hb => hT b k' (hs k b hb).1)))
theorem JG.rd {T : CS} {w : World} {xs : List Value} {ds : List D} {S : Nat -> Prop} (ho : JG w xs ds S) (hT : ∀ b k, S b -> T b k) : Zy (Rd T w) xs ds := by
 obtain ⟨hl, Sk, h1, h2, h3⟩ := ho
 exact Zy.zo hl (fun k x d hx hd => (h1 k x d hx hd).rd (fun b k' hb => hT b k' (h2 k b hb)))
theorem Rel.cells (r : Rel T0 B σ a w X h) {t j size : Nat} {q : Bool} {rows : List (List D)} (ho : σ.ob t j = .arr q size rows) :
  ∃ e xs, w.ownsRow 0 e size (h t j).v rows.length xs /\ (∀ r ∈ rows, r.length = size) /\ ∀ T : CS, (∀ b k, Tof T0 X b k -> T b k) -> (∀ b k, (h t j).u b -> T b k) -> Zy (Rd T w) xs rows.flatten := by
 have h0 := r.obj t j
 rw [ho] at h0
 cases q with
 | false =>
  obtain ⟨e, xs, rG, hz, uF⟩ := h0
  exact ⟨e, xs, rG, hz, fun T h1 _ => uF.imp fun _ _ => Rd.mono (fun b k v hb hc => ⟨hc, h1 b k hb⟩)⟩
 | true =>
  obtain ⟨e, xs, rG, hz, uF, hn⟩ := h0
  exact ⟨e, xs, rG, hz, fun T _ h2 => uF.rd (fun b k hb => h2 b k hb.1)⟩
theorem Rel.EM (r : Rel T0 B σ a w X h) {t j lo len size : Nat} {q : Bool} {rows : List (List D)} (ho : σ.ob t j = .arr q size rows) {v : Value} (hv : YD (Tof T0 X) h σ.ob w (.sref t j lo len) v)
  (T : CS) (fp : ∀ b k, Tof T0 X b k -> T b k) (fq : ∀ b k, (h t j).u b -> T b k) : Rd T w v (.sl size (cut rows lo len)) := by
 obtain ⟨hle, tb, _, base, cap, rfl, tu, nR, oq, hb⟩ := hv.2.1 q size rows ho
 obtain ⟨e, xs, ⟨hl, uG⟩, hz, mO⟩ := r.cells ho
 have uF := mO T fp fq
 have tY := r.ub t j
 have uk : (cut rows lo len).length = len := Yp _ _ _ hle
 have sn : ∀ x ∈ cut rows lo len, x.length = size := fun x hx => hz x (List.mem_of_mem_drop (List.mem_of_mem_take hx))
 by_cases tH : 0 < len
 ·obtain ⟨b, rN, hh, rfl⟩ := hb tH
  rcases uG with ⟨hn, _⟩ | ⟨g, ou, cur, sf, _, mP, tk, sM, sY, se⟩
  ·rw [hh] at hn; cases hn
  ·rw [hh] at sf
   cases sf
   have key : ∀ k d, (cut rows lo len).flatten[k]? = some d -> ∃ u, w.cell? ⟨b, lo * size + k, none⟩ = some u /\ T b (lo * size + k) /\ Rd T w u d := by
    intro k d hd
    have uM := y9 rows size lo len hz k d hd
    obtain ⟨u, hu, hr⟩ := uF.get' _ _ uM
    have uL : lo * size + k < rows.length * size := by
     have := (List.getElem?_eq_some_iff.1 uM).1
     rw [YA rows size hz] at this; exact this
    refine ⟨u, Jt mP _ _ ?_, fq b _ (tY b (by rw [ho]; simp) (by rw [hh]; rfl)), hr⟩
    rw [<- se, List.getElem?_take, if_pos uL] at hu
    exact hu
   refine .sl ⟨b, lo * size, none⟩ len cap size _ (fun k => (w.cell? ⟨b, lo * size + k, none⟩).getD undef) uk tu nR sn (fun _ => rfl) (fun k d hd => ?_) (fun k d hd => ?_)
   ·obtain ⟨u, hu, ht, _⟩ := key k d hd
    rw [hu]; exact ⟨rfl, ht⟩
   ·obtain ⟨u, hu, _, hr⟩ := key k d hd
    rw [hu]; exact hr
 ·have ew : len = 0 := by omega
  subst ew
  have rQ : cut rows lo 0 = [] := by simp [cut]
  rw [rQ]
  cases base with
  | none => have := oq rfl; subst this; exact .nil _
  | some ad => exact .sl ad 0 cap size [] (fun _ => undef) rfl tu nR (by intro r hr; cases hr) (by simp) (by simp) (by simp)
end
end Go.Vm
namespace Go.Vm
open Go.RowKit
def D.HG : D -> Prop
 | .sl _ rows => ∀ r ∈ rows, ∀ d ∈ r, d.scalar = true
 | _ => True
def JI (own : Bool) (res : List (List D)) : Prop := ∀ r ∈ res, ∀ d ∈ r, if own = true then d.HG else d.scalar = true
theorem Rd.scalar {T T' : CS} {w : World} {v : Value} {d : D} (hd : d.scalar = true) (r : Rd T w v d) : Rd T' w v d := by
 cases r with
 | int k n => exact .int k n
 | bool b => exact .bool b
 | str s => exact .str s
 | unk v h => exact .unk v h
 | nil => cases hd
 | sl => cases hd
theorem Qr.flat {T T' : CS} {w : World} {v : Value} {d : D} (hd : d.HG) (r : Qr T w v d) : Qr T' w v d := by
 cases d with
 | sl size rows =>
  obtain ⟨e, xs, ho, hz, uF⟩ := r
  refine ⟨e, xs, ho, hz, ?_⟩
  refine Zy.zo uF.length (fun i x d hx uM => ?_)
  obtain ⟨d2, pa, hr⟩ := uF.get i x hx
  rw [uM] at pa; cases pa
  have hm : d ∈ rows.flatten := List.mem_of_getElem? uM
  obtain ⟨r0, rO, hdr⟩ := List.mem_flatten.1 hm
  exact Rd.scalar (hd r0 rO d hdr) hr
 | int k n => exact Rd.scalar rfl r
 | bool b => exact Rd.scalar rfl r
 | str s => exact Rd.scalar rfl r
 | unk => exact Rd.scalar rfl r
theorem kS {w : World} {e : TypeId} {size : Nat} {v : Value} {n : Nat} {xs : List Value} (ho : w.ownsRow 0 e size v n xs) : D0 v size n 0 n v := by
 refine ⟨by omega, fun _ _ => rfl, ?_, ?_⟩
 ·intro _
  rcases ho.2 with ⟨rfl, rfl⟩ | ⟨g, cap, cur, rfl, _⟩ <;> rfl
 rcases ho.2 with ⟨rfl, rfl⟩ | ⟨g, cap, cur, rfl, _, _, tk, sM, _, _⟩
 ·exact ⟨none, 0, rfl, by omega, by simp [maxLen], fun _ => rfl, fun hh => by omega⟩
 ·exact ⟨_, cap, rfl, tk, sM, (fun hh => by cases hh), fun _ => ⟨g, cap, rfl, by simp⟩⟩
theorem JK {w : World} {e : TypeId} {size : Nat} {v : Value} {n : Nat} {xs : List Value} (ho : w.ownsRow 0 e size v n xs) : v.oneCell' = true := by
 rcases ho.2 with ⟨rfl, rfl⟩ | ⟨g, cap, cur, rfl, _⟩ <;> rfl
theorem Qr.Xg {T : CS} {w : World} {v : Value} {d : D} (r : Qr T w v d) : v.oneCell' = true := by
 cases d with
 | sl size rows => obtain ⟨e, xs, ho, _⟩ := r; exact JK ho
 | int k n => exact Rd.Xg r
 | bool b => exact Rd.Xg r
 | str s => exact Rd.Xg r
 | unk => exact Rd.Xg r
theorem Qr.rd {T T' : CS} {w : World} {v : Value} {d : D} (r : Qr T w v d) (h1 : ∀ b k, T b k -> T' b k) (h2 : d.scalar = false -> ∀ b k, blk v = some b -> T' b k) : Rd T' w v d := by
 cases d with
 | sl size rows =>
  obtain ⟨e, xs, ⟨hl, uG⟩, hz, uF⟩ := r
  rcases uG with ⟨rfl, hn⟩ | ⟨g, cap, cur, rfl, _, hh, tk, sM, sY, se⟩
  ·have : rows = [] := List.eq_nil_of_length_eq_zero hn
   subst this; exact .nil _
  ·refine .sl ⟨g, 0, none⟩ _ cap size rows (fun k => (xs[k]?).getD undef) rfl tk sM hz (fun _ => rfl) (fun k d hd => ?_) (fun k d hd => ?_)
   ·obtain ⟨u, hu, _⟩ := uF.get' k d hd
    have uL : k < rows.length * size := by
     have := (List.getElem?_eq_some_iff.1 hd).1
     rw [YA rows size hz] at this; exact this
    rw [hu]
    refine ⟨?_, h2 rfl g _ rfl⟩
    simp only [Nat.zero_add]
    refine Jt hh _ _ ?_
    rw [<- se, List.getElem?_take, if_pos uL] at hu
    exact hu
   ·obtain ⟨u, hu, hr⟩ := uF.get' k d hd
    rw [hu]; exact Rd.mono (fun b k v hb hc => ⟨hc, h1 b k hb⟩) hr
 | int k n => exact Rd.scalar rfl r
 | bool b => exact Rd.scalar rfl r
 | str s => exact Rd.scalar rfl r
 | unk => exact Rd.scalar rfl r
section
variable {P : Program} {T0 : CS} {B : Nat -> Prop} {σ : St} {a : Act} {w w' : World} {X X' : Nat -> Prop} {h : Nat -> Nat -> Hd}
theorem Rel.Kc (r : Rel T0 B σ a w X h) {x : At} {v : Value} {d : D} (hd : Kc σ x = some d) (hv : YD (Tof T0 X) h σ.ob w x v) (st : Bool) (uf : st = true -> x.II = true) :
  Rd (if st then Tof T0 X else T4 T0 X h σ) w v d := by
 cases x with
 | d x => simp [Vm.Kc] at hd; subst hd; cases st <;> simp <;> first | exact hv | exact Rd.mono (fun b k v hb hc => ⟨hc, .inl hb⟩) hv
 | nil s => simp [Vm.Kc] at hd; subst hd; cases hv; exact .nil _
 | sref t j lo len =>
  cases st with
  | true => have := uf rfl; simp [At.II] at this
  | false =>
   simp only [Vm.Kc] at hd
   split at hd
   ·rename_i q size rows ho
    cases hd
    exact r.EM ho hv _ (fun b k hb => .inl hb) (fun b k hb => .inr ⟨t, j, _, size, rows, ho, hb⟩)
   ·cases hd
 | any => simp [Vm.Kc] at hd
 | ptr => simp [Vm.Kc] at hd
 | bptr => simp [Vm.Kc] at hd
 | fn => simp [Vm.Kc] at hd
 | rptr => simp [Vm.Kc] at hd
 | tref => simp [Vm.Kc] at hd
theorem Rel.rowOf (r : Rel T0 B σ a w X h) (st : Bool) : ∀ {xs : List At} {vs : List Value} {ds : List D}, rowOf σ xs = some ds -> Zy (YD (Tof T0 X) h σ.ob w) xs vs -> (st = true -> Jw xs = true) ->
  Zy (Rd (if st then Tof T0 X else T4 T0 X h σ) w) vs ds
 | [], _, ds, hd, uF, _ => by cases uF; simp [Vm.rowOf] at hd; subst hd; exact .nil
 | x :: xs, _, ds, hd, uF, uf => by
  cases uF with
  | cons hx uF =>
   simp only [Vm.rowOf] at hd
   split at hd
   ·rename_i d oK h1 h2
    cases hd
    refine .cons (r.Kc h1 hx st (fun hs => ?_)) (Rel.rowOf r st h2 uF (fun hs => ?_))
    ·have := uf hs; simp [Jw] at this; exact this.1
    ·have := uf hs; simp [Jw] at this; exact this.2
   ·cases hd
theorem Rel.Jm (r : Rel T0 B σ a w X h) (st : Bool) {v : V} {val : Value} {row : List D} (hr : v.Jm σ = some row) (hv : QI (Tof T0 X) h σ.ob w v val) (uf : st = true -> Jw v.cells = true) :
  ∃ cs, Ku val cs /\ Zy (Rd (if st then Tof T0 X else T4 T0 X h σ) w) cs row := by
 cases v with
 | one x => exact ⟨[val], .inl ⟨val, rfl, rfl, YD.Xg (show YD _ _ _ _ _ _ from hv)⟩, r.rowOf st (xs := [x]) hr (.cons hv .nil) uf⟩
 | agg xs =>
  obtain ⟨cs, rfl, uF⟩ := hv
  have hl := uF.length
  match xs, hr, uF, hl, uf with
  | [], hr, uF, hl, uf => exact ⟨cs.toList, .inr ⟨by rw [<- hl]; simp, by simp⟩, r.rowOf st hr uF uf⟩
  | [_], hr, _, _, _ => simp [V.Jm] at hr
  | x :: y :: xs, hr, uF, hl, uf => exact ⟨cs.toList, .inr ⟨by rw [<- hl]; simp, by simp⟩, r.rowOf st hr uF uf⟩
 | any => simp [V.Jm] at hr
 | tup xs => simp [V.Jm] at hr
 | cnd g x => simp [V.Jm] at hr
 | fix u x => simp [V.Jm] at hr
theorem Rel.QC (r : Rel T0 B σ a w X h) (st : Bool) : ∀ {xs : List Operand} {ts : List TypeId} {rs : List (List D)}, QC P σ xs ts rs -> (st = true -> YM P σ xs ts = true) ->
  Zy (fun v row => ∃ cs, Ku v cs /\ Zy (Rd (if st then Tof T0 X else T4 T0 X h σ) w) cs row) (xs.map a.eval) rs
 | [], _, rs, hr, _ => by cases hr; exact .nil
 | x :: xs, [], rs, hr, _ => hr.elim
 | x :: xs, t :: ts, rs, hr, uf => by
  obtain ⟨hg, row, rest, h1, h2, rfl⟩ := hr
  refine .cons (r.Jm st h1 (r.arg t x rfl hg) (fun hs => ?_)) (Rel.QC r st h2 (fun hs => ?_))
  ·have := uf hs; simp [YM] at this; exact this.1
  ·have := uf hs; simp [YM] at this; exact this.2
theorem jr {o : Oper} {c : Call} {f : FuncId} (uA : o.op = .call c) (hc : c.callee = .value (.func f)) (hf : U5 P f = true) : (execOp a.eval o).run P w = .ok (.enter f (c.args.toList.map a.eval).toArray) w := by
 unfold U5 at hf
 split at hf
 ·rename_i fn eh
  simp only [Bool.and_eq_true, bne_iff_ne, ne_eq] at hf
  obtain ⟨cd, hb⟩ := Option.isSome_iff_exists.1 hf.1
  obtain ⟨callee, args, gP⟩ := c
  simp only at hc; subst hc
  have hm : (args.toList.map a.eval).toArray = args.map a.eval := by apply Array.toList_inj.1; simp
  rw [hm]
  simp [execOp, uA, resolve, Act.eval, Deferred.ofValue, invoke, callFunc, eh, hf.2, hb]
 ·cases hf
end
end Go.Vm
namespace Go.Vm
open Go.RowKit
section
variable {P : Program} {T0 : CS} {B : Nat -> Prop} {σ : St} {a : Act} {w w' : World} {X X' : Nat -> Prop} {h : Nat -> Nat -> Hd}
theorem Below.grownBy (hb : Below w.heap.size w w') : w.grownBy w' none := ⟨hb.os, hb.tape, hb.output, hb.size, fun k hk _ => hb.block k hk⟩
theorem Oi {T : CS} {ob : Nat -> Nat -> Ob} {xs : List At} {v : Value} {cs : List Value} (hf : Ku v cs) (uF : Zy (YD T h ob w) xs cs) : Jh T h ob w (vOf xs) v := by
 have hl := uF.length
 rcases hf with ⟨c, rfl, rfl, h1⟩ | ⟨uD, rfl⟩
 ·cases uF with
  | cons hx uF => cases uF; exact hx
 ·match xs, uF, hl with
  | [], uF, _ => exact ⟨_, rfl, by simpa using uF⟩
  | [x], uF, hl => exact absurd hl.symm (by simpa using uD)
  | x :: y :: xs, uF, _ => exact ⟨_, rfl, by simpa using uF⟩
theorem jX {T : CS} {ob : Nat -> Nat -> Ob} {cs : List Value} {row : List D} (uF : Zy (Rd T w) cs row) : Zy (YD T h ob w) (row.map .d) cs := by
 induction uF with
 | nil => exact .nil
 | cons r _ ih => exact .cons r ih
theorem FM {T : CS} {ob : Nat -> Nat -> Ob} {res : List (List D)} {vs : List Value} {uj : List (List Value)} (hf : Zy Ku vs uj) (uF : Zy (fun cs row => Zy (Rd T w) cs row) uj res) :
  Zy (Jh T h ob w) (res.map fun r => vOf (r.map .d)) vs := by
 induction hf generalizing res with
 | nil => cases uF; exact .nil
 | cons f _ ih => cases uF with
  | cons r uF => exact .cons (Oi f (jX r)) (ih uF)
theorem L1 {T : CS} {ob : Nat -> Nat -> Ob} {res : List (List D)} {vs : List Value} {uj : List (List Value)} (hf : Zy Ku vs uj) (uF : Zy (fun cs row => Zy (Rd T w) cs row) uj res) :
  QI T h ob w (ye res) (V4 vs) := by
 have hl := FM (h := h) (ob := ob) hf uF
 have h1 := hl.length
 match res, vs, hl, h1 with
 | [r], [v], hl, _ => cases hl with | cons x _ => exact x.up
 | [], [], hl, _ => exact ⟨_, rfl, by simpa using hl⟩
 | r :: r' :: rs, v :: v' :: vs, hl, _ => exact ⟨_, rfl, by simpa using hl⟩
 | [], v :: vs, _, h1 => simp at h1
 | [r], [], _, h1 => simp at h1
 | [r], v :: v' :: vs, _, h1 => simp at h1
 | r :: r' :: rs, [], _, h1 => simp at h1
 | r :: r' :: rs, [v], _, h1 => simp at h1
theorem Rh {α β : Type} {R S : α -> β -> Prop} {l : List (List α)} {m : List (List β)} (sc : ∀ (a : α) (b : β) (row : List β), row ∈ m -> b ∈ row -> R a b -> S a b) (uF : Zy (fun x y => Zy R x y) l m) : Zy (fun x y => Zy S x y) l m := by
 induction uF with
 | nil => exact .nil
 | @cons x y _ _ rf _ ih =>
  refine .cons ?_ (ih (fun a b row hr => sc a b row (by simp [hr])))
  have tP : ∀ b ∈ y, ∀ a, R a b -> S a b := fun b hb a hr => sc a b y (by simp) hb hr
  clear ih sc
  induction rf with
  | nil => exact .nil
  | cons r _ na => exact .cons (tP _ (by simp) _ r) (na (fun b hb => tP b (by simp [hb])))
theorem jJ (r : Rel T0 B σ a w X h) {o : Oper} {c : Call} {f : FuncId} {d : Nat} {own : Bool} {rows res : List (List D)} (uA : o.op = .call c) (hc : c.callee = .value (.func f)) (hd : o.dst = some d)
  (uH : QC P σ c.args.toList c.argTypes.toList rows) (st : Bool) (uf : st = true -> YM P σ c.args.toList c.argTypes.toList = true) (tg : st = false -> JI own res) (hs : QB P f own rows res)
  {K : Act -> World -> Prop} {Q : Exit -> Act -> World -> Prop} (hK : ∀ a' w', JZ T0 B (σ.put d (ye res)) a' w' -> Y9 B w w' -> K a' w') : o.wp P a w K Q := by
 unfold Oper.wp
 rw [jr uA hc hs.1, Oper.upon_enter]
 refine (hs.2 (if st then Tof T0 X else T4 T0 X h σ) w _ (fun b k hb => ?_) (r.QC st uH uf)).mono ?_
 ·cases st
  ·exact r.IE hb
  ·exact r.Tlt hb
 ·rintro e w' ⟨vs, uj, Y, rfl, tv, hY, um, sK, oL⟩
  have oV : ∀ b, (X b \/ (w.heap.size <= b /\ b < w'.heap.size)) -> X b \/ (w.heap.size <= b /\ b < w'.heap.size) := fun b hb => hb
  have r2 := r.grow (X' := fun b => X b \/ (w.heap.size <= b /\ b < w'.heap.size)) (Below.grownBy tv) (fun b hb => .inl hb) oV
  have sr : Zy (fun cs row => Zy (Rd (Tof T0 fun b => X b \/ (w.heap.size <= b /\ b < w'.heap.size)) w') cs row) uj res := by
   have tP : ∀ (i : Nat) (c : Value) (d : D), uj.flatten[i]? = some c -> res.flatten[i]? = some d -> own = true -> d.scalar = false -> ∀ b, blk c = some b -> w.heap.size <= b /\ b < w'.heap.size := by
    intro i c d h1 h2 ho tJ b hb
    have := (oL ho).1 i c d b h1 h2 tJ hb
    exact ⟨this.1, this.2.1⟩
   have conv : ∀ (c : Value) (d : D), (∀ b, own = true -> d.scalar = false -> blk c = some b -> w.heap.size <= b /\ b < w'.heap.size) -> (st = false -> if own = true then d.HG else d.scalar = true) ->
     yO own (Tof (if st then Tof T0 X else T4 T0 X h σ) Y) w' c d -> Rd (Tof T0 fun b => X b \/ (w.heap.size <= b /\ b < w'.heap.size)) w' c d := by
    intro c d tU oh hr
    cases own with
    | true =>
     have th : Qr (Tof (if st then Tof T0 X else T4 T0 X h σ) Y) w' c d := by simpa [yO] using hr
     cases st with
     | true =>
      refine Qr.rd th (fun b k hb => ?_) (fun tJ b k hb => .inr (.inr (tU b rfl tJ hb)))
      rcases hb with hb | hb
      ·rcases (show Tof T0 X b k from by simpa using hb) with hb | hb
       ·exact .inl hb
       ·exact .inr (.inl hb)
      ·exact .inr (.inr (hY b hb))
     | false =>
      exact Qr.rd (Qr.flat (T' := fun _ _ => False) (by simpa using oh rfl) th) (fun b k hb => hb.elim) (fun tJ b k hb => .inr (.inr (tU b rfl tJ hb)))
    | false =>
     have th : Rd (Tof (if st then Tof T0 X else T4 T0 X h σ) Y) w' c d := by simpa [yO] using hr
     cases st with
     | true =>
      refine Rd.mono (fun b k v hb hc => ⟨hc, ?_⟩) th
      rcases hb with hb | hb
      ·rcases (show Tof T0 X b k from by simpa using hb) with hb | hb
       ·exact .inl hb
       ·exact .inr (.inl hb)
      ·exact .inr (.inr (hY b hb))
     | false => exact Rd.scalar (by simpa using oh rfl) th
   have go : ∀ (uj : List (List Value)) (res : List (List D)), Zy (fun cs row => Zy (yO own (Tof (if st then Tof T0 X else T4 T0 X h σ) Y) w') cs row) uj res ->
     (∀ (i : Nat) (c : Value) (d : D), uj.flatten[i]? = some c -> res.flatten[i]? = some d -> own = true -> d.scalar = false -> ∀ b, blk c = some b -> w.heap.size <= b /\ b < w'.heap.size) ->
     (st = false -> JI own res) -> Zy (fun cs row => Zy (Rd (Tof T0 fun b => X b \/ (w.heap.size <= b /\ b < w'.heap.size)) w') cs row) uj res := by
    intro uj res uF
    induction uF with
    | nil => intro _ _; exact .nil
    | @cons cs row gR gS ur _ ih =>
     intro hm hf
     have hlen := ur.length
     refine .cons (Zy.zo hlen (fun i c d hc uM => ?_)) (ih (fun i c d h1 h2 => ?_) (fun hs r hr => hf hs r (by simp [hr])))
     ·obtain ⟨d2, pa, hr⟩ := ur.get i c hc
      rw [uM] at pa; cases pa
      refine conv c d (fun b ho tJ hb => hm i c d ?_ ?_ ho tJ b hb) (fun hs => hf hs row (by simp) d (List.mem_of_getElem? uM)) hr
      ·rw [List.flatten_cons, List.getElem?_append_left (List.getElem?_eq_some_iff.1 hc).1]; exact hc
      ·rw [List.flatten_cons, List.getElem?_append_left (List.getElem?_eq_some_iff.1 uM).1]; exact uM
     ·refine hm (cs.length + i) c d ?_ ?_
      ·rw [List.flatten_cons, List.getElem?_append_right (by omega)]; simpa using h1
      ·rw [List.flatten_cons, List.getElem?_append_right (by omega), hlen]; simpa using h2
   exact go uj res sK tP tg
  rw [hd]
  exact hK _ _ ⟨_, _, r2.put d _ _ (L1 um sr)⟩ (Y9.SL tv r.hB)
end
end Go.Vm
namespace Go.Vm
open Go.RowKit
section
variable {P : Program} {T0 : CS} {B : Nat -> Prop} {σ : St} {a : Act} {w w' : World} {X X' : Nat -> Prop} {h : Nat -> Nat -> Hd}
theorem VA : ∀ (ds : List D) (k : Nat), YS (zW ds) k = (match ds[k]? with | some (.sl size rows) => .arr false size rows | _ => .none)
 | [], k => by simp [zW, YS]
 | d :: ds, 0 => by cases d <;> simp [zW, YS]
 | d :: ds, k + 1 => by
  have := VA ds k
  cases d <;> simpa [zW, YS] using this
def qV (T : CS) (w : World) (v : Value) : D -> Prop
 | .sl size rows => ∃ e xs, w.ownsRow 0 e size v rows.length xs
 | d => Rd T w v d
theorem Qr.top {T : CS} {v : Value} {d : D} (r : Qr T w v d) : qV T w v d := by
 cases d with
 | sl size rows => obtain ⟨e, xs, ho, _⟩ := r; exact ⟨e, xs, ho⟩
 | int k n => exact r
 | bool b => exact r
 | str s => exact r
 | unk => exact r
theorem qV.Xg {T : CS} {v : Value} {d : D} (r : qV T w v d) : v.oneCell' = true := by
 cases d with
 | sl size rows => obtain ⟨e, xs, ho⟩ := r; exact JK ho
 | int k n => exact Rd.Xg r
 | bool b => exact Rd.Xg r
 | str s => exact Rd.Xg r
 | unk => exact Rd.Xg r
theorem Ot {T : CS} {ob : Nat -> Nat -> Ob} {t : Nat} : ∀ {ds : List D} {cs : List Value} {k : Nat}, Zy (qV T w) cs ds ->
  (∀ i size rows, ds[i]? = some (.sl size rows) -> ∃ q, ob t (k + i) = .arr q size rows) -> (∀ i c, cs[i]? = some c -> (h t (k + i)).v = c) -> Zy (YD T h ob w) (kJ t k ds) cs
 | [], _, k, uF, _, _ => by cases uF; exact .nil
 | d :: ds, _, k, uF, ho, hh => by
  cases uF with
  | @cons c _ cs _ hc uF =>
   have ih := Ot (k := k + 1) uF (fun i size rows hi => by have := ho (i + 1) size rows (by simpa using hi); rw [show k + 1 + i = k + (i + 1) by omega]; exact this)
    (fun i c' ux => by have := hh (i + 1) c' (by simpa using ux); rw [show k + 1 + i = k + (i + 1) by omega]; exact this)
   cases d with
   | sl size rows =>
    obtain ⟨q0, h0⟩ := ho 0 size rows (by simp)
    have h1 := hh 0 c (by simp)
    rw [Nat.add_zero] at h0 h1
    refine .cons ⟨qV.Xg hc, fun q' uh uQ uV => ?_, fun uh uQ uV => by rw [h0] at uV; cases uV⟩ ih
    rw [h0] at uV; cases uV
    obtain ⟨e, xs, uG⟩ := hc
    rw [h1]; exact kS uG
   | int k' n => exact .cons hc ih
   | bool b => exact .cons hc ih
   | str s => exact .cons hc ih
   | unk => exact .cons hc ih
theorem E9 {T : CS} {ob : Nat -> Nat -> Ob} {t : Nat} {vs : List Value} {uj : List (List Value)} (hf : Zy Ku vs uj) : ∀ {res : List (List D)} {k : Nat}, Zy (fun cs row => Zy (qV T w) cs row) uj res ->
  (∀ i size rows, res.flatten[i]? = some (.sl size rows) -> ∃ q, ob t (k + i) = .arr q size rows) -> (∀ i c, uj.flatten[i]? = some c -> (h t (k + i)).v = c) -> Zy (Jh T h ob w) (Lf t k res) vs := by
 induction hf with
 | nil => intro res k uF _ _; cases uF; exact .nil
 | @cons v cs bC gR f _ ih =>
  intro res k uF ho hh
  cases uF with
  | @cons _ row _ gS r uF =>
   have hlen := r.length
   refine .cons (Oi f (Ot r (fun i size rows hi => ho i size rows ?_) (fun i c hc => hh i c ?_))) (ih uF (fun i size rows hi => ?_) (fun i c hc => ?_))
   ·rw [List.flatten_cons, List.getElem?_append_left (List.getElem?_eq_some_iff.1 hi).1]; exact hi
   ·rw [List.flatten_cons, List.getElem?_append_left (List.getElem?_eq_some_iff.1 hc).1]; exact hc
   ·have := ho (row.length + i) size rows (by rw [List.flatten_cons, List.getElem?_append_right (by omega)]; simpa using hi)
    rw [Nat.add_assoc]; exact this
   ·have := hh (row.length + i) c (by rw [List.flatten_cons, List.getElem?_append_right (by omega), <- hlen]; simpa using hc)
    rw [Nat.add_assoc]; exact this
theorem Nt {T : CS} {ob : Nat -> Nat -> Ob} {t : Nat} {vs : List Value} {uj : List (List Value)} {res : List (List D)} (hf : Zy Ku vs uj) (uF : Zy (fun cs row => Zy (qV T w) cs row) uj res)
  (ho : ∀ i size rows, res.flatten[i]? = some (.sl size rows) -> ∃ q, ob t i = .arr q size rows) (hh : ∀ i c, uj.flatten[i]? = some c -> (h t i).v = c) : QI T h ob w (xL t res) (V4 vs) := by
 have hl := E9 (k := 0) hf uF (by simpa using ho) (by simpa using hh)
 have h1 : res.length = vs.length := by rw [hf.length, uF.length]
 match res, vs, hl, h1 with
 | [r], [v], hl, _ => cases hl with | cons x _ => exact x.up
 | [], [], hl, _ => exact ⟨_, rfl, by simpa using hl⟩
 | r :: r' :: rs, v :: v' :: vs, hl, _ => exact ⟨_, rfl, by simpa using hl⟩
 | [], v :: vs, _, h1 => simp at h1
 | [r], [], _, h1 => simp at h1
 | [r], v :: v' :: vs, _, h1 => simp at h1
 | r :: r' :: rs, [], _, h1 => simp at h1
 | r :: r' :: rs, [v], _, h1 => simp at h1
theorem yD {α β : Type} {R : α -> β -> Prop} {l : List (List α)} {m : List (List β)} (uF : Zy (fun x y => Zy R x y) l m) : Zy R l.flatten m.flatten := by
 induction uF with
 | nil => exact .nil
 | cons r _ ih => rw [List.flatten_cons, List.flatten_cons]; exact r.append ih
theorem TW (r : Rel T0 B σ a w X h) {o : Oper} {c : Call} {f : FuncId} {d : Nat} {rows res : List (List D)} (uA : o.op = .call c) (hc : c.callee = .value (.func f)) (hd : o.dst = some d) (tE : σ.fresh d = true)
  (uH : QC P σ c.args.toList c.argTypes.toList rows) (st : Bool) (uf : st = true -> YM P σ c.args.toList c.argTypes.toList = true) (tg : st = false -> JI true res) (hs : QB P f true rows res)
  {K : Act -> World -> Prop} {Q : Exit -> Act -> World -> Prop} (hK : ∀ a' w', JZ T0 B (σ.new d (xL d res) (zW res.flatten)) a' w' -> Y9 B w w' -> K a' w') : o.wp P a w K Q := by
 have uL := St.KJ tE
 unfold Oper.wp
 rw [jr uA hc hs.1, Oper.upon_enter]
 refine (hs.2 (if st then Tof T0 X else T4 T0 X h σ) w _ (fun b k hb => ?_) (r.QC st uH uf)).mono ?_
 ·cases st
  ·exact r.IE hb
  ·exact r.Tlt hb
 ·rintro e w' ⟨vs, uj, Y, rfl, tv, hY, um, sK, oL⟩
  have oL := oL rfl
  have sr : Zy (fun cs row => Zy (Qr (Tof T0 fun b => X b \/ Y b) w') cs row) uj res := by
   refine Rh (fun c d row ur hdr hr => ?_) sK
   have th : Qr (Tof (if st then Tof T0 X else T4 T0 X h σ) Y) w' c d := by simpa [yO] using hr
   cases st with
   | true =>
    have hT : ∀ b k, Tof (if true = true then Tof T0 X else T4 T0 X h σ) Y b k -> Tof T0 (fun b => X b \/ Y b) b k := by
     intro b k hb
     rcases hb with hb | hb
     ·rcases (show Tof T0 X b k from by simpa using hb) with hb | hb
      ·exact .inl hb
      ·exact .inr (.inl hb)
     ·exact .inr (.inr hb)
    cases d with
    | sl size rows =>
     obtain ⟨e, xs, ho, hz, uF⟩ := th
     exact ⟨e, xs, ho, hz, uF.imp fun _ _ => Rd.mono (fun b k v hb hc => ⟨hc, hT b k hb⟩)⟩
    | int k n => exact Rd.scalar rfl th
    | bool b => exact Rd.scalar rfl th
    | str s => exact Rd.scalar rfl th
    | unk => exact Rd.scalar rfl th
   | false => exact Qr.flat (by simpa using tg rfl row ur d hdr) th
  have tn := yD sr
  rw [hd]
  refine hK _ _ ⟨fun b => X b \/ Y b, fun t j => if t = d then Hd.of ((uj.flatten[j]?).getD undef) else h t j, ?_⟩ (Y9.SL tv r.hB)
  have uI : ∀ (j size : Nat) (rows : List (List D)), res.flatten[j]? = some (D.sl size rows) -> ∃ c, uj.flatten[j]? = some c /\ Qr (Tof T0 fun b => X b \/ Y b) w' c (D.sl size rows) := fun j size rows hj => tn.get' j _ hj
  have uX : ∀ j, (σ.new d (xL d res) (zW res.flatten)).ob d j = YS (zW res.flatten) j := fun j => by rw [St.Qu]; simp [uL]
  have mR : ∀ j, YS (zW res.flatten) j ≠ .none -> ∃ size rows, res.flatten[j]? = some (D.sl size rows) := by
   intro j uD
   rw [VA] at uD
   split at uD
   ·rename_i size rows hj; exact ⟨size, rows, hj⟩
   ·exact absurd rfl uD
  refine r.new tE (Below.grownBy tv) (fun b hb => .inl hb) (fun b hb => hb.imp id (fun hy => hY b hy)) (xL d res) (V4 vs) (zW res.flatten) (fun j => Hd.of ((uj.flatten[j]?).getD undef)) ?_ (fun j => ?_) (fun j b _ hb => hb) (fun j b uD hb => ?_) (fun j j' b uD uw hb uS => ?_)
  ·refine Nt um (Rh (fun _ _ _ _ _ hr => Qr.top hr) sr) (fun i size rows hi => ⟨false, ?_⟩) (fun i c hi => by simp [hi, Hd.of])
   rw [uX, VA, hi]
  ·rw [VA]
   split
   ·rename_i size rows hj
    obtain ⟨c, ux, uG⟩ := uI j size rows hj
    obtain ⟨e, xs, ho, hz, uF⟩ := uG
    exact ⟨e, xs, by rw [ux]; exact ho, hz, uF⟩
   ·trivial
  ·obtain ⟨size, rows, hj⟩ := mR j uD
   obtain ⟨c, ux, _⟩ := uI j size rows hj
   have uS : blk c = some b := by simpa [Hd.of, ux] using hb
   have := oL.1 j c _ b ux hj rfl uS
   refine ⟨this.1, ?_, this.2.1⟩
   rintro (hx | hy)
   ·have := r.hX b hx; omega
   ·exact this.2.2 hy
  ·obtain ⟨size, rows, hj⟩ := mR j uD
   obtain ⟨uh, uQ, rP⟩ := mR j' uw
   obtain ⟨c, ux, _⟩ := uI j size rows hj
   obtain ⟨c2, pk, _⟩ := uI j' uh uQ rP
   exact oL.2 j j' c c2 _ _ b ux hj pk rP rfl rfl (by simpa [Hd.of, ux] using hb) (by simpa [Hd.of, pk] using uS)
end
end Go.Vm
namespace Go.Vm
open Go.RowKit
section
variable {P : Program} {T0 : CS} {B : Nat -> Prop} {σ : St} {a : Act} {w w' : World} {X X' : Nat -> Prop} {h : Nat -> Nat -> Hd}
theorem Y9.WT {B : Nat -> Prop} (hg : w.grownBy w' none) (hB : ∀ b, B b -> b < w.heap.size) : Y9 B w w' := ⟨hg.os, hg.tape, hg.output, hg.size, fun k hk => hg.block k (hB k hk) (by simp)⟩
theorem Rel.D8 (r : Rel T0 B σ a w X h) {d : Nat} (hf : σ.fresh d = true) (cs : Array Value) (T : TypeId) (xs : List At) (hx : YF d xs = false) (uF : Zy (YD (Tof T0 X) h σ.ob w) xs cs.toList) :
  JZ T0 B (σ.new d (.one (.bptr d 0)) [.box xs]) (a.put (some d) (.pointer (some ⟨w.heap.size, 0, none⟩))) (w.alloc (.cells cs T)) /\ Y9 B w (w.alloc (.cells cs T)) := by
 have hg := World.grownBy_alloc w (.cells cs T) none
 have uL := St.KJ hf
 have hT : ∀ b k v, Tof T0 X b k -> w.cell? ⟨b, k, none⟩ = some v -> (w.alloc (.cells cs T)).cell? ⟨b, k, none⟩ = some v /\ Tof T0 X b k := by
  intro b k v hb uI
  refine ⟨?_, hb⟩
  rw [World.cell?_of_block (hg.block b (r.Tlt hb) (by simp))]; exact uI
 refine ⟨⟨X, fun t j => if t = d then Hd.of (.pointer (some ⟨w.heap.size, 0, none⟩)) else h t j, ?_⟩, Y9.WT hg r.hB⟩
 have tF : (σ.new d (.one (.bptr d 0)) [.box xs]).ob d 0 = .box xs := by rw [St.Qu]; simp [uL, YS]
 have hc : ∀ t j, t ≠ d -> Cpt h (fun t j => if t = d then Hd.of (.pointer (some ⟨w.heap.size, 0, none⟩)) else h t j) σ.ob (σ.new d (.one (.bptr d 0)) [.box xs]).ob t j := by
  intro t j uD
  have he : (σ.new d (.one (.bptr d 0)) [.box xs]).ob t j = σ.ob t j := by rw [St.Qu, if_neg (fun hh => uD hh.1)]
  exact Cpt.same (by simp [uD]) he
 refine r.new hf hg (fun _ hb => hb) (fun _ hb => .inl hb) _ _ [.box xs] (fun _ => Hd.of (.pointer (some ⟨w.heap.size, 0, none⟩))) ?_ (fun j => ?_) (fun j b _ hb => hb) (fun j b _ hb => ?_) (fun j j' b uD uw _ _ => ?_)
 ·exact ⟨rfl, fun cells _ => ⟨w.heap.size, by simp [Hd.of], rfl⟩⟩
 ·cases j with
  | zero =>
   refine ⟨w.heap.size, cs, T, rfl, ?_, ja hT hc hx uF⟩
   exact heap_alloc_new w _
  | succ j => simp [YS, JA]
 ·simp [Hd.of, blk] at hb; subst hb
  refine ⟨Nat.le_refl _, fun pI => ?_, by simp⟩
  have := (r.hX _ pI).2; omega
 ·have : ∀ j, YS [Ob.box xs] j ≠ .none -> j = 0 := by
   intro j hj
   cases j with
   | zero => rfl
   | succ j => simp [YS] at hj
  rw [this j uD, this j' uw]
theorem Rel.Cf (r : Rel T0 B σ a w X h) {d : Nat} (hf : σ.fresh d = true) (hg : w.grownBy w' none) (v : Value) {size : Nat} {rows : List (List D)}
  (ho : Qr (Tof T0 X) w' v (.sl size rows)) (hb : ∀ b, blk v = some b -> w.heap.size <= b /\ b < w'.heap.size) :
  JZ T0 B (σ.new d (.one (.sref d 0 0 rows.length)) [.arr false size rows]) (a.put (some d) v) w' /\ Y9 B w w' := by
 have uL := St.KJ hf
 refine ⟨⟨X, fun t j => if t = d then Hd.of v else h t j, ?_⟩, Y9.WT hg r.hB⟩
 have tF : (σ.new d (.one (.sref d 0 0 rows.length)) [.arr false size rows]).ob d 0 = .arr false size rows := by rw [St.Qu]; simp [uL, YS]
 obtain ⟨e, xs, uG, hz, uF⟩ := ho
 refine r.new hf hg (fun _ hb => hb) (fun _ hb => .inl hb) _ _ [.arr false size rows] (fun _ => Hd.of v) ?_ (fun j => ?_) (fun j b _ hb => hb) (fun j b _ uS => ?_) (fun j j' b uD uw _ _ => ?_)
 ·refine ⟨JK uG, fun q' uh uQ uV => ?_, fun uh uQ uV => by rw [tF] at uV; cases uV⟩
  rw [tF] at uV; cases uV
  simp only [if_true]
  exact kS uG
 ·cases j with
  | zero => exact ⟨e, xs, uG, hz, uF⟩
  | succ j => simp [YS, JA]
 ·have := hb b uS
  refine ⟨this.1, fun pI => ?_, this.2⟩
  have := (r.hX _ pI).2; omega
 ·have : ∀ j, YS [Ob.arr false size rows] j ≠ .none -> j = 0 := by
   intro j hj
   cases j with
   | zero => rfl
   | succ j => simp [YS] at hj
  rw [this j uD, this j' uw]
theorem Rel.BI (r : Rel T0 B σ a w X h) {d : Nat} (hf : σ.fresh d = true) (hg : w.grownBy w' none) (v : Value) {e : TypeId} {size : Nat} {rows : List (List D)} {xs : List Value}
  (uG : w'.ownsRow 0 e size v rows.length xs) (hz : ∀ r ∈ rows, r.length = size) (uF : JG w' xs rows.flatten (fun _ => False)) (hb : ∀ b, blk v = some b -> w.heap.size <= b /\ b < w'.heap.size) :
  JZ T0 B (σ.new d (.one (.sref d 0 0 rows.length)) [.arr true size rows]) (a.put (some d) v) w' /\ Y9 B w w' := by
 have uL := St.KJ hf
 refine ⟨⟨X, fun t j => if t = d then ⟨v, fun k => (xs[k]?).getD undef, fun b => blk v = some b⟩ else h t j, ?_⟩, Y9.WT hg r.hB⟩
 have tF : (σ.new d (.one (.sref d 0 0 rows.length)) [.arr true size rows]).ob d 0 = .arr true size rows := by rw [St.Qu]; simp [uL, YS]
 refine r.new hf hg (fun _ hb => hb) (fun _ hb => .inl hb) _ _ [.arr true size rows] (fun _ => ⟨v, fun k => (xs[k]?).getD undef, fun b => blk v = some b⟩) ?_ (fun j => ?_) (fun j b _ hb => hb) (fun j b _ uS => ?_) (fun j j' b uD uw _ _ => ?_)
 ·refine ⟨JK uG, fun q' uh uQ uV => ?_, fun uh uQ uV => by rw [tF] at uV; cases uV⟩
  rw [tF] at uV; cases uV
  simp only [if_true]
  exact kS uG
 ·cases j with
  | zero =>
   obtain ⟨hl, Sk, h1, h2, h3⟩ := uF
   exact ⟨e, xs, uG, hz, ⟨hl, Sk, h1, fun k b hk => (h2 k b hk).elim, h3⟩, fun k x d hx _ _ => by simp [hx]⟩
  | succ j => simp [YS, JA]
 ·have := hb b uS
  refine ⟨this.1, fun pI => ?_, this.2⟩
  have := (r.hX _ pI).2; omega
 ·have : ∀ j, YS [Ob.arr true size rows] j ≠ .none -> j = 0 := by
   intro j hj
   cases j with
   | zero => rfl
   | succ j => simp [YS] at hj
  rw [this j uD, this j' uw]
theorem Gz (r : Rel T0 B σ a w X h) {o : Oper} {T : TypeId} {d : Nat} {row : List At} (uA : o.op = .alloc T) (hd : o.dst = some d) (hf : σ.fresh d = true) (hz : XX P T = true) (sV : qp P 12 T = some row) (ur : YF d row = false)
  {K : Act -> World -> Prop} {Q : Exit -> Act -> World -> Prop} (hK : ∀ a' w', JZ T0 B (σ.new d (.one (.bptr d 0)) [.box row]) a' w' -> Y9 B w w' -> K a' w') : o.wp P a w K Q := by
 obtain ⟨i, z, hi, gL, tG, uF⟩ := N5 hz sV
 have uT : (execOp a.eval o).run P w = .ok (.value (.pointer (some ⟨w.heap.size, 0, none⟩))) (w.alloc (.cells z.cells T)) := by
  simp [execOp, uA, Instr.alloc, zeroValue, typeInfo, hi, gL, newVar, newRow]
 unfold Oper.wp
 rw [uT, Oper.upon_value, hd]
 have := r.D8 hf z.cells T row ur (uF _ _ _ _)
 exact hK _ _ this.1 this.2
theorem E0 (r : Rel T0 B σ a w X h) {o : Oper} {T : TypeId} {x : Operand} {d : Nat} (uA : o.op = .box T x) (hd : o.dst = some d) (hf : σ.fresh d = true) (hg : gOf (look P σ T x) = true) (tg : (unc (look P σ T x)).flat = true) (ur : YF d (unc (look P σ T x)).cells = false)
  {K : Act -> World -> Prop} {Q : Exit -> Act -> World -> Prop} (hK : ∀ a' w', JZ T0 B (σ.new d (.one (.bptr d 0)) [.box (unc (look P σ T x)).cells]) a' w' -> Y9 B w w' -> K a' w') : o.wp P a w K Q := by
 have uF := ju tg (r.arg (P := P) T x rfl hg)
 have uT : (execOp a.eval o).run P w = .ok (.value (.pointer (some ⟨w.heap.size, 0, none⟩))) (w.alloc (.cells (a.eval x).cells T)) := by
  simp [execOp, uA, Instr.box, newVar, newRow]
 unfold Oper.wp
 rw [uT, Oper.upon_value, hd]
 have := r.D8 hf (a.eval x).cells T _ ur uF
 exact hK _ _ this.1 this.2
end
end Go.Vm
