/- An abstract machine GQ the model of Go, by value, and that it is sound: part Va. No condition. -/
import Derived.WalkKit
import Derived.Below
namespace Go.Vm
inductive D where
 | int (k : IntKind) (n : Int)
 | bool (b : Bool)
 | str (s : ByteArray)
 | sl (size : Nat) (rows : List (List D))
 | unk
 deriving Inhabited
def D.scalar : D -> Bool
 | .sl _ _ => false
 | _ => true
abbrev CS := Nat -> Nat -> Prop
inductive Rd (T : CS) (w : World) : Value -> D -> Prop
 | int (k : IntKind) (n : Int) : Rd T w (.int k n) (.int k n)
 | bool (b : Bool) : Rd T w (.bool b) (.bool b)
 | str (s : ByteArray) : Rd T w (.string s) (.str s)
 | unk (v : Value) (h : v.oneCell' = true) : Rd T w v .unk
 | nil (size : Nat) : Rd T w (.slice none 0 0) (.sl size [])
 | sl (a : Addr) (len cap size : Nat) (rows : List (List D)) (g : Nat -> Value)
   (hl : rows.length = len) (hc : len <= cap) (hm : cap <= maxLen) (hz : ∀ r ∈ rows, r.length = size) (hs : rows.flatten ≠ [] -> a.spot = none)
   (hg : ∀ k d, rows.flatten[k]? = some d -> w.cell? ⟨a.block, a.off + k, none⟩ = some (g k) /\ T a.block (a.off + k))
   (hr : ∀ k d, rows.flatten[k]? = some d -> Rd T w (g k) d) : Rd T w (.slice (some a) len cap) (.sl size rows)
theorem Rd.mono {T T' : CS} {w w' : World} (hT : ∀ b k v, T b k -> w.cell? ⟨b, k, none⟩ = some v -> w'.cell? ⟨b, k, none⟩ = some v /\ T' b k)
  {v : Value} {d : D} (h : Rd T w v d) : Rd T' w' v d := by
 induction h with
 | int k n => exact .int k n
 | bool b => exact .bool b
 | str s => exact .str s
 | unk v h => exact .unk v h
 | nil s => exact .nil s
 | sl a len cap size rows g hl hc hm hz hs hg hr ih =>
  exact .sl a len cap size rows g hl hc hm hz hs (fun k d hk => hT _ _ _ (hg k d hk).2 (hg k d hk).1) (fun k d hk => ih k d hk)
theorem Rd.Xy {T : CS} {w : World} {v : Value} {d : D} (h : Rd T w v d) : v.oneCell' = true := by
 cases h <;> first | rfl | assumption
inductive At where
 | any
 | d (x : D)
 | nil (size : Nat)
 | sref (t j lo len : Nat)
 | ptr (t j i c : Nat)
 | bptr (t c : Nat)
 | fn (f t : Nat)
 | rptr (r : List D) (c : Nat)
 | tref (t j i c : Nat) (o : Option Nat)
 deriving Inhabited
inductive V where
 | any
 | one (x : At)
 | agg (xs : List At)
 | tup (xs : List V)
 | cnd (g : Bool) (x : V)
 | fix (v : Value) (x : V)
 deriving Inhabited
inductive Ob where
 | none
 | box (cells : List At)
 | arr (q : Bool) (size : Nat) (rows : List (List D))
 | lit (size : Nat) (rows : List (List At))
 deriving Inhabited
structure Hd where
 v : Value
 n : Nat -> Value
 u : Nat -> Prop
abbrev Ent := V × List Ob
abbrev St := List Ent
def St.get (σ : St) (t : Nat) : V := match σ[t]? with | some e => e.1 | none => .any
def Yr (os : List Ob) (j : Nat) : Ob := match os[j]? with | some o => o | none => .none
def St.ob (σ : St) (t j : Nat) : Ob := match σ[t]? with | some e => Yr e.2 j | none => .none
def St.put : St -> Nat -> V -> St
 | [], _, _ => []
 | e :: σ, 0, v => (v, e.2) :: σ
 | e :: σ, t + 1, v => e :: St.put σ t v
def St.Z7 : St -> Nat -> Nat -> Ob -> St
 | [], _, _, _ => []
 | e :: σ, 0, j, o => (e.1, e.2.set j o) :: σ
 | e :: σ, t + 1, j, o => e :: St.Z7 σ t j o
def St.new : St -> Nat -> V -> List Ob -> St
 | [], _, _, _ => []
 | _ :: σ, 0, v, os => (v, os) :: σ
 | e :: σ, t + 1, v, os => e :: St.new σ t v os
theorem St.JU (σ : St) (t : Nat) (v : V) : (σ.put t v).length = σ.length := by
 induction σ generalizing t with
 | nil => rfl
 | cons e σ ih => cases t <;> simp [St.put, ih]
theorem St.Xv (σ : St) (t j : Nat) (o : Ob) : (σ.Z7 t j o).length = σ.length := by
 induction σ generalizing t with
 | nil => rfl
 | cons e σ ih => cases t <;> simp [St.Z7, ih]
theorem St.TZ (σ : St) (t : Nat) (v : V) (os : List Ob) : (σ.new t v os).length = σ.length := by
 induction σ generalizing t with
 | nil => rfl
 | cons e σ ih => cases t <;> simp [St.new, ih]
theorem St.yS (σ : St) (t : Nat) (v : V) (u : Nat) : (σ.put t v).get u = if u = t /\ t < σ.length then v else σ.get u := by
 induction σ generalizing t u with
 | nil => simp [St.put, St.get]
 | cons e σ ih =>
  cases t with
  | zero => cases u <;> simp [St.put, St.get]
  | succ t => cases u with
   | zero => simp [St.put, St.get]
   | succ u => have := ih t u; simp only [St.get, St.put] at this ⊢; simpa using this
theorem St.JP (σ : St) (t : Nat) (v : V) : (σ.put t v).ob = σ.ob := by
 funext u j
 induction σ generalizing t u with
 | nil => simp [St.put, St.ob]
 | cons e σ ih =>
  cases t with
  | zero => cases u <;> simp [St.put, St.ob]
  | succ t => cases u with
   | zero => simp [St.put, St.ob]
   | succ u => have := ih t u; simp only [St.ob, St.put] at this ⊢; simpa using this
theorem St.QK (σ : St) (t j : Nat) (o : Ob) (u : Nat) : (σ.Z7 t j o).get u = σ.get u := by
 induction σ generalizing t u with
 | nil => simp [St.Z7, St.get]
 | cons e σ ih =>
  cases t with
  | zero => cases u <;> simp [St.Z7, St.get]
  | succ t => cases u with
   | zero => simp [St.Z7, St.get]
   | succ u => have := ih t u; simp only [St.get, St.Z7] at this ⊢; simpa using this
theorem Bb (os : List Ob) (j : Nat) (o : Ob) (i : Nat) : Yr (os.set j o) i = if i = j /\ j < os.length then o else Yr os i := by
 unfold Yr
 rw [List.getElem?_set]
 by_cases h : j = i
 ·subst h
  by_cases h2 : j < os.length
  ·simp [h2]
  ·simp [h2]
 ·simp [h, Ne.symm h]
theorem St.JH (σ : St) (t j : Nat) (o : Ob) (u i : Nat) (hl : σ.ob t j ≠ .none) : (σ.Z7 t j o).ob u i = if u = t /\ i = j then o else σ.ob u i := by
 induction σ generalizing t u with
 | nil => simp [St.ob] at hl
 | cons e σ ih =>
  cases t with
  | zero =>
   have hj : j < e.2.length := by
    simp only [St.ob, List.getElem?_cons_zero, Yr] at hl
    rcases Nat.lt_or_ge j e.2.length with h | h
    ·exact h
    ·simp [List.getElem?_eq_none h] at hl
   cases u with
   | zero => simp [St.Z7, St.ob, Bb, hj]
   | succ u => simp [St.Z7, St.ob]
  | succ t => cases u with
   | zero => simp [St.Z7, St.ob]
   | succ u =>
    have := ih t u (by simpa [St.ob] using hl)
    simp only [St.ob, St.Z7] at this ⊢; simpa using this
theorem St.Tb (σ : St) (t : Nat) (v : V) (os : List Ob) (u : Nat) : (σ.new t v os).get u = if u = t /\ t < σ.length then v else σ.get u := by
 induction σ generalizing t u with
 | nil => simp [St.new, St.get]
 | cons e σ ih =>
  cases t with
  | zero => cases u <;> simp [St.new, St.get]
  | succ t => cases u with
   | zero => simp [St.new, St.get]
   | succ u => have := ih t u; simp only [St.get, St.new] at this ⊢; simpa using this
theorem St.Ko (σ : St) (t : Nat) (v : V) (os : List Ob) (u j : Nat) : (σ.new t v os).ob u j = if u = t /\ t < σ.length then Yr os j else σ.ob u j := by
 induction σ generalizing t u with
 | nil => simp [St.new, St.ob]
 | cons e σ ih =>
  cases t with
  | zero => cases u <;> simp [St.new, St.ob]
  | succ t => cases u with
   | zero => simp [St.new, St.ob]
   | succ u => have := ih t u; simp only [St.ob, St.new] at this ⊢; simpa using this
def Dc (h : Value) (len : Nat) : Value := match h with | .slice b _ c => .slice b len c | v => v
def tq (h : Value) (size n lo len : Nat) (v : Value) : Prop :=
 lo + len <= n /\ (len = n -> lo = 0 -> v = h) /\ (lo = 0 -> v = Dc h len) /\ ∃ base cap, v = .slice base len cap /\ len <= cap /\ cap <= maxLen /\ (base = none -> cap = 0) /\ (0 < len -> ∃ b fG, h = .slice (some ⟨b, 0, none⟩) n fG /\ base = some ⟨b, lo * size, none⟩)
def nv : Option Nat -> Value -> Value -> Prop
 | none, x, v => v = x
 | some k, x, v => ∃ b n cap, x = .slice (some ⟨b, 0, none⟩) n cap /\ v = .pointer (some ⟨b, k, none⟩)
def YK (T : CS) (h : Nat -> Nat -> Hd) (ob : Nat -> Nat -> Ob) (w : World) : At -> Value -> Prop
 | .any, v => v.oneCell' = true
 | .d x, v => Rd T w v x
 | .nil _, v => v = .slice none 0 0
 | .sref t j lo len, v => v.oneCell' = true /\ (∀ q size rows, ob t j = .arr q size rows -> tq (h t j).v size rows.length lo len v) /\ (∀ size rows, ob t j = .lit size rows -> tq (h t j).v size rows.length lo len v)
 | .ptr t j i c, v => v.oneCell' = true /\ (∀ q size rows, ob t j = .arr q size rows -> ∃ b n cap, (h t j).v = .slice (some ⟨b, 0, none⟩) n cap /\ v = .pointer (some ⟨b, i * size + c, none⟩))
 | .bptr t c, v => v.oneCell' = true /\ ∀ cells, ob t 0 = .box cells -> ∃ b, (h t 0).v = .pointer (some ⟨b, 0, none⟩) /\ v = .pointer (some ⟨b, c, none⟩)
 | .fn f t, v => v.oneCell' = true /\ ∀ cells, ob t 0 = .box cells -> ∃ b, (h t 0).v = .pointer (some ⟨b, 0, none⟩) /\ v = .func (.func f) #[] #[.pointer (some ⟨b, 0, none⟩)]
 | .rptr r c, v => ∃ b off, ∃ g : Nat -> Value, v = .pointer (some ⟨b, off + c, none⟩) /\ ∀ k d, r[k]? = some d -> w.cell? ⟨b, off + k, none⟩ = some (g k) /\ T b (off + k) /\ Rd T w (g k) d
 | .tref t j i c o, v => v.oneCell' = true /\ ∀ size rows, ob t j = .arr true size rows -> nv o ((h t j).n (i * size + c)) v
theorem YK.Xy {T : CS} {h : Nat -> Nat -> Hd} {ob : Nat -> Nat -> Ob} {w : World} {x : At} {v : Value} (r : YK T h ob w x v) : v.oneCell' = true := by
 cases x with
 | any => exact r
 | d x => exact Rd.Xy r
 | nil s => cases r; rfl
 | sref => exact r.1
 | ptr => exact r.1
 | bptr => exact r.1
 | fn => exact r.1
 | tref => exact r.1
 | rptr r' c => obtain ⟨b, off, g, rfl, _⟩ := r; rfl
inductive YA {α β : Type} (R : α -> β -> Prop) : List α -> List β -> Prop
 | nil : YA R [] []
 | cons {a b l m} : R a b -> YA R l m -> YA R (a :: l) (b :: m)
theorem YA.imp {α β : Type} {R S : α -> β -> Prop} (h : ∀ a b, R a b -> S a b) {l : List α} {m : List β} (x : YA R l m) : YA S l m := by
 induction x with
 | nil => exact .nil
 | cons r _ ih => exact .cons (h _ _ r) ih
theorem YA.length {α β : Type} {R : α -> β -> Prop} {l : List α} {m : List β} (x : YA R l m) : l.length = m.length := by
 induction x with
 | nil => rfl
 | cons r _ ih => simp [ih]
theorem YA.get {α β : Type} {R : α -> β -> Prop} {l : List α} {m : List β} (x : YA R l m) : ∀ (i : Nat) (a : α), l[i]? = some a -> ∃ b, m[i]? = some b /\ R a b := by
 induction x with
 | nil => intro i a h; simp at h
 | cons r _ ih =>
  intro i a h
  cases i with
  | zero => simp at h; subst h; exact ⟨_, by simp, r⟩
  | succ i => simpa using ih i a (by simpa using h)
theorem YA.get' {α β : Type} {R : α -> β -> Prop} {l : List α} {m : List β} (x : YA R l m) : ∀ (i : Nat) (b : β), m[i]? = some b -> ∃ a, l[i]? = some a /\ R a b := by
 induction x with
 | nil => intro i a h; simp at h
 | cons r _ ih =>
  intro i a h
  cases i with
  | zero => simp at h; subst h; exact ⟨_, by simp, r⟩
  | succ i => simpa using ih i a (by simpa using h)
theorem YA.jf {α β : Type} {R : α -> β -> Prop} {l : List α} {m : List β} (hl : l.length = m.length) (h : ∀ (i : Nat) (a : α) (b : β), l[i]? = some a -> m[i]? = some b -> R a b) : YA R l m := by
 induction l generalizing m with
 | nil => cases m with
  | nil => exact .nil
  | cons b m => simp at hl
 | cons a l ih => cases m with
  | nil => simp at hl
  | cons b m => exact .cons (h 0 a b (by simp) (by simp)) (ih (by simpa using hl) (fun i a b ha hb => h (i + 1) a b (by simpa using ha) (by simpa using hb)))
theorem YA.append {α β : Type} {R : α -> β -> Prop} {l l' : List α} {m m' : List β} (x : YA R l m) (y : YA R l' m') : YA R (l ++ l') (m ++ m') := by
 induction x with
 | nil => exact y
 | cons r _ ih => exact .cons r ih
theorem YA.take {α β : Type} {R : α -> β -> Prop} {l : List α} {m : List β} (x : YA R l m) (n : Nat) : YA R (l.take n) (m.take n) := by
 induction x generalizing n with
 | nil => simpa using YA.nil
 | cons r _ ih => cases n with
  | zero => simpa using YA.nil
  | succ n => simpa using YA.cons r (ih n)
theorem YA.drop {α β : Type} {R : α -> β -> Prop} {l : List α} {m : List β} (x : YA R l m) (n : Nat) : YA R (l.drop n) (m.drop n) := by
 induction x generalizing n with
 | nil => simpa using YA.nil
 | cons r x ih => cases n with
  | zero => simpa using YA.cons r x
  | succ n => simpa using ih n
theorem YA.set {α β : Type} {R : α -> β -> Prop} {l : List α} {m : List β} (x : YA R l m) (i : Nat) {a : α} {b : β} (r : R a b) : YA R (l.set i a) (m.set i b) := by
 induction x generalizing i with
 | nil => simpa using YA.nil
 | cons r' x ih => cases i with
  | zero => simpa using YA.cons r x
  | succ i => simpa using YA.cons r' (ih i)
theorem YA.mem {α β : Type} {R : α -> β -> Prop} {l : List α} {m : List β} (x : YA R l m) {b : β} (h : b ∈ m) : ∃ a, a ∈ l /\ R a b := by
 obtain ⟨i, hi⟩ := List.mem_iff_getElem?.1 h
 obtain ⟨a, ha, r⟩ := x.get' i b hi
 exact ⟨a, List.mem_of_getElem? ha, r⟩
def Ks (T : CS) (h : Nat -> Nat -> Hd) (ob : Nat -> Nat -> Ob) (w : World) : V -> Value -> Prop
 | .any, _ => True
 | .one x, v => YK T h ob w x v
 | .agg xs, v => ∃ cs : Array Value, v = .agg cs /\ YA (YK T h ob w) xs cs.toList
 | .tup _, _ => False
 | .cnd _ _, _ => False
 | .fix _ _, _ => False
def JD (T : CS) (h : Nat -> Nat -> Hd) (ob : Nat -> Nat -> Ob) (w : World) : V -> Value -> Prop
 | .tup xs, v => ∃ vs : Array Value, v = .tuple vs /\ YA (Ks T h ob w) xs vs.toList
 | .cnd g x, v => (g = true -> Ks T h ob w x v) /\ (g = false -> v = undef)
 | .any, _ => True
 | .one x, v => YK T h ob w x v
 | .agg xs, v => Ks T h ob w (.agg xs) v
 | .fix u x, v => v = u /\ Ks T h ob w x v
theorem Ks.up {T : CS} {h : Nat -> Nat -> Hd} {ob : Nat -> Nat -> Ob} {w : World} {x : V} {v : Value} (r : Ks T h ob w x v) : JD T h ob w x v := by
 cases x <;> first | exact r | exact r.elim
def blk : Value -> Option Nat
 | .slice (some a) _ _ => some a.block
 | .pointer (some a) => some a.block
 | _ => none
def Hd.of (v : Value) : Hd := ⟨v, fun _ => undef, fun b => blk v = some b⟩
inductive Own (w : World) : Value -> D -> (Nat -> Prop) -> Prop
 | int (k : IntKind) (n : Int) (S : Nat -> Prop) : Own w (.int k n) (.int k n) S
 | bool (b : Bool) (S : Nat -> Prop) : Own w (.bool b) (.bool b) S
 | str (s : ByteArray) (S : Nat -> Prop) : Own w (.string s) (.str s) S
 | unk (v : Value) (h : v.oneCell' = true) (S : Nat -> Prop) : Own w v .unk S
 | sl (v : Value) (size : Nat) (rows : List (List D)) (S : Nat -> Prop) (e : TypeId) (xs : List Value) (Sk : Nat -> Nat -> Prop) (ho : w.ownsRow 0 e size v rows.length xs) (hz : ∀ r ∈ rows, r.length = size)
   (hb : ∀ b, blk v = some b -> S b) (hl : xs.length = rows.flatten.length) (hk : ∀ k x d, xs[k]? = some x -> rows.flatten[k]? = some d -> Own w x d (Sk k))
   (hs : ∀ k b, Sk k b -> S b /\ blk v ≠ some b) (hd : ∀ i j b, Sk i b -> Sk j b -> i = j) : Own w v (.sl size rows) S
def Jo (w : World) (xs : List Value) (ds : List D) (S : Nat -> Prop) : Prop :=
 xs.length = ds.length /\ ∃ Sk : Nat -> Nat -> Prop, (∀ k x d, xs[k]? = some x -> ds[k]? = some d -> Own w x d (Sk k)) /\ (∀ k b, Sk k b -> S b) /\ (∀ i j b, Sk i b -> Sk j b -> i = j)
def zR (T : CS) (h : Nat -> Nat -> Hd) (ob : Nat -> Nat -> Ob) (w : World) (hd : Hd) : Ob -> Prop
 | .none => True
 | .box cells => ∃ b cs e, hd.v = .pointer (some ⟨b, 0, none⟩) /\ w.heap[b]? = some (.cells cs e (0, 0)) /\ YA (YK T h ob w) cells cs.toList
 | .arr false size rows => ∃ e xs, w.ownsRow 0 e size hd.v rows.length xs /\ (∀ r ∈ rows, r.length = size) /\ YA (Rd T w) xs rows.flatten
 | .arr true size rows => ∃ e xs, w.ownsRow 0 e size hd.v rows.length xs /\ (∀ r ∈ rows, r.length = size) /\ Jo w xs rows.flatten (fun b => hd.u b /\ blk hd.v ≠ some b) /\ (∀ k x d, xs[k]? = some x -> rows.flatten[k]? = some d -> d.scalar = false -> hd.n k = x)
 | .lit size rows => ∃ e xs, w.ownsRow 0 e size hd.v rows.length xs /\ (∀ r ∈ rows, r.length = size) /\ YA (YK T h ob w) rows.flatten xs
def Tof (T0 : CS) (X : Nat -> Prop) : CS := fun b k => T0 b k \/ X b
structure Y7 (B : Nat -> Prop) (w w' : World) : Prop where
 os : w'.os = w.os
 tape : w'.tape = w.tape
 output : w'.output = w.output
 size : w.heap.size <= w'.heap.size
 block : ∀ k, B k -> w'.heap[k]? = w.heap[k]?
theorem Y7.refl (B : Nat -> Prop) (w : World) : Y7 B w w := ⟨rfl, rfl, rfl, Nat.le_refl _, fun _ _ => rfl⟩
theorem Y7.trans {B : Nat -> Prop} {a b c : World} (h : Y7 B a b) (k : Y7 B b c) : Y7 B a c :=
 ⟨k.os.trans h.os, k.tape.trans h.tape, k.output.trans h.output, Nat.le_trans h.size k.size, fun i hi => (k.block i hi).trans (h.block i hi)⟩
theorem Y7.Ha {B : Nat -> Prop} {w w' : World} (h : RowKit.Below w.heap.size w w') (hB : ∀ b, B b -> b < w.heap.size) : Y7 B w w' := ⟨h.os, h.tape, h.output, h.size, fun k hk => h.block k (hB k hk)⟩
structure Rel (T0 : CS) (B : Nat -> Prop) (σ : St) (a : Act) (w : World) (X : Nat -> Prop) (h : Nat -> Nat -> Hd) : Prop where
 size : a.tmps.size = σ.length
 defers : a.defers = []
 hB : ∀ b, B b -> b < w.heap.size
 hX : ∀ b, X b -> ¬ B b /\ b < w.heap.size
 hT : ∀ b k, T0 b k -> B b
 slot : ∀ t, t < σ.length -> JD (Tof T0 X) h σ.ob w (σ.get t) (a.tmps.getD t undef)
 obj : ∀ t j, zR (Tof T0 X) h σ.ob w (h t j) (σ.ob t j)
 ub : ∀ t j b, σ.ob t j ≠ .none -> blk (h t j).v = some b -> (h t j).u b
 own : ∀ t j b, σ.ob t j ≠ .none -> (h t j).u b -> ¬ B b /\ ¬ X b /\ b < w.heap.size
 inj : ∀ t j t' j' b, σ.ob t j ≠ .none -> σ.ob t' j' ≠ .none -> (h t j).u b -> (h t' j').u b -> t = t' /\ j = j'
def Ku (T0 : CS) (B : Nat -> Prop) (σ : St) (a : Act) (w : World) : Prop := ∃ X h, Rel T0 B σ a w X h
theorem Rel.sJ {T0 : CS} {B : Nat -> Prop} {σ : St} {a : Act} {w : World} {X : Nat -> Prop} {h : Nat -> Nat -> Hd} (r : Rel T0 B σ a w X h) {t j b : Nat} (ho : σ.ob t j ≠ .none) (hb : blk (h t j).v = some b) : ¬ B b /\ ¬ X b /\ b < w.heap.size :=
 r.own t j b ho (r.ub t j b ho hb)
section
variable {T T' : CS} {h h' : Nat -> Nat -> Hd} {ob ir : Nat -> Nat -> Ob} {w w' : World}
theorem YK.mono (hT : ∀ b k v, T b k -> w.cell? ⟨b, k, none⟩ = some v -> w'.cell? ⟨b, k, none⟩ = some v /\ T' b k) {x : At} {v : Value}
  (r : YK T h ob w x v) : YK T' h ob w' x v := by
 cases x with
 | any => exact r
 | d x => exact Rd.mono hT r
 | nil s => exact r
 | sref t j lo len => exact r
 | ptr t j i c => exact r
 | bptr t c => exact r
 | fn f t => exact r
 | tref t j i c o => exact r
 | rptr rr c =>
  obtain ⟨b, off, g, e, hk⟩ := r
  exact ⟨b, off, g, e, fun k d hd => ⟨(hT _ _ _ (hk k d hd).2.1 (hk k d hd).1).1, (hT _ _ _ (hk k d hd).2.1 (hk k d hd).1).2, Rd.mono hT (hk k d hd).2.2⟩⟩
theorem Ks.mono (hT : ∀ b k v, T b k -> w.cell? ⟨b, k, none⟩ = some v -> w'.cell? ⟨b, k, none⟩ = some v /\ T' b k) {x : V} {v : Value}
  (r : Ks T h ob w x v) : Ks T' h ob w' x v := by
 cases x with
 | any => exact r
 | one x => exact YK.mono hT r
 | agg xs => obtain ⟨cs, e, r⟩ := r; exact ⟨cs, e, r.imp fun _ _ => YK.mono hT⟩
 | tup xs => exact r.elim
 | cnd g x => exact r.elim
 | fix u x => exact r.elim
theorem JD.mono (hT : ∀ b k v, T b k -> w.cell? ⟨b, k, none⟩ = some v -> w'.cell? ⟨b, k, none⟩ = some v /\ T' b k) {x : V} {v : Value}
  (r : JD T h ob w x v) : JD T' h ob w' x v := by
 cases x with
 | any => exact r
 | one x => exact YK.mono hT r
 | agg xs => exact Ks.mono (x := .agg xs) hT r
 | tup xs => obtain ⟨vs, e, r⟩ := r; exact ⟨vs, e, r.imp fun _ _ => Ks.mono hT⟩
 | cnd g x => exact ⟨fun hg => Ks.mono hT (r.1 hg), r.2⟩
 | fix u x => exact ⟨r.1, Ks.mono hT r.2⟩
end
end Go.Vm
namespace Go.Vm
def unc : V -> V
 | .cnd _ x => x
 | .fix _ x => x
 | x => x
def gOf : V -> Bool
 | .cnd g _ => g
 | _ => true
def ZU (P : Program) (t : TypeId) : TypeId :=
 match P.underlying t with
 | some (.slice e) => e
 | some (.array _ e) => e
 | _ => 0
def XK (P : Program) (t : TypeId) : Bool :=
 match P.underlying t with
 | some (.slice e) => (P.info? e).isSome
 | _ => false
def CD (P : Program) (t : TypeId) : Option Nat :=
 match P.underlying t with
 | some (.array n e) => if (P.info? e).isSome then some n else none
 | _ => none
def TQ (P : Program) (t : TypeId) : Bool :=
 match P.underlying t with
 | some (.struct _) | some (.array _ _) => true
 | _ => false
def qU (P : Program) (t : TypeId) : Bool :=
 (P.underlying t).isSome && (P.info? t).isSome && (TQ P t || P.cellsOf t == 1)
def Qh (P : Program) (t : TypeId) (f : Nat) : Nat :=
 match P.underlying t with
 | some (.struct fs) => (match fs[f]? with | some fd => fd.offset | none => 0)
 | _ => 0
def xv (P : Program) (t : TypeId) (f : Nat) : TypeId :=
 match P.underlying t with
 | some (.struct fs) => (match fs[f]? with | some fd => fd.type | none => 0)
 | _ => 0
def jV (P : Program) (t : TypeId) (f : Nat) : Bool :=
 match P.underlying t with
 | some (.struct fs) => (match fs[f]? with | some fd => (P.info? fd.type).isSome && decide (P.cellsOf fd.type ≠ 0) | none => false)
 | _ => false
def wq (P : Program) (t : TypeId) : Option IntKind :=
 match P.underlying t with
 | some (.int k) => some k
 | _ => none
def Uc (P : Program) (t : TypeId) : Bool :=
 match P.underlying t with
 | some .string => true
 | _ => false
def M3 (P : Program) (t : TypeId) : Bool :=
 match P.underlying t with
 | some .bool => true
 | _ => false
def cst (P : Program) (ty : TypeId) : Value -> V
 | .int k n => .one (.d (.int k n))
 | .bool b => .one (.d (.bool b))
 | .string s => .one (.d (.str s))
 | .slice none 0 0 => .one (.nil (P.cellsOf (ZU P ty)))
 | _ => .any
def look (P : Program) (σ : St) (ty : TypeId) : Operand -> V
 | .tmp t => σ.get t
 | .const v => cst P ty v
 | _ => .any
section
variable {P : Program} {T0 : CS} {B : Nat -> Prop} {σ : St} {a : Act} {w : World} {X : Nat -> Prop} {h : Nat -> Nat -> Hd}
theorem Rel.get (r : Rel T0 B σ a w X h) (t : Nat) : JD (Tof T0 X) h σ.ob w (σ.get t) (a.tmps.getD t undef) := by
 rcases Nat.lt_or_ge t σ.length with hl | hl
 ·exact r.slot t hl
 ·simp [St.get, List.getElem?_eq_none hl, JD]
theorem rm (T : CS) (h : Nat -> Nat -> Hd) (ob : Nat -> Nat -> Ob) (w : World) (ty : TypeId) (v : Value) : JD T h ob w (cst P ty v) v := by
 unfold cst
 split
 ·exact .int _ _
 ·exact .bool _
 ·exact .str _
 ·rfl
 ·trivial
theorem Rel.look (r : Rel T0 B σ a w X h) (ty : TypeId) (x : Operand) : JD (Tof T0 X) h σ.ob w (look P σ ty x) (a.eval x) := by
 cases x with
 | tmp t => exact r.get t
 | const v => exact rm _ _ _ _ _ _
 | global g => trivial
 | func f => trivial
theorem JD.unc {T : CS} {h : Nat -> Nat -> Hd} {ob : Nat -> Nat -> Ob} {w : World} {x : V} {v : Value} (r : JD T h ob w x v) (hg : gOf x = true) : JD T h ob w (unc x) v := by
 cases x with
 | cnd g x => exact Ks.up (r.1 hg)
 | fix u x => exact Ks.up r.2
 | _ => exact r
theorem Rel.arg (r : Rel T0 B σ a w X h) (ty : TypeId) (x : Operand) {v : V} (he : Vm.unc (Vm.look P σ ty x) = v) (hg : gOf (Vm.look P σ ty x) = true) : JD (Tof T0 X) h σ.ob w v (a.eval x) := by
 subst he
 exact (r.look ty x).unc hg
theorem Rel.put (r : Rel T0 B σ a w X h) (d : Nat) (v : V) (val : Value) (hv : JD (Tof T0 X) h σ.ob w v val) : Rel T0 B (σ.put d v) (a.put (some d) val) w X h := by
 refine ⟨by simp [Act.put, r.size, St.JU], r.defers, r.hB, r.hX, r.hT, fun t ht => ?_, fun t j => ?_, fun t j b => ?_, fun t j b => ?_, fun t j t' j' b => ?_⟩
 ·rw [St.JP, St.yS]
  rw [St.JU] at ht
  by_cases hd : t = d /\ d < σ.length
  ·obtain ⟨rfl, hl⟩ := hd
   simp only [hl, and_self, if_true]
   have : (a.tmps.setIfInBounds t val).getD t undef = val := by simp [r.size, hl]
   simp only [Act.put, this]; exact hv
  ·rw [if_neg hd]
   have lD : d ≠ t := fun e => hd ⟨e.symm, e ▸ ht⟩
   have : (a.tmps.setIfInBounds d val).getD t undef = a.tmps.getD t undef := by simp [Array.getElem?_setIfInBounds_ne lD]
   simp only [Act.put, this]; exact r.slot t ht
 ·rw [St.JP]; exact r.obj t j
 ·rw [St.JP]; exact r.ub t j b
 ·rw [St.JP]; exact r.own t j b
 ·rw [St.JP]; exact r.inj t j t' j' b
end
def ldV (P : Program) (T : TypeId) (xs : List At) : V := if TQ P T then .agg xs else (match xs with | [x] => .one x | _ => .any)
def oC (k : IntKind) (x y : Int) : Int := k.wrap (BitVec.ofInt k.bits x &&& BitVec.ofInt k.bits y).toNat
def iOr (k : IntKind) (x y : Int) : Int := k.wrap (BitVec.ofInt k.bits x ||| BitVec.ofInt k.bits y).toNat
def oO (k : IntKind) (x y : Int) : Int := k.wrap (BitVec.ofInt k.bits x ^^^ BitVec.ofInt k.bits y).toNat
def Hm (op : BinOp) (k : IntKind) (x y : Int) (v : V) : Prop :=
 match op with
 | .eql => v = .one (.d (.bool (x == y)))
 | .neq => v = .one (.d (.bool (x != y)))
 | .lss => v = .one (.d (.bool (decide (x < y))))
 | .leq => v = .one (.d (.bool (decide (x <= y))))
 | .gtr => v = .one (.d (.bool (decide (x > y))))
 | .geq => v = .one (.d (.bool (decide (x >= y))))
 | .add => v = .one (.d (.int k (k.wrap (x + y))))
 | .sub => v = .one (.d (.int k (k.wrap (x - y))))
 | .mul => v = .one (.d (.int k (k.wrap (x * y))))
 | .quo => y ≠ 0 /\ v = .one (.d (.int k (k.wrap (x.tdiv y))))
 | .rem => y ≠ 0 /\ v = .one (.d (.int k (x.tmod y)))
 | .and => v = .one (.d (.int k (oC k x y)))
 | .or => v = .one (.d (.int k (iOr k x y)))
 | .xor => v = .one (.d (.int k (oO k x y)))
 | .shl => 0 <= y /\ v = .one (.d (.int k (k.wrap (x * 2 ^ (min y.toNat k.bits)))))
 | .shr => 0 <= y /\ v = .one (.d (.int k (x.fdiv (2 ^ (min y.toNat k.bits)))))
 | _ => False
def H6 (op : BinOp) (x y : ByteArray) (v : V) : Prop :=
 match op with
 | .add => ((x.size + y.size : Nat) : Int) <= 9223372036854775807 /\ v = .one (.d (.str (x ++ y)))
 | .eql => v = .one (.d (.bool (decide (x = y))))
 | .neq => v = .one (.d (.bool (!decide (x = y))))
 | _ => False
def NZ (op : BinOp) (x y : Bool) (v : V) : Prop :=
 match op with
 | .eql => v = .one (.d (.bool (x == y)))
 | .neq => v = .one (.d (.bool (!(x == y))))
 | _ => False
theorem wF {P : Program} {op : BinOp} {k : IntKind} {x y : Int} {v : V} {t : TypeId} {kk : IntKind} (hk : (op = .shl \/ op = .shr) \/ kk = k) (hb : Hm op k x y v) (w : World) :
  ∃ d, v = .one (.d d) /\ ∃ val, (binOp op t (.int k x) (.int kk y)).run P w = .ok val w /\ ∀ T w', Rd T w' val d := by
 cases op <;> simp only [Hm] at hb
 case shl => obtain ⟨h0, rfl⟩ := hb; exact ⟨_, rfl, _, by simp [binOp, Op.shift, Int.not_lt.2 h0], fun _ _ => .int _ _⟩
 case shr => obtain ⟨h0, rfl⟩ := hb; exact ⟨_, rfl, _, by simp [binOp, Op.shift, Int.not_lt.2 h0], fun _ _ => .int _ _⟩
 all_goals (have hkk : kk = k := by rcases hk with (hk | hk) | hk <;> first | exact hk | cases hk)
 all_goals subst hkk
 case quo => obtain ⟨h0, rfl⟩ := hb; exact ⟨_, rfl, _, by simp [binOp, Op.intDiv, h0], fun _ _ => .int _ _⟩
 case rem => obtain ⟨h0, rfl⟩ := hb; exact ⟨_, rfl, _, by simp [binOp, Op.intDiv, h0], fun _ _ => .int _ _⟩
 case add => subst hb; exact ⟨_, rfl, _, by simp [binOp, Op.intArith], fun _ _ => .int _ _⟩
 case sub => subst hb; exact ⟨_, rfl, _, by simp [binOp, Op.intArith], fun _ _ => .int _ _⟩
 case mul => subst hb; exact ⟨_, rfl, _, by simp [binOp, Op.intArith], fun _ _ => .int _ _⟩
 case and => subst hb; exact ⟨_, rfl, _, by simp [binOp, Op.intBits, oC], fun _ _ => .int _ _⟩
 case or => subst hb; exact ⟨_, rfl, _, by simp [binOp, Op.intBits, iOr], fun _ _ => .int _ _⟩
 case xor => subst hb; exact ⟨_, rfl, _, by simp [binOp, Op.intBits, oO], fun _ _ => .int _ _⟩
 all_goals (subst hb; exact ⟨_, rfl, .bool _, by simp only [binOp, Op.intCmp, ne_eq, not_true_eq_false, if_false]; rfl, fun _ _ => .bool _⟩)
theorem wi (x y : ByteArray) : (x.toList == y.toList) = decide (x = y) := by
 rw [ByteArray.toList_eq, ByteArray.toList_eq, Bool.eq_iff_iff]
 simp only [beq_iff_eq, decide_eq_true_eq]
 constructor
 ·intro hh; cases x; cases y; simp_all
 ·rintro rfl; rfl
theorem wa {P : Program} {op : BinOp} {x y : ByteArray} {v : V} {t : TypeId} (hb : H6 op x y v) (w : World) :
  ∃ d, v = .one (.d d) /\ ∃ val, (binOp op t (.string x) (.string y)).run P w = .ok val w /\ ∀ T w', Rd T w' val d := by
 cases op <;> simp only [H6] at hb
 case add => obtain ⟨h0, rfl⟩ := hb; exact ⟨_, rfl, _, by simp only [binOp, Op.stringOp]; rw [if_neg (by simp [IntKind.max, IntKind.signed, IntKind.bits]; omega)]; rfl, fun _ _ => .str _⟩
 case eql => subst hb; exact ⟨_, rfl, .bool _, by simp only [binOp, Op.stringOp, wi]; rfl, fun _ _ => .bool _⟩
 case neq => subst hb; exact ⟨_, rfl, .bool _, by simp only [binOp, Op.stringOp, wi]; rfl, fun _ _ => .bool _⟩
theorem run_equalIn_bool {P : Program} {t : TypeId} (hu : P.underlying t = some .bool) (d : Nat) (x y : Bool) (w : World) : (Op.equalIn (d + 1) t (.bool x) (.bool y)).run P w = .ok (x == y) w := by
 simp [Op.equalIn, run_underlying hu]
theorem AQ {P : Program} {op : BinOp} {x y : Bool} {v : V} {t : TypeId} (ht : M3 P t = true) (hb : NZ op x y v) (w : World) :
  ∃ d, v = .one (.d d) /\ ∃ val, (binOp op t (.bool x) (.bool y)).run P w = .ok val w /\ ∀ T w', Rd T w' val d := by
 have hu : P.underlying t = some .bool := by
  unfold M3 at ht; split at ht <;> first | assumption | cases ht
 cases op <;> simp only [NZ] at hb
 case eql => subst hb; exact ⟨_, rfl, _, by simp only [binOp, Op.equal, Op.maxDepth, Sem.run_bind, run_equalIn_bool hu 9999, Result.andThen_ok, Sem.run_pure], fun _ _ => .bool _⟩
 case neq => subst hb; exact ⟨_, rfl, _, by simp only [binOp, Op.equal, Op.maxDepth, Sem.run_bind, run_equalIn_bool hu 9999, Result.andThen_ok, Sem.run_pure], fun _ _ => .bool _⟩
end Go.Vm
namespace Go.Vm
def W5 (P : Program) (σ : St) (x : Operand) (k : IntKind) (n : Int) : Prop := gOf (look P σ 0 x) = true /\ unc (look P σ 0 x) = .one (.d (.int k n))
def bnd (P : Program) (σ : St) (iW : Nat) : Option Operand -> Nat -> Prop
 | none, n => n = iW
 | some x, n => ∃ k i, gOf (look P σ 0 x) = true /\ unc (look P σ 0 x) = .one (.d (.int k i)) /\ 0 <= i /\ n = i.toNat
def cut {α : Type} (xs : List α) (off n : Nat) : List α := (xs.drop off).take n
def j5 (P : Program) : Nat -> TypeId -> Option (List At)
 | 0, _ => none
 | n + 1, t =>
  match P.underlying t with
  | some .bool => some [.d (.bool false)]
  | some (.int k) => some [.d (.int k 0)]
  | some .string => some [.d (.str ⟨#[]⟩)]
  | some (.slice e) => some [.nil (P.cellsOf e)]
  | some (.struct fs) => (fs.toList.mapM (fun f => j5 P n f.type)).map List.flatten
  | some (.array m e) => (j5 P n e).map (fun r => (List.replicate m r).flatten)
  | _ => none
def zAt : At -> Value -> Bool
 | .d (.bool b), .bool b' => b == b'
 | .d (.int k n), .int k' n' => k == k' && n == n'
 | .d (.str s), .string s' => s.data.toList == s'.data.toList
 | .nil _, .slice none 0 0 => true
 | _, _ => false
def ue : List At -> List Value -> Bool
 | [], [] => true
 | x :: xs, v :: vs => zAt x v && ue xs vs
 | _, _ => false
def QF (P : Program) (t : TypeId) : Bool :=
 match j5 P 12 t, P.info? t with
 | some row, some i => (match i.zero with | some z => ue row z.cells.toList && i.size == row.length | none => false)
 | _, _ => false
theorem rF {x : At} {v : Value} (hz : zAt x v = true) (T : CS) (h : Nat -> Nat -> Hd) (ob : Nat -> Nat -> Ob) (w : World) : YK T h ob w x v := by
 unfold zAt at hz
 split at hz
 ·simp at hz; subst hz; exact .bool _
 ·simp at hz; obtain ⟨rfl, rfl⟩ := hz; exact .int _ _
 ·rename_i s s'
  simp at hz
  have : s = s' := by cases s; cases s'; simp_all
  subst this; exact .str _
 ·rfl
 ·cases hz
theorem tW {xs : List At} {vs : List Value} (hz : ue xs vs = true) (T : CS) (h : Nat -> Nat -> Hd) (ob : Nat -> Nat -> Ob) (w : World) : YA (YK T h ob w) xs vs := by
 induction xs generalizing vs with
 | nil => cases vs with
  | nil => exact .nil
  | cons v vs => simp [ue] at hz
 | cons x xs ih => cases vs with
  | nil => simp [ue] at hz
  | cons v vs => simp [ue] at hz; exact .cons (rF hz.1 _ _ _ _) (ih hz.2)
theorem GY {P : Program} {t : TypeId} {row : List At} (hz : QF P t = true) (hr : j5 P 12 t = some row) :
  ∃ i z, P.info? t = some i /\ i.zero = some z /\ i.size = row.length /\ (∀ T h ob w, YA (YK T h ob w) row z.cells.toList) := by
 unfold QF at hz
 rw [hr] at hz
 split at hz
 ·rename_i lj i lp hi
  cases lp
  split at hz
  ·rename_i z fE
   simp at hz
   exact ⟨i, z, hi, fE, hz.2, fun T h ob w => tW hz.1 T h ob w⟩
  ·cases hz
 ·cases hz
def V.cells : V -> List At
 | .one c => [c]
 | .agg xs => xs
 | _ => []
def V.flat : V -> Bool
 | .one _ => true
 | .agg _ => true
 | _ => false
def place {α : Type} (r : List α) (off : Nat) (xs : List α) : List α := r.take off ++ xs ++ r.drop (off + xs.length)
def Sl (P : Program) (T : TypeId) (i : Nat) : Nat := match P.underlying T with | some (.array _ e) => i * P.cellsOf e | _ => Qh P T i
def bTy (P : Program) (T : TypeId) (i : Nat) : TypeId := match P.underlying T with | some (.array _ e) => e | _ => xv P T i
def bOk (P : Program) (T : TypeId) (i : Nat) : Bool := match P.underlying T with
 | some (.array _ e) => (P.info? e).isSome
 | some (.struct fs) => fs.all (fun f => (P.info? f.type).isSome) && decide (i < fs.size)
 | _ => false
def Uk (P : Program) (σ : St) (T : TypeId) : List (Nat × Operand) -> List At -> List At -> Prop
 | [], r, out => out = r
 | (i, x) :: ps, r, out => bOk P T i = true /\ gOf (look P σ (bTy P T i) x) = true /\ (unc (look P σ (bTy P T i) x)).flat = true /\
   (unc (look P σ (bTy P T i) x)).cells.length = P.cellsOf (bTy P T i) /\ Sl P T i + P.cellsOf (bTy P T i) <= r.length /\
   Uk P σ T ps (place r (Sl P T i) (unc (look P σ (bTy P T i) x)).cells) out
def C8 (P : Program) (t : TypeId) : Bool := match P.underlying t with | some .bool => true | some (.int _) => true | some .string => true | _ => false
def Th (P : Program) : List Field -> Nat -> Bool
 | [], _ => true
 | f :: fs, i => decide (f.name ≠ "_") && f.offset == i && C8 P f.type && Th P fs (i + 1)
def Uj (P : Program) (t : TypeId) : Bool := match P.underlying t with
 | some (.struct fs) => !P.stoodInHeld t && !P.eqGuardType P.depth t && Th P fs.toList 0
 | _ => false
def sX (P : Program) (t : TypeId) : At -> At -> Option Bool
 | .d (.int k a), .d (.int k' b) => if k = k' /\ (wq P t).isSome then some (a == b) else none
 | .d (.bool a), .d (.bool b) => if M3 P t then some (a == b) else none
 | .d (.str a), .d (.str b) => if Uc P t then some (decide (a = b)) else none
 | _, _ => none
def jz (P : Program) : List Field -> List At -> List At -> Option Bool
 | [], _, _ => some true
 | f :: fs, x :: xs, y :: ys => (match sX P f.type x y, jz P fs xs ys with | some p, some q => some (p && q) | _, _ => none)
 | _, _, _ => none
def AS (P : Program) (op : BinOp) (T : TypeId) (x y v : V) : Prop :=
 match x, y with
 | .one (.d (.int k m)), .one (.d (.int k' n)) => ((op = .shl \/ op = .shr) \/ k' = k) /\ Hm op k m n v
 | .one (.d (.str m)), .one (.d (.str n)) => H6 op m n v
 | .one (.d (.bool m)), .one (.d (.bool n)) => M3 P T = true /\ NZ op m n v
 | .agg xs, .agg ys => Uj P T = true /\ ∃ q, jz P (P.fieldsOf T).toList xs ys = some q /\ ((op = .eql /\ v = .one (.d (.bool q))) \/ (op = .neq /\ v = .one (.d (.bool (!q)))))
 | _, _ => False
def WS (t j i : Nat) : Nat -> List D -> List At
 | _, [] => []
 | c, x :: xs => (match x with | .sl _ _ => .tref t j i c none | x => .d x) :: WS t j i (c + 1) xs
def Tj (q : Bool) (t j i c : Nat) (xs : List D) : List At := match q with | true => WS t j i c xs | false => xs.map .d
def Yh (P : Program) (σ : St) (op : Op) (ty : TypeId) (v : V) : Prop :=
 match op with
 | .move x => v = look P σ ty x
 | .assign x => v = look P σ ty x
 | .pick c a b => ∃ bc p q, gOf (look P σ ty c) = true /\ unc (look P σ ty c) = .one (.d (.bool bc)) /\ (bc = true -> unc (look P σ ty a) = .one (.d (.bool p))) /\ (bc = false -> unc (look P σ ty b) = .one (.d (.bool q))) /\
   (bc = true -> gOf (look P σ ty a) = true) /\ (bc = false -> gOf (look P σ ty b) = true) /\ v = .one (.d (.bool (cond bc p q)))
 | .load T x => gOf (look P σ 0 x) = true /\ qU P T = true /\
   (match unc (look P σ 0 x) with
   | .one (.bptr t c) => ∃ cells, σ.ob t 0 = .box cells /\ c + P.cellsOf T <= cells.length /\ v = ldV P T (cut cells c (P.cellsOf T))
   | .one (.ptr t j i c) => ∃ q size rows, σ.ob t j = .arr q size rows /\ i < rows.length /\ c + P.cellsOf T <= size /\ v = ldV P T (Tj q t j i c (cut (rows.getD i []) c (P.cellsOf T)))
   | .one (.rptr r c) => c + P.cellsOf T <= r.length /\ v = ldV P T ((cut r c (P.cellsOf T)).map .d)
   | _ => False)
 | .fieldAddr T x f => gOf (look P σ 0 x) = true /\ jV P T f = true /\
   (match unc (look P σ 0 x) with
   | .one (.bptr t c) => (∃ cells, σ.ob t 0 = .box cells) /\ v = .one (.bptr t (c + Qh P T f))
   | .one (.ptr t j i c) => (∃ q size rows, σ.ob t j = .arr q size rows) /\ v = .one (.ptr t j i (c + Qh P T f))
   | .one (.rptr r c) => v = .one (.rptr r (c + Qh P T f))
   | .one (.tref t j i c (some k)) => (∃ size rows, σ.ob t j = .arr true size rows) /\ v = .one (.tref t j i c (some (k + Qh P T f)))
   | _ => False)
 | .nilCheck x => gOf (look P σ 0 x) = true /\
   (match unc (look P σ 0 x) with
   | .one (.bptr t c) => (∃ cells, σ.ob t 0 = .box cells) /\ v = .one (.bptr t c)
   | _ => False)
 | .indexAddr T x ix => ∃ k i, W5 P σ ix k i /\ 0 <= i /\ gOf (look P σ 0 x) = true /\
   (match unc (look P σ 0 x) with
   | .one (.d (.sl size rows)) => XK P T = true /\ size = P.cellsOf (ZU P T) /\ 0 < size /\ i < (rows.length : Int) /\ v = .one (.rptr (rows.getD i.toNat []) 0)
   | .one (.sref t j lo len) => XK P T = true /\ 0 < P.cellsOf (ZU P T) /\ (∃ q rows, σ.ob t j = .arr q (P.cellsOf (ZU P T)) rows) /\ i < (len : Int) /\ v = .one (.ptr t j (lo + i.toNat) 0)
   | .one (.bptr t c) => (∃ cells, σ.ob t 0 = .box cells) /\ (∃ n, CD P T = some n /\ 1 < n /\ i < (n : Int)) /\ v = .one (.bptr t (c + i.toNat * P.cellsOf (ZU P T)))
   | .one (.tref t j m c none) => XK P T = true /\ 0 < P.cellsOf (ZU P T) /\ (∃ size rows s, σ.ob t j = .arr true size rows /\ m < rows.length /\ (rows.getD m [])[c]? = some (.sl (P.cellsOf (ZU P T)) s) /\ i < (s.length : Int)) /\ v = .one (.tref t j m c (some (i.toNat * P.cellsOf (ZU P T))))
   | _ => False)
 | .index T x ix => ∃ k i, W5 P σ ix k i /\ 0 <= i /\ gOf (look P σ 0 x) = true /\
   (match unc (look P σ 0 x) with
   | .one (.d (.str s)) => Uc P T = true /\ i < (s.size : Int) /\ v = .one (.d (.int .u8 (s.data.toList.getD i.toNat 0).toNat))
   | .agg xs => (∃ n, CD P T = some n /\ i < (n : Int)) /\ qU P (ZU P T) = true /\ i.toNat * P.cellsOf (ZU P T) + P.cellsOf (ZU P T) <= xs.length /\ v = ldV P (ZU P T) (cut xs (i.toNat * P.cellsOf (ZU P T)) (P.cellsOf (ZU P T)))
   | _ => False)
 | .slice T x lo hi none => gOf (look P σ 0 x) = true /\
   (match unc (look P σ 0 x) with
   | .one (.d (.str s)) => Uc P T = true /\ ∃ l h, bnd P σ 0 lo l /\ bnd P σ s.size hi h /\ l <= h /\ h <= s.size /\ v = .one (.d (.str (s.extract l h)))
   | .one (.d (.sl size rows)) => XK P T = true /\ size = P.cellsOf (ZU P T) /\ ∃ l h, bnd P σ 0 lo l /\ bnd P σ rows.length hi h /\ l <= h /\ h <= rows.length /\ v = .one (.d (.sl size (cut rows l (h - l))))
   | .one (.sref t j o len) => XK P T = true /\ (∃ q rows, σ.ob t j = .arr q (P.cellsOf (ZU P T)) rows) /\ ∃ l h, bnd P σ 0 lo l /\ bnd P σ len hi h /\ l <= h /\ h <= len /\ v = .one (.sref t j (o + l) (h - l))
   | _ => False)
 | .binOp op T x y _ => gOf (look P σ T x) = true /\ gOf (look P σ T y) = true /\
   AS P op T (unc (look P σ T x)) (unc (look P σ T y)) v
 | .unOp op _ x => gOf (look P σ 0 x) = true /\
   (match op, unc (look P σ 0 x) with
   | .not, .one (.d (.bool b)) => v = .one (.d (.bool (!b)))
   | .neg, .one (.d (.int k n)) => v = .one (.d (.int k (k.wrap (-n))))
   | _, _ => False)
 | .convert S T x => gOf (look P σ 0 x) = true /\ (P.underlying S).isSome = true /\
   (match unc (look P σ 0 x) with
   | .one (.d (.int _ n)) => ∃ k, wq P T = some k /\ v = .one (.d (.int k (k.wrap n)))
   | _ => False)
 | .extract x i => gOf (look P σ 0 x) = true /\
   (match unc (look P σ 0 x) with
   | .tup xs => xs[i]? = some v /\ v.flat = true
   | _ => False)
 | .field T x f => gOf (look P σ 0 x) = true /\ jV P T f = true /\ qU P (xv P T f) = true /\
   (match unc (look P σ 0 x) with
   | .agg xs => Qh P T f + P.cellsOf (xv P T f) <= xs.length /\ v = ldV P (xv P T f) (cut xs (Qh P T f) (P.cellsOf (xv P T f)))
   | _ => False)
 | .build T parts => QF P T = true /\ TQ P T = true /\ ∃ z out, j5 P 12 T = some z /\ Uk P σ T parts.toList z out /\ v = .agg out
 | .call c =>
   (match c.callee, c.args.toList, c.argTypes.toList with
   | .builtin .len, [x], [t] => gOf (look P σ t x) = true /\
     (match unc (look P σ t x) with
     | .one (.d (.str s)) => Uc P t = true /\ v = .one (.d (.int .i64 s.size))
     | .one (.d (.sl _ rows)) => XK P t = true /\ v = .one (.d (.int .i64 rows.length))
     | .one (.nil _) => XK P t = true /\ v = .one (.d (.int .i64 0))
     | .one (.sref u j _ len) => XK P t = true /\ ((∃ q size rows, σ.ob u j = .arr q size rows) \/ ∃ size rows, σ.ob u j = .lit size rows) /\ v = .one (.d (.int .i64 len))
     | _ => False)
   | .builtin .max, [x, y], _ => ∃ k m n, W5 P σ x k m /\ W5 P σ y k n /\ v = .one (.d (.int k (if n > m then n else m)))
   | .builtin .min, [x, y], _ => ∃ k m n, W5 P σ x k m /\ W5 P σ y k n /\ v = .one (.d (.int k (if n < m then n else m)))
   | _, _, _ => False)
 | _ => False
end Go.Vm
namespace Go.Vm
section
variable {P : Program} {T0 : CS} {B : Nat -> Prop} {σ : St} {a : Act} {w : World} {X : Nat -> Prop} {h : Nat -> Nat -> Hd}
theorem xG (b off n : Nat) : (⟨b, off, none⟩ : Addr).add n = ⟨b, off + n, none⟩ := by
 unfold Addr.add; split <;> simp_all
theorem j8 {T : TypeId} (ht : qU P T = true) : ∃ d i, P.underlying T = some d /\ P.info? T = some i /\ i.size = P.cellsOf T /\ (TQ P T = true \/ P.cellsOf T = 1) := by
 simp only [qU, Bool.and_eq_true, Bool.or_eq_true, beq_iff_eq] at ht
 obtain ⟨⟨h1, h2⟩, h3⟩ := ht
 obtain ⟨d, hd⟩ := Option.isSome_iff_exists.1 h1
 obtain ⟨i, hi⟩ := Option.isSome_iff_exists.1 h2
 exact ⟨d, i, hd, hi, by simp [Program.cellsOf, hi], h3⟩
theorem PA {T : TypeId} {d : TypeDesc} (hd : P.underlying T = some d) (w : World) : (isAgg T).run P w = .ok (TQ P T) w := by
 unfold isAgg TQ
 rw [hd]
 simp only [Sem.run_bind, run_underlying hd, Result.andThen_ok]
 cases d <;> simp
theorem Kj {T : TypeId} {i : TypeInfo} (hi : P.info? T = some i) (w : World) : (sizeOf T).run P w = .ok (P.cellsOf T) w := by
 simp [sizeOf, typeInfo, hi, Program.cellsOf]
theorem tC {T : TypeId} (ht : qU P T = true) {b off : Nat} {cs : List Value} (hl : cs.length = P.cellsOf T) (hc : ∀ j v, cs[j]? = some v -> w.cell? ⟨b, off + j, none⟩ = some v) :
  ∃ val, (Instr.loadAt T (.pointer (some ⟨b, off, none⟩))).run P w = .ok val w /\ (TQ P T = true -> val = .agg cs.toArray) /\ (TQ P T = false -> cs = [val]) := by
 obtain ⟨d, i, hd, hi, l7, l3⟩ := j8 ht
 cases ff : TQ P T with
 | true =>
  refine ⟨.agg cs.toArray, ?_, fun _ => rfl, (fun hh => by cases hh)⟩
  have := run_loadCells_list (P := P) w ⟨b, off, none⟩ cs (fun j v hv => by rw [xG]; exact hc j v hv)
  simp only [Instr.loadAt, Instr.sureAddr, loadVar, Sem.run_bind, Sem.run_pure, Result.andThen_ok, PA hd, ff, if_true, Kj hi, <- hl, this]
 | false =>
  rcases l3 with l3 | l3
  ·rw [ff] at l3; cases l3
  ·rw [l3] at hl
   obtain ⟨val, rfl⟩ := List.length_eq_one_iff.1 hl
   refine ⟨val, ?_, (fun hh => by cases hh), fun _ => rfl⟩
   have bw := hc 0 val (by simp)
   simp only [Nat.add_zero] at bw
   simp [Instr.loadAt, Instr.sureAddr, loadVar, PA hd, ff, load, Sem.run, bw]
theorem vY {T : TypeId} (_ht : qU P T = true) {T' : CS} {ob : Nat -> Nat -> Ob} {xs : List At} {cs : List Value} {val : Value} (hx : YA (YK T' h ob w) xs cs)
  (h1 : TQ P T = true -> val = .agg cs.toArray) (h2 : TQ P T = false -> cs = [val]) : JD T' h ob w (ldV P T xs) val := by
 unfold ldV
 cases ff : TQ P T with
 | true => simp only [if_true]; exact ⟨_, h1 ff, by simpa using hx⟩
 | false =>
  simp only [Bool.false_eq_true, if_false]
  rw [h2 ff] at hx
  cases hx with
  | cons r hx => cases hx; exact r
theorem YA.cut {α β : Type} {R : α -> β -> Prop} {l : List α} {m : List β} (x : YA R l m) (o n : Nat) : YA R (Vm.cut l o n) (Vm.cut m o n) := (x.drop o).take n
theorem XH {α : Type} (l : List α) (o n : Nat) (hl : o + n <= l.length) : (cut l o n).length = n := by simp [cut]; omega
theorem yI {α : Type} (l : List α) (o n j : Nat) (v : α) (hv : (cut l o n)[j]? = some v) : l[o + j]? = some v := by
 simp only [cut, List.getElem?_take, List.getElem?_drop] at hv
 split at hv
 ·exact hv
 ·cases hv
theorem jH {α : Type} : ∀ (rows : List (List α)) (size : Nat), (∀ r ∈ rows, r.length = size) -> ∀ (i : Nat) (r : List α), rows[i]? = some r -> ∀ (j : Nat) (d : α), r[j]? = some d -> rows.flatten[i * size + j]? = some d
 | [], _, _, i, r, hr, _, _, _ => by simp at hr
 | r0 :: rows, size, hz, 0, r, hr, j, d, hd => by
  simp at hr; subst hr
  have hj : j < r0.length := (List.getElem?_eq_some_iff.1 hd).1
  simp [List.getElem?_append_left hj, hd]
 | r0 :: rows, size, hz, i + 1, r, hr, j, d, hd => by
  have ih := jH rows size (fun r hr => hz r (by simp [hr])) i r (by simpa using hr) j d hd
  have h0 : r0.length = size := hz r0 (by simp)
  rw [List.flatten_cons, List.getElem?_append_right (by rw [h0, Nat.add_mul]; omega), h0]
  have : (i + 1) * size + j - size = i * size + j := by rw [Nat.add_mul]; omega
  rw [this]; exact ih
theorem YQ {α : Type} (rows : List (List α)) (size : Nat) (hz : ∀ r ∈ rows, r.length = size) : rows.flatten.length = rows.length * size := by
 induction rows with
 | nil => simp
 | cons r rows ih => rw [List.flatten_cons, List.length_append, ih (fun r hr => hz r (by simp [hr])), hz r (by simp), List.length_cons, Nat.add_mul]; omega
theorem Rd.row {T : CS} {v : Value} {size : Nat} {rows : List (List D)} (r : Rd T w v (.sl size rows)) (i : Nat) (hi : i < rows.length) (l7 : 0 < size) :
  ∃ a len cap, v = .slice (some a) len cap /\ len = rows.length /\ a.spot = none /\
   ∃ g : Nat -> Value, ∀ k d, (rows.getD i [])[k]? = some d -> w.cell? ⟨a.block, a.off + i * size + k, none⟩ = some (g k) /\ T a.block (a.off + i * size + k) /\ Rd T w (g k) d := by
 cases r with
 | nil => simp at hi
 | sl a len cap size rows g hl hc hm hz hs hg hr =>
  have lX : rows[i]? = some (rows.getD i []) := by simp [List.getD_eq_getElem?_getD, List.getElem?_eq_getElem hi]
  have lD : rows.flatten ≠ [] := by
   have hlen := YQ rows size hz
   have hp : 0 < rows.length * size := Nat.mul_pos (by omega) l7
   intro he
   have h0 : rows.flatten.length = 0 := by rw [he]; rfl
   omega
  refine ⟨a, len, cap, rfl, hl.symm, hs lD, fun k => g (i * size + k), fun k d hd => ?_⟩
  have hf := jH rows size hz i _ lX k d hd
  have h1 := hg _ _ hf
  rw [Nat.add_assoc]
  exact ⟨h1.1, h1.2, hr _ _ hf⟩
theorem Fs {T : CS} {v : Value} {size : Nat} {rows : List (List D)} (r : Rd T w v (.sl size rows)) : ∀ x ∈ rows, x.length = size := by
 cases r with
 | nil => intro x hx; cases hx
 | sl a len cap size rows g hl hc hm hz hs hg hr => exact hz
theorem vC {T : CS} {v : Value} {size : Nat} {rows : List (List D)} (r : Rd T w v (.sl size rows)) : ∃ base cap, v = .slice base rows.length cap /\ rows.length <= cap /\ cap <= maxLen := by
 cases r with
 | nil => exact ⟨none, 0, rfl, by simp, by simp [maxLen]⟩
 | sl a len cap size rows g hl hc hm hz hs hg hr => exact ⟨some a, cap, by rw [hl], by omega, hm⟩
theorem QG {t : TypeId} (ht : XK P t = true) : ∃ i, P.underlying t = some (.slice (ZU P t)) /\ P.info? (ZU P t) = some i /\ i.size = P.cellsOf (ZU P t) := by
 unfold XK at ht
 split at ht
 ·rename_i e he
  obtain ⟨i, hi⟩ := Option.isSome_iff_exists.1 ht
  have : ZU P t = e := by simp [ZU, he]
  rw [this]
  exact ⟨i, he, hi, by simp [Program.cellsOf, hi]⟩
 ·cases ht
theorem H3 {t : TypeId} {n : Nat} (ht : CD P t = some n) : ∃ i, P.underlying t = some (.array n (ZU P t)) /\ P.info? (ZU P t) = some i /\ i.size = P.cellsOf (ZU P t) := by
 unfold CD at ht
 split at ht
 ·rename_i m e he
  split at ht
  ·rename_i hh
   cases ht
   obtain ⟨i, hi⟩ := Option.isSome_iff_exists.1 hh
   have : ZU P t = e := by simp [ZU, he]
   rw [this]
   exact ⟨i, he, hi, by simp [Program.cellsOf, hi]⟩
  ·cases ht
 ·cases ht
theorem Pk {t : TypeId} {f : Nat} (ht : jV P t f = true) : ∃ fs fd i, P.underlying t = some (.struct fs) /\ fs[f]? = some fd /\ fd.offset = Qh P t f /\ fd.type = xv P t f /\ P.info? fd.type = some i /\ i.size ≠ 0 := by
 unfold jV at ht
 split at ht
 ·rename_i fs he
  split at ht
  ·rename_i fd hf
   simp at ht
   obtain ⟨i, hi⟩ := Option.isSome_iff_exists.1 ht.1
   exact ⟨fs, fd, i, he, hf, by simp [Qh, he, hf], by simp [xv, he, hf], hi, by simpa [Program.cellsOf, hi] using ht.2⟩
  ·cases ht
 ·cases ht
theorem qk {t : TypeId} (ht : Uc P t = true) : P.underlying t = some .string := by
 unfold Uc at ht; split at ht <;> first | assumption | cases ht
theorem Gj {t : TypeId} {k : IntKind} (ht : wq P t = some k) : P.underlying t = some (.int k) := by
 unfold wq at ht
 split at ht
 ·cases ht; assumption
 ·cases ht
theorem T5 {T : CS} {v : Value} {k : IntKind} {n : Int} (r : Rd T w v (.int k n)) : v = .int k n := by cases r; rfl
theorem jy {T : CS} {v : Value} {b : Bool} (r : Rd T w v (.bool b)) : v = .bool b := by cases r; rfl
theorem RD {T : CS} {v : Value} {s : ByteArray} (r : Rd T w v (.str s)) : v = .string s := by cases r; rfl
theorem xM (r : Rel T0 B σ a w X h) {x : Operand} {k : IntKind} {n : Int} (hx : W5 P σ x k n) : a.eval x = .int k n :=
 T5 (r.arg 0 x hx.2 hx.1)
end
end Go.Vm
namespace Go.Vm
section
variable {P : Program} {T0 : CS} {B : Nat -> Prop} {σ : St} {a : Act} {w : World} {X : Nat -> Prop} {h : Nat -> Nat -> Hd}
theorem Own.Xy {v : Value} {d : D} {S : Nat -> Prop} (h : Own w v d S) : v.oneCell' = true := by
 cases h with
 | int => rfl
 | bool => rfl
 | str => rfl
 | unk _ h => exact h
 | sl v size rows S e xs Sk ho hz hb hl hk hs hd => rcases ho.2 with ⟨rfl, _⟩ | ⟨g, cap, cur, rfl, _⟩ <;> rfl
theorem G5 {t j i : Nat} : ∀ {xs : List D} {c k : Nat} {x : At}, (WS t j i c xs)[k]? = some x -> ∃ d, xs[k]? = some d /\ x = (match d with | .sl _ _ => .tref t j i (c + k) none | d => .d d)
 | [], c, k, x, hx => by simp [WS] at hx
 | d :: xs, c, 0, x, hx => by
  simp only [WS, List.getElem?_cons_zero] at hx
  cases hx
  exact ⟨d, by simp, by cases d <;> simp⟩
 | d :: xs, c, k + 1, x, hx => by
  simp only [WS, List.getElem?_cons_succ] at hx
  obtain ⟨d', lQ, rfl⟩ := G5 hx
  exact ⟨d', by simpa using lQ, by cases d' <;> simp; omega⟩
theorem Ps {t j i : Nat} : ∀ (c : Nat) (xs : List D), (WS t j i c xs).length = xs.length
 | _, [] => rfl
 | c, d :: xs => by simp [WS, Ps (c + 1) xs]
theorem EO (q : Bool) (t j i c : Nat) (xs : List D) : (Tj q t j i c xs).length = xs.length := by
 cases q <;> simp [Tj, Ps]
theorem Rel.box (r : Rel T0 B σ a w X h) {t : Nat} {cells : List At} (ho : σ.ob t 0 = .box cells) {c : Nat} {v : Value} (hv : YK (Tof T0 X) h σ.ob w (.bptr t c) v) :
  ∃ b cs e, (h t 0).v = .pointer (some ⟨b, 0, none⟩) /\ v = .pointer (some ⟨b, c, none⟩) /\ w.heap[b]? = some (.cells cs e (0, 0)) /\ YA (YK (Tof T0 X) h σ.ob w) cells cs.toList := by
 obtain ⟨b, hb, rfl⟩ := hv.2 cells ho
 have lV := r.obj t 0
 rw [ho] at lV
 obtain ⟨b', cs, e, lM, hh, lE⟩ := lV
 rw [hb] at lM
 cases lM
 exact ⟨b, cs, e, hb, rfl, hh, lE⟩
theorem zj {b : Nat} {cs : Array Value} {e : TypeId} {f : Nat × Nat} (hh : w.heap[b]? = some (.cells cs e f)) (k : Nat) (v : Value) (hv : cs.toList[k]? = some v) : w.cell? ⟨b, k, none⟩ = some v := by
 simp only [World.cell?, hh]
 simpa using hv
theorem Rel.arr (r : Rel T0 B σ a w X h) {t j : Nat} {q : Bool} {size : Nat} {rows : List (List D)} (ho : σ.ob t j = .arr q size rows) {i c : Nat} {v : Value} (hv : YK (Tof T0 X) h σ.ob w (.ptr t j i c) v) :
  ∃ b cap cur e xs, (h t j).v = .slice (some ⟨b, 0, none⟩) rows.length cap /\ v = .pointer (some ⟨b, i * size + c, none⟩) /\ w.heap[b]? = some (.cells cur e (0, 0)) /\ rows.length <= cap /\ cap <= maxLen /\ cur.size = cap * size /\
   cur.toList.take (rows.length * size) = xs /\ (∀ r ∈ rows, r.length = size) /\ xs.length = rows.flatten.length /\ (q = false -> YA (Rd (Tof T0 X) w) xs rows.flatten) /\
   (q = true -> Jo w xs rows.flatten (fun b => (h t j).u b /\ blk (h t j).v ≠ some b) /\ ∀ k x d, xs[k]? = some x -> rows.flatten[k]? = some d -> d.scalar = false -> (h t j).n k = x) := by
 obtain ⟨b, n, cap, hb, rfl⟩ := hv.2 q size rows ho
 have lV := r.obj t j
 rw [ho] at lV
 cases q with
 | false =>
  obtain ⟨e, xs, lG, hz, lE⟩ := lV
  rcases lG.2 with ⟨h0, _⟩ | ⟨g, eU, cur, hg, _, hh, hle, gD, iy, gO⟩
  ·rw [hb] at h0; cases h0
  ·rw [hb] at hg
   cases hg
   exact ⟨b, cap, cur, e, xs, hb, rfl, hh, hle, gD, iy, gO, hz, lE.length, fun _ => lE, fun hh => by cases hh⟩
 | true =>
  obtain ⟨e, xs, lG, hz, lE, hn⟩ := lV
  rcases lG.2 with ⟨h0, _⟩ | ⟨g, eU, cur, hg, _, hh, hle, gD, iy, gO⟩
  ·rw [hb] at h0; cases h0
  ·rw [hb] at hg
   cases hg
   exact ⟨b, cap, cur, e, xs, hb, rfl, hh, hle, gD, iy, gO, hz, lE.1, (fun hh => by cases hh), fun _ => ⟨lE, hn⟩⟩
theorem wk (r : Rel T0 B σ a w X h) {o : Oper} {T : TypeId} {x : Operand} {v : V} (lB : o.op = .load T x) (hs : Yh P σ o.op o.type v) :
  ∃ val, (execOp a.eval o).run P w = .ok (.value val) w /\ JD (Tof T0 X) h σ.ob w v val := by
 simp only [lB, Yh] at hs
 obtain ⟨hg, gh, hs⟩ := hs
 have hx := r.arg (P := P) 0 x rfl hg
 have key : ∀ (b off : Nat) (xs : List At) (cs : List Value), a.eval x = .pointer (some ⟨b, off, none⟩) -> v = ldV P T xs -> cs.length = P.cellsOf T ->
   (∀ j u, cs[j]? = some u -> w.cell? ⟨b, off + j, none⟩ = some u) -> YA (YK (Tof T0 X) h σ.ob w) xs cs -> ∃ val, (execOp a.eval o).run P w = .ok (.value val) w /\ JD (Tof T0 X) h σ.ob w v val := by
  intro b off xs cs he hv hl hc lE
  obtain ⟨val, hr, h1, h2⟩ := tC (P := P) gh hl hc
  refine ⟨val, ?_, ?_⟩
  ·simp only [execOp, lB, he, Sem.run_bind, hr, Result.andThen_ok, Sem.run_pure]
  ·rw [hv]; exact vY gh lE h1 h2
 split at hs
 ·rename_i t c heq
  rw [heq] at hx
  obtain ⟨cells, ho, hle, hv⟩ := hs
  obtain ⟨b, cs, e, hb, he, hh, lE⟩ := r.box ho hx
  have hlen := lE.length
  refine key b c _ (cut cs.toList c (P.cellsOf T)) he hv (XH _ _ _ (by omega)) (fun j u hu => zj hh _ _ (yI _ _ _ _ _ hu)) (lE.cut _ _)
 ·rename_i t j i c heq
  rw [heq] at hx
  obtain ⟨q, size, rows, ho, hi, hle, hv⟩ := hs
  obtain ⟨b, cap, cur, e, xs, hb, he, hh, iU, gD, iy, gO, hz, cz, lE, lG⟩ := r.arr ho hx
  have lX : rows[i]? = some (rows.getD i []) := by simp [List.getD_eq_getElem?_getD, List.getElem?_eq_getElem hi]
  have g5 : (rows.getD i []).length = size := hz _ (List.mem_of_getElem? lX)
  have iV := YQ rows size hz
  have hmul : i * size + size <= rows.length * size := by rw [<- Nat.succ_mul]; exact Nat.mul_le_mul_right _ hi
  have fr : ∀ k d', (cut (rows.getD i []) c (P.cellsOf T))[k]? = some d' -> rows.flatten[i * size + c + k]? = some d' := by
   intro k d' lQ
   have h2 := jH rows size hz i _ lX (c + k) d' (yI _ _ _ _ _ lQ)
   rw [show i * size + c + k = i * size + (c + k) by omega]; exact h2
  refine key b (i * size + c) _ (cut xs (i * size + c) (P.cellsOf T)) he hv (XH _ _ _ (by omega)) (fun j u hu => ?_) ?_
  ·have h1 := yI _ _ _ _ _ hu
   refine zj hh _ _ ?_
   rw [<- gO, List.getElem?_take] at h1
   split at h1
   ·exact h1
   ·cases h1
  ·refine YA.jf (by rw [XH _ _ _ (by omega), EO, XH _ _ _ (by omega)]) (fun k x u hx hu => ?_)
   have h1 := yI _ _ _ _ _ hu
   cases q with
   | false =>
    obtain ⟨d, hd, hr⟩ := (lE rfl).get _ _ h1
    simp only [Tj] at hx
    rw [List.getElem?_map] at hx
    cases lQ : (cut (rows.getD i []) c (P.cellsOf T))[k]? with
    | none => rw [lQ] at hx; cases hx
    | some d' =>
     rw [lQ] at hx
     cases hx
     rw [fr k d' lQ] at hd
     cases hd
     exact hr
   | true =>
    obtain ⟨⟨_, Sk, lG, _, _⟩, hn⟩ := lG rfl
    simp only [Tj] at hx
    obtain ⟨d', lQ, rfl⟩ := G5 hx
    have lU := lG _ _ _ h1 (fr k d' lQ)
    cases d' with
    | sl s rs =>
     refine ⟨lU.Xy, fun lW lF gk => ?_⟩
     rw [ho] at gk; cases gk
     show _ = _
     rw [<- hn _ _ _ h1 (fr k _ lQ) rfl, Nat.add_assoc]
    | int k n => cases lU; exact .int _ _
    | bool b => cases lU; exact .bool _
    | str s => cases lU; exact .str _
    | unk => exact .unk _ lU.Xy
 ·rename_i rr c heq
  rw [heq] at hx
  obtain ⟨hle, hv⟩ := hs
  obtain ⟨b, off, g, he, hk⟩ := hx
  refine key b (off + c) _ ((List.range (P.cellsOf T)).map fun j => g (c + j)) he hv (by simp) (fun j u hu => ?_) ?_
  ·rw [List.getElem?_map] at hu
   rcases Nat.lt_or_ge j (P.cellsOf T) with hj | hj
   ·rw [List.getElem?_range hj] at hu
    cases hu
    have hd := hk (c + j) (rr[c + j]'(by omega)) (List.getElem?_eq_getElem _)
    rw [Nat.add_assoc]; exact hd.1
   ·rw [List.getElem?_eq_none (by simpa using hj)] at hu; cases hu
  ·refine YA.jf (by rw [List.length_map, XH _ _ _ (by omega)]; simp) (fun k x u hx hu => ?_)
   rw [List.getElem?_map] at hx hu
   cases lQ : (cut rr c (P.cellsOf T))[k]? with
   | none => rw [lQ] at hx; cases hx
   | some d' =>
    rw [lQ] at hx
    cases hx
    have hkl : k < P.cellsOf T := by have := (List.getElem?_eq_some_iff.1 lQ).1; rw [XH _ _ _ (by omega)] at this; exact this
    rw [List.getElem?_range hkl] at hu
    cases hu
    exact (hk (c + k) d' (yI _ _ _ _ _ lQ)).2.2
 ·exact hs.elim
theorem V5 {T : TypeId} {f : Nat} (hf : jV P T f = true) (b off : Nat) : (Instr.fieldAt T (.pointer (some ⟨b, off, none⟩)) f).run P w = .ok (.pointer (some ⟨b, off + Qh P T f, none⟩)) w := by
 obtain ⟨fs, fd, i, hu, aW, eg, gh, hi, lD⟩ := Pk hf
 have ld : P.cellsOf fd.type ≠ 0 := by simpa [Program.cellsOf, hi] using lD
 simp [Instr.fieldAt, run_underlying hu, aW, Instr.sureAddr, fieldPlace, Kj hi, ld, xG, eg]
theorem LX (r : Rel T0 B σ a w X h) {o : Oper} {T : TypeId} {x : Operand} {f : Nat} {v : V} (lB : o.op = .fieldAddr T x f) (hs : Yh P σ o.op o.type v) :
  ∃ val, (execOp a.eval o).run P w = .ok (.value val) w /\ JD (Tof T0 X) h σ.ob w v val := by
 simp only [lB, Yh] at hs
 obtain ⟨hg, hf, hs⟩ := hs
 have hx := r.arg (P := P) 0 x rfl hg
 split at hs
 ·rename_i t c heq
  rw [heq] at hx
  obtain ⟨⟨cells, ho⟩, rfl⟩ := hs
  obtain ⟨b, hb, he⟩ := hx.2 cells ho
  refine ⟨.pointer (some ⟨b, c + Qh P T f, none⟩), by simp only [execOp, lB, he, Sem.run_bind, V5 hf, Result.andThen_ok, Sem.run_pure], rfl, fun lO _ => ⟨b, hb, rfl⟩⟩
 ·rename_i t j i c heq
  rw [heq] at hx
  obtain ⟨⟨q, size, rows, ho⟩, rfl⟩ := hs
  obtain ⟨b, n, cap, hb, he⟩ := hx.2 q size rows ho
  refine ⟨.pointer (some ⟨b, i * size + c + Qh P T f, none⟩), by simp only [execOp, lB, he, Sem.run_bind, V5 hf, Result.andThen_ok, Sem.run_pure], rfl, fun q' lW lF lU => ?_⟩
  rw [ho] at lU
  cases lU
  exact ⟨b, n, cap, hb, by rw [Nat.add_assoc]⟩
 ·rename_i rr c heq
  rw [heq] at hx
  subst hs
  obtain ⟨b, off, g, he, hk⟩ := hx
  exact ⟨.pointer (some ⟨b, off + c + Qh P T f, none⟩), by simp only [execOp, lB, he, Sem.run_bind, V5 hf, Result.andThen_ok, Sem.run_pure], b, off, g, by rw [Nat.add_assoc], hk⟩
 ·rename_i t j i c k heq
  rw [heq] at hx
  obtain ⟨⟨size, rows, ho⟩, rfl⟩ := hs
  obtain ⟨b, n, cap, hb, he⟩ := hx.2 size rows ho
  refine ⟨.pointer (some ⟨b, k + Qh P T f, none⟩), by simp only [execOp, lB, he, Sem.run_bind, V5 hf, Result.andThen_ok, Sem.run_pure], rfl, fun lW lF lU => ?_⟩
  rw [ho] at lU
  cases lU
  exact ⟨b, n, cap, hb, rfl⟩
 ·exact hs.elim
theorem HW (r : Rel T0 B σ a w X h) {o : Oper} {x : Operand} {v : V} (lB : o.op = .nilCheck x) (hs : Yh P σ o.op o.type v) :
  ∃ val, (execOp a.eval o).run P w = .ok (.value val) w /\ JD (Tof T0 X) h σ.ob w v val := by
 simp only [lB, Yh] at hs
 obtain ⟨hg, hs⟩ := hs
 have hx := r.arg (P := P) 0 x rfl hg
 split at hs
 ·rename_i t c heq
  rw [heq] at hx
  obtain ⟨⟨cells, ho⟩, rfl⟩ := hs
  obtain ⟨b, hb, he⟩ := hx.2 cells ho
  exact ⟨.pointer (some ⟨b, c, none⟩), by simp only [execOp, lB, he, Sem.run_pure], rfl, fun lO _ => ⟨b, hb, rfl⟩⟩
 ·exact hs.elim
theorem RH {T : TypeId} (ht : XK P T = true) (ad : Addr) (eA : ad.spot = none) (len cap : Nat) (k : IntKind) (i : Int) (h0 : 0 <= i) (hl : i < (len : Int)) :
  (Instr.indexAt T (.slice (some ad) len cap) (.int k i)).run P w = .ok (.pointer (some ⟨ad.block, ad.off + i.toNat * P.cellsOf (ZU P T), none⟩)) w := by
 obtain ⟨ti, hu, hi, l7⟩ := QG ht
 obtain ⟨b, off, sp⟩ := ad
 simp at eA; subst eA
 simp [Instr.indexAt, asIntOf, run_underlying hu, h0, hl, Kj hi, xG]
theorem BK {T : TypeId} {n : Nat} (ht : CD P T = some n) (_h1 : 1 < n) (b off : Nat) (k : IntKind) (i : Int) (h0 : 0 <= i) (hl : i < (n : Int)) :
  (Instr.indexAt T (.pointer (some ⟨b, off, none⟩)) (.int k i)).run P w = .ok (.pointer (some ⟨b, off + i.toNat * P.cellsOf (ZU P T), none⟩)) w := by
 obtain ⟨ti, hu, hi, l7⟩ := H3 ht
 simp [Instr.indexAt, Instr.sureAddr, asIntOf, run_underlying hu, h0, hl, Kj hi, xG]
theorem Own.hdr {v : Value} {n : Nat} {s : List (List D)} {S : Nat -> Prop} (h : Own w v (.sl n s) S) (hp : 0 < s.length) : ∃ b cap, v = .slice (some ⟨b, 0, none⟩) s.length cap := by
 cases h with
 | sl v size rows S e xs Sk ho hz hb hl hk hs hd =>
  obtain ⟨_, ⟨_, h0⟩ | ⟨g, cap, cur, hv, _⟩⟩ := ho
  ·omega
  ·exact ⟨g, cap, hv⟩
theorem Rel.nest (r : Rel T0 B σ a w X h) {t j i c size n : Nat} {rows s : List (List D)} (ho : σ.ob t j = .arr true size rows) (hi : i < rows.length) (lK : (rows.getD i [])[c]? = some (.sl n s)) : ∃ v0 S, (h t j).n (i * size + c) = v0 /\ Own w v0 (.sl n s) S := by
 have h0 := r.obj t j
 rw [ho] at h0
 obtain ⟨e, vs, gA, hz, ⟨hl, Sk, o1, o2, o3⟩, hn⟩ := h0
 have lX : rows[i]? = some (rows.getD i []) := by simp [List.getD_eq_getElem?_getD, List.getElem?_eq_getElem hi]
 have iA : rows.flatten[i * size + c]? = some (.sl n s) := jH rows size hz i _ lX c _ lK
 have lN : i * size + c < vs.length := by rw [hl]; exact (List.getElem?_eq_some_iff.1 iA).1
 have eJ : vs[i * size + c]? = some vs[i * size + c] := List.getElem?_eq_getElem lN
 exact ⟨_, _, hn _ _ _ eJ iA rfl, o1 _ _ _ eJ iA⟩
theorem Ik (r : Rel T0 B σ a w X h) {o : Oper} {T : TypeId} {x ix : Operand} {v : V} (lB : o.op = .indexAddr T x ix) (hs : Yh P σ o.op o.type v) :
  ∃ val, (execOp a.eval o).run P w = .ok (.value val) w /\ JD (Tof T0 X) h σ.ob w v val := by
 simp only [lB, Yh] at hs
 obtain ⟨k, i, hix, h0, hg, hs⟩ := hs
 have hx := r.arg (P := P) 0 x rfl hg
 have dg := xM r hix
 split at hs
 ·rename_i size rows heq
  rw [heq] at hx
  obtain ⟨ht, rfl, iI, lN, rfl⟩ := hs
  have ae : i.toNat < rows.length := by omega
  obtain ⟨ad, len, cap, he, hlen, eA, g, hk⟩ := Rd.row (show Rd _ _ _ _ from hx) i.toNat ae iI
  refine ⟨.pointer (some ⟨ad.block, ad.off + i.toNat * P.cellsOf (ZU P T), none⟩), by simp only [execOp, lB, he, dg, Sem.run_bind, RH ht ad eA len cap k i h0 (by omega), Result.andThen_ok, Sem.run_pure], ad.block, ad.off + i.toNat * P.cellsOf (ZU P T), g, by simp, hk⟩
 ·rename_i t j lo len heq
  rw [heq] at hx
  obtain ⟨ht, iI, ⟨q, rows, ho⟩, lN, rfl⟩ := hs
  obtain ⟨hle, _, _, base, cap, he, iU, _, _, hb⟩ := hx.2.1 _ _ rows ho
  obtain ⟨b, fG, hh, gU⟩ := hb (by omega)
  rw [gU] at he
  refine ⟨.pointer (some ⟨b, lo * P.cellsOf (ZU P T) + i.toNat * P.cellsOf (ZU P T), none⟩), by simp only [execOp, lB, he, dg, Sem.run_bind, RH ht ⟨b, lo * P.cellsOf (ZU P T), none⟩ rfl len cap k i h0 lN, Result.andThen_ok, Sem.run_pure], rfl, fun q' lW lF lU => ?_⟩
  rw [ho] at lU
  cases lU
  exact ⟨b, rows.length, fG, hh, by simp [Nat.add_mul]⟩
 ·rename_i t c heq
  rw [heq] at hx
  obtain ⟨⟨cells, ho⟩, ⟨n, hn, h1, lN⟩, rfl⟩ := hs
  obtain ⟨b, hb, he⟩ := hx.2 cells ho
  exact ⟨.pointer (some ⟨b, c + i.toNat * P.cellsOf (ZU P T), none⟩), by simp only [execOp, lB, he, dg, Sem.run_bind, BK hn h1 b c k i h0 lN, Result.andThen_ok, Sem.run_pure], rfl, fun lO _ => ⟨b, hb, rfl⟩⟩
 ·rename_i t j m c heq
  rw [heq] at hx
  obtain ⟨ht, iI, ⟨size, rows, s, ho, hm, lK, lN⟩, rfl⟩ := hs
  obtain ⟨v0, S, hn, lG⟩ := r.nest ho hm lK
  have he : a.eval x = v0 := by rw [<- hn]; exact hx.2 size rows ho
  obtain ⟨b, cap, ef⟩ := lG.hdr (by omega)
  rw [ef] at he hn
  refine ⟨.pointer (some ⟨b, 0 + i.toNat * P.cellsOf (ZU P T), none⟩), by simp only [execOp, lB, he, dg, Sem.run_bind, RH ht ⟨b, 0, none⟩ rfl s.length cap k i h0 lN, Result.andThen_ok, Sem.run_pure], rfl, fun lW lF lU => ?_⟩
  rw [ho] at lU
  cases lU
  exact ⟨b, s.length, cap, hn, by simp⟩
 ·exact hs.elim
end
end Go.Vm
namespace Go.Vm
section
variable {P : Program} {T0 : CS} {B : Nat -> Prop} {σ : St} {a : Act} {w : World} {X : Nat -> Prop} {h : Nat -> Nat -> Hd}
theorem sF {T : TypeId} (ht : qU P T = true) {cs : Array Value} {off : Nat} (hl : off + P.cellsOf T <= cs.size) :
  ∃ val, (part T cs off).run P w = .ok val w /\ (TQ P T = true -> val = .agg (cut cs.toList off (P.cellsOf T)).toArray) /\ (TQ P T = false -> cut cs.toList off (P.cellsOf T) = [val]) := by
 obtain ⟨d, i, hd, hi, l7, l3⟩ := j8 ht
 cases ff : TQ P T with
 | true =>
  refine ⟨.agg (cs.extract off (off + P.cellsOf T)), ?_, fun _ => ?_, (fun hh => by cases hh)⟩
  ·simp only [part, Sem.run_bind, PA hd, ff, Result.andThen_ok, if_true, Kj hi, Sem.run_pure]
  ·congr 1
   apply Array.toList_inj.1
   simp [cut, Array.toList_extract, List.extract_eq_take_drop]
 | false =>
  rcases l3 with l3 | l3
  ·rw [ff] at l3; cases l3
  ·rw [l3] at hl ⊢
   have lN : off < cs.size := by omega
   refine ⟨cs[off], ?_, (fun hh => by cases hh), fun _ => ?_⟩
   ·simp [part, PA hd, ff, Array.getElem?_eq_getElem lN]
   ·have : cut cs.toList off 1 = [cs.toList[off]'(by simpa using lN)] := by
     simp only [cut]
     rw [List.drop_eq_getElem_cons (by simpa using lN)]
     simp
    rw [this]
    simp
theorem AK {T : TypeId} (ht : qU P T = true) {xs : List At} {x : Value} {off : Nat} (hx : JD (Tof T0 X) h σ.ob w (.agg xs) x) (hl : off + P.cellsOf T <= xs.length) :
  ∃ cs : Array Value, x = .agg cs /\ ∃ val, (part T cs off).run P w = .ok val w /\ JD (Tof T0 X) h σ.ob w (ldV P T (cut xs off (P.cellsOf T))) val := by
 obtain ⟨cs, rfl, lE⟩ := hx
 obtain ⟨val, hr, h1, h2⟩ := sF (P := P) (w := w) ht (cs := cs) (off := off) (by have := lE.length; simp at this; omega)
 exact ⟨cs, rfl, val, hr, vY ht (lE.cut _ _) h1 h2⟩
theorem Bn (r : Rel T0 B σ a w X h) {o : Oper} {T : TypeId} {x ix : Operand} {v : V} (lB : o.op = .index T x ix) (hs : Yh P σ o.op o.type v) :
  ∃ val, (execOp a.eval o).run P w = .ok (.value val) w /\ JD (Tof T0 X) h σ.ob w v val := by
 simp only [lB, Yh] at hs
 obtain ⟨k, i, hix, h0, hg, hs⟩ := hs
 have hx := r.arg (P := P) 0 x rfl hg
 have dg := xM r hix
 split at hs
 ·rename_i s heq
  rw [heq] at hx
  obtain ⟨ht, lN, rfl⟩ := hs
  have he := RD hx
  have ae : i.toNat < s.size := by omega
  refine ⟨.int .u8 (s.data.toList.getD i.toNat 0).toNat, ?_, .int _ _⟩
  have l8 : s[i.toNat]? = some (s.data.toList.getD i.toNat 0) := by
   rw [List.getD_eq_getElem?_getD]
   have h1 : s.data.toList[i.toNat]? = some (s.data[i.toNat]'ae) := by
    rw [List.getElem?_eq_getElem (by simpa using ae)]; simp
   rw [h1, getElem?_pos s i.toNat ae]
   rfl
  simp [execOp, lB, he, dg, Instr.index, asIntOf, run_underlying (qk ht), h0, l8]
 ·rename_i xs heq
  rw [heq] at hx
  obtain ⟨⟨n, hn, lN⟩, ht, hl, rfl⟩ := hs
  obtain ⟨ti, hu, hi, l7⟩ := H3 hn
  obtain ⟨cs, he, val, hr, hv⟩ := AK ht hx hl
  refine ⟨val, ?_, hv⟩
  simp [execOp, lB, he, dg, Instr.index, asIntOf, run_underlying hu, h0, lN, Kj hi, hr]
 ·exact hs.elim
theorem Bo (r : Rel T0 B σ a w X h) {o : Oper} {T : TypeId} {x : Operand} {f : Nat} {v : V} (lB : o.op = .field T x f) (hs : Yh P σ o.op o.type v) :
  ∃ val, (execOp a.eval o).run P w = .ok (.value val) w /\ JD (Tof T0 X) h σ.ob w v val := by
 simp only [lB, Yh] at hs
 obtain ⟨hg, hf, ht, hs⟩ := hs
 have hx := r.arg (P := P) 0 x rfl hg
 split at hs
 ·rename_i xs heq
  rw [heq] at hx
  obtain ⟨hl, rfl⟩ := hs
  obtain ⟨fs, fd, i, hu, aW, eg, gh, hi, lD⟩ := Pk hf
  obtain ⟨cs, he, val, hr, hv⟩ := AK ht hx hl
  refine ⟨val, ?_, hv⟩
  rw [<- eg, <- gh] at hr
  simp [execOp, lB, he, Instr.field, run_underlying hu, aW, asAgg, hr]
 ·exact hs.elim
theorem D6 (r : Rel T0 B σ a w X h) {iW n y : Nat} {x : Option Operand} {code : BoundsCode} (hb : bnd P σ iW x n) (hy : n <= y) (lD : x ≠ none) :
  (Instr.sliceBound ((x.map a.eval).getD undef) y code).run P w = .ok n w := by
 cases x with
 | none => exact absurd rfl lD
 | some x =>
  obtain ⟨k, i, hg, hx, h0, rfl⟩ := hb
  have he := T5 (r.arg (P := P) 0 x hx hg)
  have : i <= (y : Int) := by omega
  simp [he, Instr.sliceBound, asIntOf, h0, this]
theorem OE (r : Rel T0 B σ a w X h) {sl : Bool} {len cap l hh : Nat} {lo hi : Option Operand} (gf : bnd P σ 0 lo l) (fj : bnd P σ len hi hh) (h1 : l <= hh) (h2 : hh <= cap) :
  (Instr.sliceBounds sl len cap (lo.map a.eval) (hi.map a.eval) none).run P w = .ok (l, hh, cap) w := by
 unfold Instr.sliceBounds
 cases hi with
 | none =>
  cases fj
  cases lo with
  | none => cases gf; simp
  | some x =>
   have := D6 (w := w) r (code := .sliceB) gf h1 (by simp)
   simp at this
   simp [this]
 | some y =>
  have hb := D6 (w := w) r (code := if sl then .sliceAcap else .sliceAlen) fj h2 (by simp)
  simp at hb
  cases lo with
  | none => cases gf; simp [hb]
  | some x =>
   have := D6 (w := w) r (code := .sliceB) gf h1 (by simp)
   simp at this
   simp [this, hb]
theorem jA {α : Type} (rows : List (List α)) (size l n : Nat) (hz : ∀ r ∈ rows, r.length = size) (k : Nat) (d : α) (hd : (cut rows l n).flatten[k]? = some d) : rows.flatten[l * size + k]? = some d := by
 induction rows generalizing l with
 | nil => simp [cut] at hd
 | cons r rows ih =>
  have hr : r.length = size := hz r (by simp)
  cases l with
  | zero =>
   simp only [cut, List.drop_zero, Nat.zero_mul, Nat.zero_add] at hd ⊢
   have bS : (r :: rows).flatten = ((r :: rows).take n).flatten ++ ((r :: rows).drop n).flatten := by rw [<- List.flatten_append, List.take_append_drop]
   rw [bS, List.getElem?_append_left (List.getElem?_eq_some_iff.1 hd).1]; exact hd
  | succ l =>
   have := ih l (fun r hr => hz r (by simp [hr])) (by simpa [cut] using hd)
   rw [List.flatten_cons, List.getElem?_append_right (by rw [hr, Nat.add_mul]; omega), hr]
   rw [show (l + 1) * size + k - size = l * size + k by rw [Nat.add_mul]; omega]; exact this
theorem Rd.cut {T : CS} {v : Value} {size : Nat} {rows : List (List D)} {base : Option Addr} {len cap : Nat} (hv : v = .slice base len cap) (r : Rd T w v (.sl size rows)) (l hh : Nat) (h1 : l <= hh) (h2 : hh <= rows.length) (_hsz : 0 < size \/ True) :
  Rd T w (.slice (if cap = l then base else base.map (·.add (l * size))) (hh - l) (cap - l)) (.sl size (Vm.cut rows l (hh - l))) := by
 subst hv
 cases r with
 | nil =>
  simp at h2; subst h2
  have : l = 0 := by omega
  subst this
  simp [Vm.cut]; exact .nil _
 | sl a len cap size rows g hl hc hm hz hs hg hr =>
  have hlen : (Vm.cut rows l (hh - l)).length = hh - l := XH _ _ _ (by omega)
  have hZ : ∀ r ∈ Vm.cut rows l (hh - l), r.length = size := fun r hr => hz r (List.mem_of_mem_drop (List.mem_of_mem_take hr))
  by_cases lr : cap = l
  ·have h0 : hh - l = 0 := by omega
   have gq : Vm.cut rows l (hh - l) = [] := List.eq_nil_of_length_eq_zero (by omega)
   rw [if_pos lr, gq, h0]
   exact .sl a 0 (cap - l) size [] g rfl (Nat.zero_le _) (by omega) (by intro r hr; cases hr) (by simp) (by simp) (by simp)
  ·rw [if_neg lr]
   refine .sl (a.add (l * size)) (hh - l) (cap - l) size _ (fun k => g (l * size + k)) hlen (by omega) (by omega) hZ (fun lD => ?_) (fun k d hd => ?_) (fun k d hd => hr _ _ (jA rows size l _ hz k d hd))
   ·have : rows.flatten ≠ [] := by
     intro he
     apply lD
     cases lg : (Vm.cut rows l (hh - l)).flatten with
     | nil => rfl
     | cons d ds =>
      have := jA rows size l (hh - l) hz 0 d (by rw [lg]; rfl)
      rw [he] at this; simp at this
    have eA := hs this
    unfold Addr.add; split <;> simp [eA]
   ·have eA : a.spot = none := hs (by
     intro he
     have := jA rows size l (hh - l) hz k d hd
     rw [he] at this; simp at this)
    have := hg _ _ (jA rows size l (hh - l) hz k d hd)
    obtain ⟨b, off, sp⟩ := a
    simp at eA; subst eA
    rw [xG]
    simp only [Nat.add_assoc] at this ⊢
    exact this
theorem AP (r : Rel T0 B σ a w X h) {o : Oper} {T : TypeId} {x : Operand} {lo hi : Option Operand} {v : V} (lB : o.op = .slice T x lo hi none) (hs : Yh P σ o.op o.type v) :
  ∃ val, (execOp a.eval o).run P w = .ok (.value val) w /\ JD (Tof T0 X) h σ.ob w v val := by
 simp only [lB, Yh] at hs
 obtain ⟨hg, hs⟩ := hs
 have hx := r.arg (P := P) 0 x rfl hg
 split at hs
 ·rename_i s heq
  rw [heq] at hx
  obtain ⟨ht, l, hh, gf, fj, h1, h2, rfl⟩ := hs
  have he := RD hx
  have hb := OE (w := w) r (sl := false) gf fj h1 h2
  refine ⟨.string (s.extract l hh), ?_, .str _⟩
  simp [execOp, lB, he, Instr.sliceAt, Instr.slice, run_underlying (qk ht), hb]
 ·rename_i size rows heq
  rw [heq] at hx
  obtain ⟨ht, rfl, l, hh, gf, fj, h1, h2, rfl⟩ := hs
  obtain ⟨ti, hu, iw, l7⟩ := QG ht
  obtain ⟨base, cap, he, iU, gD⟩ := vC (show Rd _ _ _ _ from hx)
  have hb := OE (w := w) r (sl := true) (cap := cap) gf fj h1 (by omega)
  refine ⟨_, ?_, Rd.cut he hx l hh h1 h2 (.inr trivial)⟩
  simp [execOp, lB, he, Instr.sliceAt, Instr.slice, run_underlying hu, hb, Kj iw]
 ·rename_i t j bu len heq
  rw [heq] at hx
  obtain ⟨ht, ⟨q, rows, ho⟩, l, hh, gf, fj, h1, h2, rfl⟩ := hs
  obtain ⟨ti, hu, iw, l7⟩ := QG ht
  obtain ⟨hle, iN, gR, base, cap, he, iU, gD, ev, hbs⟩ := hx.2.1 _ _ rows ho
  have hb := OE (w := w) r (sl := true) (cap := cap) gf fj h1 (by omega)
  refine ⟨.slice (if cap = l then base else base.map (·.add (l * P.cellsOf (ZU P T)))) (hh - l) (cap - l), ?_, rfl, fun q' lW lF lU => ?_, fun lW lF lU => by rw [ho] at lU; cases lU⟩
  ·simp [execOp, lB, he, Instr.sliceAt, Instr.slice, run_underlying hu, hb, Kj iw]
  ·rw [ho] at lU
   cases lU
   refine ⟨by omega, fun cj hl1 => ?_, fun hl1 => ?_, _, cap - l, rfl, by omega, by omega, fun hn => ?_, fun iI => ?_⟩
   ·have hl : l = 0 := by omega
    subst hl
    have : len = rows.length := by omega
    have hv := iN this (by omega)
    rw [<- hv, he]
    simp only [Nat.sub_zero, Nat.zero_mul]
    have h3 : hh = len := by omega
    rw [h3]
    congr 1
    split
    ·rfl
    ·cases base <;> simp [Addr.add]
   ·have hl : l = 0 := by omega
    subst hl
    have hv := gR (by omega)
    rw [he] at hv
    have hh0 : (if cap = 0 then base else base.map (·.add (0 * P.cellsOf (ZU P T)))) = base := by
     split
     ·rfl
     ·cases base <;> simp [Addr.add]
    rw [hh0]
    unfold Dc at hv ⊢
    revert hv
    cases (h t j).v with
    | slice b n c => intro hv; cases hv; simp
    | _ => intro hv; cases hv
   ·have cJ : base = none := by
     by_cases lr : cap = l
     ·rw [if_pos lr] at hn; exact hn
     ·rw [if_neg lr] at hn; simpa using hn
    have := ev cJ; omega
   ·obtain ⟨b, fG, dC, gU⟩ := hbs (by omega)
    refine ⟨b, fG, dC, ?_⟩
    rw [if_neg (by omega), gU]
    simp [xG, Nat.add_mul]
 ·exact hs.elim
end
end Go.Vm
namespace Go.Vm
section
variable {P : Program} {T0 : CS} {B : Nat -> Prop} {σ : St} {a : Act} {w : World} {X : Nat -> Prop} {h : Nat -> Nat -> Hd}
theorem vD {α : Type} (l : List α) (k : Nat) (v : α) (vs : List α) (hk : k + (vs.length + 1) <= l.length) : place (l.set k v) (k + 1) vs = place l k (v :: vs) := by
 unfold place
 have h1 : (l.set k v).take (k + 1) = l.take k ++ [v] := by
  rw [List.take_set, List.take_succ_eq_append_getElem (by omega)]
  rw [List.set_append_right _ _ (by simp; omega)]
  simp [Nat.min_eq_left (show k <= l.length by omega)]
 have h2 : (l.set k v).drop (k + 1 + vs.length) = l.drop (k + (vs.length + 1)) := by
  rw [List.drop_set_of_lt (by omega)]; congr 1; omega
 rw [h1, h2]; simp
theorem LB (off : Nat) : ∀ (vs : List Value) (j : Nat) (cs : Array Value), off + j + vs.length <= cs.size ->
  ((vs.zipIdx j).foldl (fun cs x => cs.setIfInBounds (off + x.2) x.1) cs).toList = place cs.toList (off + j) vs
 | [], j, cs, _ => by simp [place]
 | v :: vs, j, cs, hl => by
  rw [List.zipIdx_cons, List.foldl_cons, LB off vs (j + 1) _ (by simp at hl ⊢; omega)]
  rw [Array.toList_setIfInBounds, show off + (j + 1) = off + j + 1 by omega, vD _ _ _ _ (by simp at hl ⊢; omega)]
theorem T2 (off : Nat) (vs cs : Array Value) (hl : off + vs.size <= cs.size) :
  (vs.zipIdx.foldl (fun cs x => cs.setIfInBounds (off + x.2) x.1) cs).toList = place cs.toList off vs.toList := by
 rw [<- Array.foldl_toList, Array.toList_zipIdx, LB off vs.toList 0 cs (by simpa using hl)]
 rfl
theorem XX {α : Type} (r : List α) (off : Nat) (xs : List α) (hl : off + xs.length <= r.length) : (place r off xs).length = r.length := by
 simp [place]; omega
theorem YA.place {α β : Type} {R : α -> β -> Prop} {l : List α} {m : List β} (x : YA R l m) (off : Nat) {l' : List α} {m' : List β} (y : YA R l' m') : YA R (Vm.place l off l') (Vm.place m off m') := by
 unfold Vm.place
 rw [y.length]
 exact ((x.take _).append y).append (x.drop _)
theorem ku {T' : CS} {ob : Nat -> Nat -> Ob} {x : V} {v : Value} (hf : x.flat = true) (hv : JD T' h ob w x v) : YA (YK T' h ob w) x.cells v.cells.toList := by
 cases x with
 | one c =>
  have h1 := YK.Xy (show YK _ _ _ _ _ _ from hv)
  have : v.cells = #[v] := by cases v <;> first | rfl | (simp [Value.oneCell'] at h1)
  rw [this]
  exact .cons hv .nil
 | agg xs => obtain ⟨cs, rfl, lE⟩ := hv; exact lE
 | any => cases hf
 | tup xs => cases hf
 | cnd g x => cases hf
 | fix u x => cases hf
theorem FJ (r : Rel T0 B σ a w X h) (T : TypeId) (pl : Nat -> Option (Nat × Nat)) (fI : ∀ i, bOk P T i = true -> pl i = some (Sl P T i, P.cellsOf (bTy P T i))) :
  ∀ (ps : List (Nat × Operand)) (row out : List At) (cells : Array Value), YA (YK (Tof T0 X) h σ.ob w) row cells.toList -> Uk P σ T ps row out ->
   ∃ lO, Instr.fill pl cells (ps.map fun x => (x.1, a.eval x.2)) = some lO /\ YA (YK (Tof T0 X) h σ.ob w) out lO.toList
 | [], row, out, cells, lE, hb => by cases hb; exact ⟨cells, rfl, lE⟩
 | (i, x) :: ps, row, out, cells, lE, hb => by
  obtain ⟨la, hg, hf, hlen, hle, hb⟩ := hb
  have hx := ku hf (r.arg (P := P) (bTy P T i) x rfl hg)
  have di := hx.length
  have hl1 := lE.length
  have e1 : cells.toList.length = cells.size := Array.length_toList
  have e2 : (a.eval x).cells.toList.length = (a.eval x).cells.size := Array.length_toList
  have ck := lE.place (Sl P T i) hx
  have heq := T2 (Sl P T i) (a.eval x).cells cells (by omega)
  rw [<- heq] at ck
  obtain ⟨lO, h1, h2⟩ := FJ r T pl fI ps _ out _ ck hb
  refine ⟨lO, ?_, h2⟩
  have l7 : (a.eval x).cells.size = P.cellsOf (bTy P T i) := by omega
  simp only [List.map_cons, Instr.fill, fI i la]
  rw [if_neg (by simp [l7]; omega)]
  exact h1
theorem run_places (fs : List Field) (ee : ∀ f ∈ fs, (P.info? f.type).isSome = true) (w : World) :
  (fs.mapM (m := Sem) fun f => do pure (f.offset, <- sizeOf f.type)).run P w = .ok (fs.map fun f => (f.offset, P.cellsOf f.type)) w := by
 induction fs with
 | nil => simp
 | cons f fs ih =>
  obtain ⟨i, hi⟩ := Option.isSome_iff_exists.1 (ee f (by simp))
  simp only [List.mapM_cons, Sem.run_bind, Kj hi, Result.andThen_ok, Sem.run_pure, ih (fun f hf => ee f (by simp [hf])), List.map_cons]
theorem Aa (r : Rel T0 B σ a w X h) {o : Oper} {T : TypeId} {parts : Array (Nat × Operand)} {v : V} (lB : o.op = .build T parts) (hs : Yh P σ o.op o.type v) :
  ∃ val, (execOp a.eval o).run P w = .ok (.value val) w /\ JD (Tof T0 X) h σ.ob w v val := by
 simp only [lB, Yh] at hs
 obtain ⟨hz, ff, z, out, hP, hb, rfl⟩ := hs
 obtain ⟨i, zv, hi, hzv, l7, gJ⟩ := GY hz hP
 have gy : (zeroValue T).run P w = .ok zv w := by simp [zeroValue, typeInfo, hi, hzv]
 have fS : (parts.map fun (x : Nat × Operand) => (x.1, a.eval x.2)).toList = parts.toList.map fun x => (x.1, a.eval x.2) := by simp
 unfold TQ at ff
 split at ff
 ·rename_i fs hu
  by_cases iS : ∀ f ∈ fs.toList, (P.info? f.type).isSome = true
  ·have fI : ∀ i, bOk P T i = true -> (fs.toList.map fun f => (f.offset, P.cellsOf f.type)).toArray[i]? = some (Sl P T i, P.cellsOf (bTy P T i)) := by
    intro i la
    simp only [bOk, hu, Bool.and_eq_true, decide_eq_true_eq] at la
    have lN := la.2
    simp [Sl, bTy, hu, Qh, xv, lN]
   obtain ⟨lO, h1, h2⟩ := FJ r T _ fI parts.toList z out zv.cells (gJ _ _ _ _) hb
   refine ⟨.agg lO, ?_, lO, rfl, h2⟩
   have hm := run_places (P := P) fs.toList iS w
   have : (fs.mapM (m := Sem) fun f => do pure (f.offset, <- sizeOf f.type)).run P w = .ok (fs.toList.map fun f => (f.offset, P.cellsOf f.type)).toArray w := by
    rw [Array.mapM_eq_mapM_toList]
    change ((fs.toList.mapM (m := Sem) fun f => do pure (f.offset, <- sizeOf f.type)) >>= fun l => pure l.toArray).run P w = _
    simp only [Sem.run_bind, hm, Result.andThen_ok, Sem.run_pure]
   simp only [execOp, lB, Instr.build, Sem.run_bind, gy, Result.andThen_ok, run_underlying hu, this, fS, h1, Sem.run_pure]
  · -- no part can be placed: then there are none
   have gq : parts.toList = [] := by
    cases hp : parts.toList with
    | nil => rfl
    | cons p ps =>
     obtain ⟨i, x⟩ := p
     rw [hp] at hb
     have la := hb.1
     simp only [bOk, hu, Bool.and_eq_true] at la
     exact absurd (by intro f hf; exact Array.all_eq_true'.1 la.1 f (by simpa using hf)) iS
   exfalso
   rw [show (12 : Nat) = 11 + 1 from rfl, j5, hu] at hP
   simp only [Option.map_eq_some_iff] at hP
   obtain ⟨rs, gi, _⟩ := hP
   apply iS
   intro f hf
   have : ∀ (l : List Field) (rs : List (List At)), l.mapM (fun f => j5 P 11 f.type) = some rs -> ∀ f ∈ l, (P.info? f.type).isSome = true := by
    intro l
    induction l with
    | nil => intro rs _ f hf; cases hf
    | cons g l ih =>
     intro rs gi f hf
     simp only [List.mapM_cons, Option.bind_eq_bind, Option.bind_eq_some_iff] at gi
     obtain ⟨r0, g4, bm, bM, _⟩ := gi
     rcases List.mem_cons.1 hf with rfl | hf
     ·rw [show (11 : Nat) = 10 + 1 from rfl, j5] at g4
      cases hi0 : P.info? f.type with
      | some i => rfl
      | none => simp [Program.underlying, hi0] at g4
     ·exact ih bm bM f hf
   exact this fs.toList rs gi f hf
 ·rename_i n e hu
  cases dg : P.info? e with
  | none =>
   exfalso
   rw [show (12 : Nat) = 11 + 1 from rfl, j5, hu] at hP
   simp only [Option.map_eq_some_iff] at hP
   obtain ⟨r0, g4, _⟩ := hP
   rw [show (11 : Nat) = 10 + 1 from rfl, j5] at g4
   simp [Program.underlying, dg] at g4
  | some ie =>
   have fI : ∀ i, bOk P T i = true -> (fun i => some (i * P.cellsOf e, P.cellsOf e)) i = some (Sl P T i, P.cellsOf (bTy P T i)) := by
    intro i _
    simp [Sl, bTy, hu]
   obtain ⟨lO, h1, h2⟩ := FJ r T _ fI parts.toList z out zv.cells (gJ _ _ _ _) hb
   refine ⟨.agg lO, ?_, lO, rfl, h2⟩
   simp only [execOp, lB, Instr.build, Sem.run_bind, gy, Result.andThen_ok, run_underlying hu, Kj dg, fS, h1, Sem.run_pure]
 ·cases ff
theorem Of {t : TypeId} (ht : C8 P t = true) {cs : Array Value} {i : Nat} {v : Value} (hv : cs[i]? = some v) : (part t cs i).run P w = .ok v w := by
 unfold C8 at ht
 split at ht <;> first | (rename_i hu; simp [part, isAgg, run_underlying hu, hv]) | cases ht
theorem tx {t : TypeId} {T' : CS} {ob : Nat -> Nat -> Ob} {x y : At} {u v : Value} {p : Bool} (hp : sX P t x y = some p) (hx : YK T' h ob w x u) (hy : YK T' h ob w y v) (d : Nat) (w' : World) :
  (Op.equalIn (d + 1) t u v).run P w' = .ok p w' := by
 unfold sX at hp
 split at hp
 ·rename_i k a' k' b'
  split at hp
  ·rename_i hc
   obtain ⟨rfl, hi⟩ := hc
   obtain ⟨k2, eZ⟩ := Option.isSome_iff_exists.1 hi
   cases hp
   rw [T5 hx, T5 hy]
   exact Go.run_equalIn_int w' d t _ _ _ _ (Gj eZ)
  ·cases hp
 ·split at hp
  ·rename_i hc
   cases hp
   rw [jy hx, jy hy]
   have hu : P.underlying t = some .bool := by
    unfold M3 at hc; split at hc <;> first | assumption | cases hc
   exact Go.run_equalIn_bool' w' d t _ _ hu
  ·cases hp
 ·split at hp
  ·rename_i hc
   cases hp
   rw [RD hx, RD hy]
   rw [Go.run_equalIn_string w' d t _ _ (qk hc), wi]
  ·cases hp
 ·cases hp
theorem Dn {T' : CS} {ob : Nat -> Nat -> Ob} (d : Nat) (cs ds : Array Value) (w' : World) : ∀ (fs : List Field) (i : Nat) (xs ys : List At) (q : Bool), Th P fs i = true -> jz P fs xs ys = some q ->
  YA (YK T' h ob w) xs (cs.toList.drop i) -> YA (YK T' h ob w) ys (ds.toList.drop i) -> (Op.eqFields (d + 1) cs ds fs).run P w' = .ok q w'
 | [], i, xs, ys, q, _, hq, _, _ => by simp [jz] at hq; subst hq; simp [Op.eqFields]
 | f :: fs, i, [], ys, q, _, hq, _, _ => by simp [jz] at hq
 | f :: fs, i, x :: xs, [], q, _, hq, _, _ => by simp [jz] at hq
 | f :: fs, i, x :: xs, y :: ys, q, la, hq, hx, hy => by
  simp only [Th, Bool.and_eq_true, decide_eq_true_eq, beq_iff_eq] at la
  obtain ⟨⟨⟨hn, ho⟩, iK⟩, la⟩ := la
  simp only [jz] at hq
  split at hq
  ·rename_i p q' hp fF
   cases hq
   cases hcd : cs.toList.drop i with
   | nil => rw [hcd] at hx; cases hx
   | cons u us =>
    cases ic : ds.toList.drop i with
    | nil => rw [ic] at hy; cases hy
    | cons v vs =>
     rw [hcd] at hx; rw [ic] at hy
     cases hx with
     | cons hxu hx =>
      cases hy with
      | cons hyv hy =>
       have hu : cs[i]? = some u := by
        have : (cs.toList.drop i)[0]? = some u := by rw [hcd]; rfl
        simpa using this
       have hv : ds[i]? = some v := by
        have : (ds.toList.drop i)[0]? = some v := by rw [ic]; rfl
        simpa using this
       have hus : cs.toList.drop (i + 1) = us := by rw [<- List.drop_drop, hcd]; rfl
       have eJ : ds.toList.drop (i + 1) = vs := by rw [<- List.drop_drop, ic]; rfl
       have ih := Dn d cs ds w' fs (i + 1) xs ys q' la fF (by rw [hus]; exact hx) (by rw [eJ]; exact hy)
       subst ho
       simp only [Op.eqFields, if_pos hn, Sem.run_bind, Of iK hu, Of iK hv, Result.andThen_ok, tx hp hxu hyv d w']
       cases p
       ·simp
       ·simpa using ih
  ·cases hq
theorem vw {T : TypeId} {T' : CS} {ob : Nat -> Nat -> Ob} {xs ys : List At} {u v : Value} {q : Bool} (la : Uj P T = true) (hq : jz P (P.fieldsOf T).toList xs ys = some q)
  (hx : JD T' h ob w (.agg xs) u) (hy : JD T' h ob w (.agg ys) v) (op : BinOp) (x y : Operand) (w' : World) :
  (eqGuard op T x y u v).run P w' = .ok () w' /\ (binOp .eql T u v).run P w' = .ok (.bool q) w' /\ (binOp .neq T u v).run P w' = .ok (.bool (!q)) w' := by
 obtain ⟨cs, rfl, iy⟩ := hx
 obtain ⟨ds, rfl, eH⟩ := hy
 unfold Uj at la
 split at la
 ·rename_i fs hu
  simp only [Bool.and_eq_true, Bool.not_eq_true'] at la
  have hf : P.fieldsOf T = fs := by simp [Program.fieldsOf, hu]
  have iP : P.underlying T = some (.struct (P.fieldsOf T)) := by rw [hf]; exact hu
  have lT : (Op.equalIn 10000 T (.agg cs) (.agg ds)).run P w' = .ok q w' := by
   rw [show (10000 : Nat) = 9999 + 1 from rfl, Go.run_equalIn_struct w' 9999 T cs ds iP la.1.1, show (9999 : Nat) = 9998 + 1 from rfl]
   exact Dn 9998 cs ds w' _ 0 xs ys q (by rw [hf]; exact la.2) hq (by simpa using iy) (by simpa using eH)
  refine ⟨Go.run_eqGuard_agg w' op T x y cs ds la.1.2, ?_, ?_⟩
  ·rw [Go.run_eql_struct, lT]; rfl
  ·rw [Go.run_neq_struct, lT]; rfl
 ·cases la
end
end Go.Vm
namespace Go.Vm
section
variable {P : Program} {T0 : CS} {B : Nat -> Prop} {σ : St} {a : Act} {w : World} {X : Nat -> Prop} {h : Nat -> Nat -> Hd}
theorem Gb (r : Rel T0 B σ a w X h) {o : Oper} {x : Operand} {v : V} (lB : o.op = .move x \/ o.op = .assign x) (hs : Yh P σ o.op o.type v) :
  ∃ val, (execOp a.eval o).run P w = .ok (.value val) w /\ JD (Tof T0 X) h σ.ob w v val := by
 rcases lB with lB | lB <;>
 ·simp only [lB, Yh] at hs
  subst hs
  exact ⟨a.eval x, by simp [execOp, lB], r.look _ x⟩
theorem wm (r : Rel T0 B σ a w X h) {o : Oper} {c x y : Operand} {v : V} (lB : o.op = .pick c x y) (hs : Yh P σ o.op o.type v) :
  ∃ val, (execOp a.eval o).run P w = .ok (.value val) w /\ JD (Tof T0 X) h σ.ob w v val := by
 simp only [lB, Yh] at hs
 obtain ⟨bc, p, q, hg, hc, hp, hq, hgp, hgq, rfl⟩ := hs
 have he := jy (r.arg (P := P) o.type c hc hg)
 cases bc with
 | true =>
  have hx := jy (r.arg (P := P) o.type x (hp rfl) (hgp rfl))
  exact ⟨.bool p, by simp [execOp, lB, he, asBool, hx], .bool _⟩
 | false =>
  have hy := jy (r.arg (P := P) o.type y (hq rfl) (hgq rfl))
  exact ⟨.bool q, by simp [execOp, lB, he, asBool, hy], .bool _⟩
theorem jq (op : BinOp) (T : TypeId) (x y : Operand) {v u : Value} (hv : ∀ cs, v ≠ .agg cs) (hn : v ≠ .nilIface) : (eqGuard op T x y v u).run P w = .ok () w := by
 unfold eqGuard
 cases op <;> simp <;> (split <;> first | exact absurd rfl hn | exact absurd rfl (hv _) | simp)
theorem uf (r : Rel T0 B σ a w X h) {o : Oper} {op : BinOp} {T T' : TypeId} {x y : Operand} {v : V} (lB : o.op = .binOp op T x y T') (hs : Yh P σ o.op o.type v) :
  ∃ val, (execOp a.eval o).run P w = .ok (.value val) w /\ JD (Tof T0 X) h σ.ob w v val := by
 simp only [lB, Yh] at hs
 obtain ⟨gw, gx, hs⟩ := hs
 have hx := r.arg (P := P) T x rfl gw
 have hy := r.arg (P := P) T y rfl gx
 unfold AS at hs
 split at hs
 ·rename_i k m k' n heq gp
  rw [heq] at hx; rw [gp] at hy
  have ex := T5 hx
  have ey := T5 hy
  obtain ⟨d, rfl, val, hr, hd⟩ := wF (P := P) (t := T) hs.1 hs.2 w
  refine ⟨val, ?_, hd _ _⟩
  simp only [execOp, lB, ex, ey, Sem.run_bind, jq op T x y (v := .int k m) (u := .int k' n) (by simp) (by simp), Result.andThen_ok, hr, Sem.run_pure]
 ·rename_i m n heq gp
  rw [heq] at hx; rw [gp] at hy
  have ex := RD hx
  have ey := RD hy
  obtain ⟨d, rfl, val, hr, hd⟩ := wa (P := P) (t := T) hs w
  refine ⟨val, ?_, hd _ _⟩
  simp only [execOp, lB, ex, ey, Sem.run_bind, jq op T x y (v := .string m) (u := .string n) (by simp) (by simp), Result.andThen_ok, hr, Sem.run_pure]
 ·rename_i m n heq gp
  rw [heq] at hx; rw [gp] at hy
  have ex := jy hx
  have ey := jy hy
  obtain ⟨d, rfl, val, hr, hd⟩ := AQ (P := P) (t := T) hs.1 hs.2 w
  refine ⟨val, ?_, hd _ _⟩
  simp only [execOp, lB, ex, ey, Sem.run_bind, jq op T x y (v := .bool m) (u := .bool n) (by simp) (by simp), Result.andThen_ok, hr, Sem.run_pure]
 ·rename_i xs ys heq gp
  rw [heq] at hx; rw [gp] at hy
  obtain ⟨la, q, hq, hs⟩ := hs
  obtain ⟨h1, h2, h3⟩ := vw (P := P) la hq hx hy op x y w
  rcases hs with ⟨rfl, rfl⟩ | ⟨rfl, rfl⟩
  ·exact ⟨.bool q, by simp only [execOp, lB, Sem.run_bind, h1, Result.andThen_ok, h2, Sem.run_pure], .bool _⟩
  ·exact ⟨.bool (!q), by simp only [execOp, lB, Sem.run_bind, h1, Result.andThen_ok, h3, Sem.run_pure], .bool _⟩
 ·exact hs.elim
theorem tc (r : Rel T0 B σ a w X h) {o : Oper} {op : UnOp} {T : TypeId} {x : Operand} {v : V} (lB : o.op = .unOp op T x) (hs : Yh P σ o.op o.type v) :
  ∃ val, (execOp a.eval o).run P w = .ok (.value val) w /\ JD (Tof T0 X) h σ.ob w v val := by
 simp only [lB, Yh] at hs
 obtain ⟨hg, hs⟩ := hs
 have hx := r.arg (P := P) 0 x rfl hg
 split at hs
 ·rename_i b heq
  rw [heq] at hx
  subst hs
  have he := jy hx
  exact ⟨.bool (!b), by simp [execOp, lB, he, Op.unary], .bool _⟩
 ·rename_i k n heq
  rw [heq] at hx
  subst hs
  have he := T5 hx
  exact ⟨.int k (k.wrap (-n)), by simp [execOp, lB, he, Op.unary, Op.intArith], .int _ _⟩
 ·exact hs.elim
theorem EB (r : Rel T0 B σ a w X h) {o : Oper} {S T : TypeId} {x : Operand} {v : V} (lB : o.op = .convert S T x) (hS : (P.underlying S).isSome = true) (hs : Yh P σ o.op o.type v) :
  ∃ val, (execOp a.eval o).run P w = .ok (.value val) w /\ JD (Tof T0 X) h σ.ob w v val := by
 simp only [lB, Yh] at hs
 obtain ⟨hg, _, hs⟩ := hs
 have hx := r.arg (P := P) 0 x rfl hg
 split at hs
 ·rename_i k' n heq
  rw [heq] at hx
  obtain ⟨k, hk, rfl⟩ := hs
  have he := T5 hx
  obtain ⟨d, hd⟩ := Option.isSome_iff_exists.1 hS
  exact ⟨.int k (k.wrap n), by simp [execOp, lB, he, convert, run_underlying hd, run_underlying (Gj hk), Conv.intToInt], .int _ _⟩
 ·exact hs.elim
theorem F6 (r : Rel T0 B σ a w X h) {o : Oper} {x : Operand} {i : Nat} {v : V} (lB : o.op = .extract x i) (hs : Yh P σ o.op o.type v) :
  ∃ val, (execOp a.eval o).run P w = .ok (.value val) w /\ JD (Tof T0 X) h σ.ob w v val := by
 simp only [lB, Yh] at hs
 obtain ⟨hg, hs⟩ := hs
 have hx := r.arg (P := P) 0 x rfl hg
 split at hs
 ·rename_i xs heq
  rw [heq] at hx
  obtain ⟨vs, he, lE⟩ := hx
  obtain ⟨val, fA, hr⟩ := lE.get i v hs.1
  have : vs[i]? = some val := by simpa using fA
  exact ⟨val, by simp [execOp, lB, he, Instr.extract, this], hr.up⟩
 ·exact hs.elim
theorem AE (r : Rel T0 B σ a w X h) {o : Oper} {c : Call} {v : V} (lB : o.op = .call c) (hs : Yh P σ o.op o.type v) :
  ∃ val, (execOp a.eval o).run P w = .ok (.value val) w /\ JD (Tof T0 X) h σ.ob w v val := by
 simp only [lB, Yh] at hs
 obtain ⟨callee, args, argTypes⟩ := c
 simp only at hs
 split at hs
 ·rename_i x t ha ht
  obtain rfl : args = #[x] := by apply Array.toList_inj.1; simpa using ha
  obtain rfl : argTypes = #[t] := by apply Array.toList_inj.1; simpa using ht
  obtain ⟨hg, hs⟩ := hs
  have hx := r.arg (P := P) t x rfl hg
  split at hs
  ·rename_i s heq
   rw [heq] at hx
   obtain ⟨lZ, rfl⟩ := hs
   have he := RD hx
   exact ⟨.int .i64 s.size, by simp [execOp, lB, resolve, invoke, builtin, he, Builtin.len_, run_underlying (qk lZ), goInt], .int _ _⟩
  ·rename_i size rows heq
   rw [heq] at hx
   obtain ⟨lZ, rfl⟩ := hs
   obtain ⟨ti, hu, _, _⟩ := QG lZ
   obtain ⟨base, cap, he, _, _⟩ := vC (show Rd _ _ _ _ from hx)
   exact ⟨.int .i64 rows.length, by simp [execOp, lB, resolve, invoke, builtin, he, Builtin.len_, run_underlying hu, goInt], .int _ _⟩
  ·rename_i size heq
   rw [heq] at hx
   obtain ⟨lZ, rfl⟩ := hs
   obtain ⟨ti, hu, _, _⟩ := QG lZ
   have he : a.eval x = .slice none 0 0 := hx
   exact ⟨.int .i64 0, by simp [execOp, lB, resolve, invoke, builtin, he, Builtin.len_, run_underlying hu, goInt], .int _ _⟩
  ·rename_i u j lo len heq
   rw [heq] at hx
   obtain ⟨lZ, ho, rfl⟩ := hs
   obtain ⟨ti, hu, _, _⟩ := QG lZ
   have dC : ∃ base cap, a.eval x = .slice base len cap := by
    rcases ho with ⟨q, size, rows, ho⟩ | ⟨size, rows, ho⟩
    ·obtain ⟨_, _, _, base, cap, he, _, _, _, _⟩ := hx.2.1 _ _ _ ho
     exact ⟨base, cap, he⟩
    ·obtain ⟨_, _, _, base, cap, he, _, _, _, _⟩ := hx.2.2 _ _ ho
     exact ⟨base, cap, he⟩
   obtain ⟨base, cap, he⟩ := dC
   exact ⟨.int .i64 len, by simp [execOp, lB, resolve, invoke, builtin, he, Builtin.len_, run_underlying hu, goInt], .int _ _⟩
  ·exact hs.elim
 ·rename_i x y ha
  obtain rfl : args = #[x, y] := by apply Array.toList_inj.1; simpa using ha
  obtain ⟨k, m, n, hx, hy, rfl⟩ := hs
  have ex := xM r hx
  have ey := xM r hy
  exact ⟨.int k (if n > m then n else m), by simp [execOp, lB, resolve, invoke, builtin, ex, ey, Builtin.max_, Builtin.max2], .int _ _⟩
 ·rename_i x y ha
  obtain rfl : args = #[x, y] := by apply Array.toList_inj.1; simpa using ha
  obtain ⟨k, m, n, hx, hy, rfl⟩ := hs
  have ex := xM r hx
  have ey := xM r hy
  exact ⟨.int k (if n < m then n else m), by simp [execOp, lB, resolve, invoke, builtin, ex, ey, Builtin.min_, Builtin.min2], .int _ _⟩
 ·exact hs.elim
theorem LS (r : Rel T0 B σ a w X h) {o : Oper} {v : V} (hs : Yh P σ o.op o.type v) :
  ∃ val, (execOp a.eval o).run P w = .ok (.value val) w /\ JD (Tof T0 X) h σ.ob w v val := by
 cases lB : o.op with
 | move x => exact Gb r (.inl lB) hs
 | assign x => exact Gb r (.inr lB) hs
 | pick c x y => exact wm r lB hs
 | load T x => exact wk r lB hs
 | fieldAddr T x f => exact LX r lB hs
 | nilCheck x => exact HW r lB hs
 | indexAddr T x i => exact Ik r lB hs
 | index T x i => exact Bn r lB hs
 | field T x f => exact Bo r lB hs
 | slice T x lo hi m =>
  cases m with
  | none => exact AP r lB hs
  | some m => rw [lB] at hs; exact hs.elim
 | binOp op T x y T' => exact uf r lB hs
 | unOp op T x => exact tc r lB hs
 | convert S T x => rw [lB] at hs; exact EB r lB hs.2.1 (by rw [lB]; exact hs)
 | extract x i => exact F6 r lB hs
 | call c => exact AE r lB hs
 | build T ps => exact Aa r lB hs
 | _ => rw [lB] at hs; exact hs.elim
end
end Go.Vm
namespace Go.Vm
def At.ref (d : Nat) : At -> Bool
 | .sref t _ _ _ => t == d
 | .ptr t _ _ _ => t == d
 | .bptr t _ => t == d
 | .fn _ t => t == d
 | .tref t _ _ _ _ => t == d
 | _ => false
def YS (d : Nat) : List At -> Bool
 | [] => false
 | x :: xs => x.ref d || YS d xs
def V.Oo (d : Nat) : V -> Bool
 | .one x => x.ref d
 | .agg xs => YS d xs
 | _ => false
def U5 (d : Nat) : List V -> Bool
 | [] => false
 | x :: xs => x.Oo d || U5 d xs
def V.ref (d : Nat) : V -> Bool
 | .tup xs => U5 d xs
 | .cnd _ x => x.Oo d || (match x with | .tup xs => U5 d xs | _ => false)
 | .one x => x.ref d
 | .agg xs => YS d xs
 | .fix _ x => x.Oo d || (match x with | .tup xs => U5 d xs | _ => false)
 | .any => false
def Y2 (d : Nat) : List Ob -> Bool
 | [] => false
 | .box cells :: os => YS d cells || Y2 d os
 | .lit _ rows :: os => YS d rows.flatten || Y2 d os
 | _ :: os => Y2 d os
def zy (d : Nat) : Nat -> St -> Bool
 | _, [] => true
 | k, e :: σ => (k == d || (!e.1.ref d && !Y2 d e.2)) && zy d (k + 1) σ
def St.fresh (σ : St) (d : Nat) : Bool := decide (d < σ.length) && zy d 0 σ
theorem yh {d : Nat} : ∀ {σ : St} {k : Nat}, zy d k σ = true -> ∀ t e, σ[t]? = some e -> k + t ≠ d -> e.1.ref d = false /\ Y2 d e.2 = false
 | [], _, _, t, e, he, _ => by simp at he
 | e0 :: σ, k, hf, t, e, he, lD => by
  simp only [zy, Bool.and_eq_true, Bool.or_eq_true, beq_iff_eq, Bool.not_eq_true'] at hf
  cases t with
  | zero =>
   simp at he; subst he
   rcases hf.1 with h | h
   ·omega
   ·exact h
  | succ t => exact yh hf.2 t e (by simpa using he) (by omega)
theorem St.uZ {σ : St} {d : Nat} (hf : σ.fresh d = true) (t : Nat) (lD : t ≠ d) : (σ.get t).ref d = false := by
 simp only [St.fresh, Bool.and_eq_true] at hf
 unfold St.get
 cases he : σ[t]? with
 | none => rfl
 | some e => exact (yh hf.2 t e he (by omega)).1
theorem E2 {d : Nat} : ∀ {os : List Ob}, Y2 d os = false -> ∀ j cells, Yr os j = .box cells -> YS d cells = false
 | [], _, j, cells, h => by simp [Yr] at h
 | o :: os, hr, j, cells, h => by
  cases j with
  | zero =>
   simp [Yr] at h; subst h
   simp [Y2] at hr; exact hr.1
  | succ j =>
   have : Yr os j = .box cells := by simpa [Yr] using h
   refine E2 (os := os) ?_ j cells this
   cases o <;> simp_all [Y2]
theorem GP {d : Nat} : ∀ {os : List Ob}, Y2 d os = false -> ∀ j size rows, Yr os j = .lit size rows -> YS d rows.flatten = false
 | [], _, j, _, _, h => by simp [Yr] at h
 | o :: os, hr, j, size, rows, h => by
  cases j with
  | zero =>
   simp [Yr] at h; subst h
   simp [Y2] at hr; exact hr.1
  | succ j =>
   have : Yr os j = .lit size rows := by simpa [Yr] using h
   refine GP (os := os) ?_ j size rows this
   cases o <;> simp_all [Y2]
theorem St.vo {σ : St} {d : Nat} (hf : σ.fresh d = true) (t j : Nat) (lD : t ≠ d) (size : Nat) (rows : List (List At)) (ho : σ.ob t j = .lit size rows) : YS d rows.flatten = false := by
 simp only [St.fresh, Bool.and_eq_true] at hf
 unfold St.ob at ho
 cases he : σ[t]? with
 | none => rw [he] at ho; cases ho
 | some e => rw [he] at ho; exact GP (yh hf.2 t e he (by omega)).2 j size rows ho
theorem St.sT {σ : St} {d : Nat} (hf : σ.fresh d = true) (t j : Nat) (lD : t ≠ d) (cells : List At) (ho : σ.ob t j = .box cells) : YS d cells = false := by
 simp only [St.fresh, Bool.and_eq_true] at hf
 unfold St.ob at ho
 cases he : σ[t]? with
 | none => rw [he] at ho; cases ho
 | some e => rw [he] at ho; exact E2 (yh hf.2 t e he (by omega)).2 j cells ho
theorem St.yY {σ : St} {d : Nat} (hf : σ.fresh d = true) : d < σ.length := by
 simp only [St.fresh, Bool.and_eq_true, decide_eq_true_eq] at hf; exact hf.1
def Cpt (h h' : Nat -> Nat -> Hd) (ob ir : Nat -> Nat -> Ob) (t j : Nat) : Prop :=
 (∀ q size rows, ir t j = .arr q size rows -> h' t j = h t j /\ ∃ lJ, ob t j = .arr q size lJ /\ lJ.length = rows.length) /\
 (∀ size rows, ir t j = .lit size rows -> h' t j = h t j /\ ∃ lJ, ob t j = .lit size lJ /\ lJ.length = rows.length) /\
 (∀ cells, ir t j = .box cells -> h' t j = h t j /\ ∃ lv, ob t j = .box lv)
theorem Cpt.same {h h' : Nat -> Nat -> Hd} {ob ir : Nat -> Nat -> Ob} {t j : Nat} (hh : h' t j = h t j) (ho : ir t j = ob t j) : Cpt h h' ob ir t j :=
 ⟨fun q size rows e => ⟨hh, rows, by rw [<- ho]; exact e, rfl⟩, fun size rows e => ⟨hh, rows, by rw [<- ho]; exact e, rfl⟩, fun cells e => ⟨hh, cells, by rw [<- ho]; exact e⟩⟩
section
variable {T T' : CS} {h h' : Nat -> Nat -> Hd} {ob ir : Nat -> Nat -> Ob} {w w' : World} {d : Nat}
theorem YK.carry (hT : ∀ b k v, T b k -> w.cell? ⟨b, k, none⟩ = some v -> w'.cell? ⟨b, k, none⟩ = some v /\ T' b k) (hc : ∀ t j, t ≠ d -> Cpt h h' ob ir t j)
  {x : At} {v : Value} (hx : x.ref d = false) (r : YK T h ob w x v) : YK T' h' ir w' x v := by
 cases x with
 | any => exact r
 | d x => exact Rd.mono hT r
 | nil s => exact r
 | sref t j lo len =>
  have ht : t ≠ d := by simpa [At.ref] using hx
  refine ⟨r.1, fun q size rows ho => ?_, fun size rows ho => ?_⟩
  ·obtain ⟨hh, lJ, lz, hl⟩ := (hc t j ht).1 q size rows ho
   rw [hh, <- hl]; exact r.2.1 q size lJ lz
  ·obtain ⟨hh, lJ, lz, hl⟩ := (hc t j ht).2.1 size rows ho
   rw [hh, <- hl]; exact r.2.2 size lJ lz
 | ptr t j i c =>
  have ht : t ≠ d := by simpa [At.ref] using hx
  refine ⟨r.1, fun q size rows ho => ?_⟩
  obtain ⟨hh, lJ, lz, hl⟩ := (hc t j ht).1 q size rows ho
  rw [hh]; exact r.2 q size lJ lz
 | bptr t c =>
  have ht : t ≠ d := by simpa [At.ref] using hx
  refine ⟨r.1, fun cells ho => ?_⟩
  obtain ⟨hh, lv, lz⟩ := (hc t 0 ht).2.2 cells ho
  rw [hh]; exact r.2 lv lz
 | fn f t =>
  have ht : t ≠ d := by simpa [At.ref] using hx
  refine ⟨r.1, fun cells ho => ?_⟩
  obtain ⟨hh, lv, lz⟩ := (hc t 0 ht).2.2 cells ho
  rw [hh]; exact r.2 lv lz
 | tref t j i c o =>
  have ht : t ≠ d := by simpa [At.ref] using hx
  refine ⟨r.1, fun size rows ho => ?_⟩
  obtain ⟨hh, lJ, lz, hl⟩ := (hc t j ht).1 true size rows ho
  rw [hh]; exact r.2 size lJ lz
 | rptr rr c =>
  obtain ⟨b, off, g, e, hk⟩ := r
  exact ⟨b, off, g, e, fun k d hd => ⟨(hT _ _ _ (hk k d hd).2.1 (hk k d hd).1).1, (hT _ _ _ (hk k d hd).2.1 (hk k d hd).1).2, Rd.mono hT (hk k d hd).2.2⟩⟩
theorem Wy (hT : ∀ b k v, T b k -> w.cell? ⟨b, k, none⟩ = some v -> w'.cell? ⟨b, k, none⟩ = some v /\ T' b k) (hc : ∀ t j, t ≠ d -> Cpt h h' ob ir t j)
  {xs : List At} {vs : List Value} (hx : YS d xs = false) (r : YA (YK T h ob w) xs vs) : YA (YK T' h' ir w') xs vs := by
 induction r with
 | nil => exact .nil
 | cons r _ ih =>
  simp only [YS, Bool.or_eq_false_iff] at hx
  exact .cons (YK.carry hT hc hx.1 r) (ih hx.2)
theorem Ks.carry (hT : ∀ b k v, T b k -> w.cell? ⟨b, k, none⟩ = some v -> w'.cell? ⟨b, k, none⟩ = some v /\ T' b k) (hc : ∀ t j, t ≠ d -> Cpt h h' ob ir t j)
  {x : V} {v : Value} (hx : x.Oo d = false) (r : Ks T h ob w x v) : Ks T' h' ir w' x v := by
 cases x with
 | any => exact r
 | one x => exact YK.carry hT hc hx r
 | agg xs => obtain ⟨cs, e, r⟩ := r; exact ⟨cs, e, Wy hT hc hx r⟩
 | tup xs => exact r.elim
 | cnd g x => exact r.elim
 | fix u x => exact r.elim
theorem JD.carry (hT : ∀ b k v, T b k -> w.cell? ⟨b, k, none⟩ = some v -> w'.cell? ⟨b, k, none⟩ = some v /\ T' b k) (hc : ∀ t j, t ≠ d -> Cpt h h' ob ir t j)
  {x : V} {v : Value} (hx : x.ref d = false) (r : JD T h ob w x v) : JD T' h' ir w' x v := by
 cases x with
 | any => exact r
 | one x => exact YK.carry hT hc hx r
 | agg xs => obtain ⟨cs, e, r⟩ := r; exact ⟨cs, e, Wy hT hc hx r⟩
 | tup xs =>
  obtain ⟨vs, e, r⟩ := r
  refine ⟨vs, e, ?_⟩
  clear e
  generalize vs.toList = vl at r
  simp only [V.ref] at hx
  induction r with
  | nil => exact .nil
  | cons r _ ih =>
   simp only [U5, Bool.or_eq_false_iff] at hx
   exact .cons (Ks.carry hT hc hx.1 r) (ih hx.2)
 | cnd g x =>
  simp only [V.ref, Bool.or_eq_false_iff] at hx
  exact ⟨fun hg => Ks.carry hT hc hx.1 (r.1 hg), r.2⟩
 | fix u x =>
  simp only [V.ref, Bool.or_eq_false_iff] at hx
  exact ⟨r.1, Ks.carry hT hc hx.1 r.2⟩
end
section
variable {P : Program} {T0 : CS} {B : Nat -> Prop} {σ : St} {a : Act} {w w' : World} {X X' : Nat -> Prop} {h : Nat -> Nat -> Hd}
theorem Rel.Tlt (r : Rel T0 B σ a w X h) {b k : Nat} (hb : Tof T0 X b k) : b < w.heap.size := by
 rcases hb with hb | hb
 ·exact r.hB b (r.hT b k hb)
 ·exact (r.hX b hb).2
theorem yg {e : TypeId} {size n : Nat} {v : Value} {xs : List Value} (hb : ∀ b, blk v = some b -> w'.heap[b]? = w.heap[b]?) (ho : w.ownsRow 0 e size v n xs) : w'.ownsRow 0 e size v n xs := by
 refine ⟨ho.1, ?_⟩
 rcases ho.2 with hn | ⟨g, cap, cur, rfl, h0, hg, rest⟩
 ·exact .inl hn
 ·exact .inr ⟨g, cap, cur, rfl, h0, by rw [hb g rfl]; exact hg, rest⟩
theorem Own.Tz {v : Value} {d : D} {S : Nat -> Prop} (hb : ∀ b, S b -> w'.heap[b]? = w.heap[b]?) (ho : Own w v d S) : Own w' v d S := by
 induction ho with
 | int k n S => exact .int k n S
 | bool b S => exact .bool b S
 | str s S => exact .str s S
 | unk v h S => exact .unk v h S
 | sl v size rows S e xs Sk ho hz lM hl hk hs hd ih =>
  exact .sl v size rows S e xs Sk (yg (fun b h => hb b (lM b h)) ho) hz lM hl (fun k x d hx lQ => ih k x d hx lQ (fun b h => hb b (hs k b h).1)) hs hd
theorem Own.mono {v : Value} {d : D} {S S' : Nat -> Prop} (hS : ∀ b, S b -> S' b) (ho : Own w v d S) : Own w v d S' := by
 cases ho with
 | int k n S => exact .int k n S'
 | bool b S => exact .bool b S'
 | str s S => exact .str s S'
 | unk v h S => exact .unk v h S'
 | sl v size rows S e xs Sk ho hz lM hl hk hs hd => exact .sl v size rows S' e xs Sk ho hz (fun b h => hS b (lM b h)) hl hk (fun k b h => ⟨hS b (hs k b h).1, (hs k b h).2⟩) hd
theorem Jo.Tz {xs : List Value} {ds : List D} {S : Nat -> Prop} (hb : ∀ b, S b -> w'.heap[b]? = w.heap[b]?) (ho : Jo w xs ds S) : Jo w' xs ds S := by
 obtain ⟨hl, Sk, h1, h2, h3⟩ := ho
 exact ⟨hl, Sk, fun k x d hx hd => (h1 k x d hx hd).Tz (fun b h => hb b (h2 k b h)), h2, h3⟩
theorem zR.Tz {T T' : CS} {h h' : Nat -> Nat -> Hd} {ob ir : Nat -> Nat -> Ob} {d : Nat} {hd : Hd} {o : Ob}
  (hT : ∀ b k v, T b k -> w.cell? ⟨b, k, none⟩ = some v -> w'.cell? ⟨b, k, none⟩ = some v /\ T' b k) (hc : ∀ t j, t ≠ d -> Cpt h h' ob ir t j)
  (hO : o ≠ .none -> ∀ b, blk hd.v = some b -> hd.u b) (hb : o ≠ .none -> ∀ b, hd.u b -> w'.heap[b]? = w.heap[b]?) (hr : Y2 d [o] = false) (r : zR T h ob w hd o) : zR T' h' ir w' hd o := by
 cases o with
 | none => trivial
 | box cells =>
  obtain ⟨b, cs, e, hv, hh, lE⟩ := r
  simp only [Y2, Bool.or_false] at hr
  exact ⟨b, cs, e, hv, by rw [hb (by simp) b (hO (by simp) b (by rw [hv]; rfl))]; exact hh, Wy hT hc hr lE⟩
 | arr q size rows =>
  have hk : ∀ {e : TypeId} {n : Nat} {xs : List Value}, w.ownsRow 0 e size hd.v n xs -> w'.ownsRow 0 e size hd.v n xs := fun ho => yg (fun b h => hb (by simp) b (hO (by simp) b h)) ho
  cases q with
  | false =>
   obtain ⟨e, xs, ho, hz, lE⟩ := r
   exact ⟨e, xs, hk ho, hz, lE.imp fun _ _ => Rd.mono hT⟩
  | true =>
   obtain ⟨e, xs, ho, hz, lE, hn⟩ := r
   exact ⟨e, xs, hk ho, hz, lE.Tz (fun b h => hb (by simp) b h.1), hn⟩
 | lit size rows =>
  obtain ⟨e, xs, ho, hz, lE⟩ := r
  simp only [Y2, Bool.or_false] at hr
  exact ⟨e, xs, yg (fun b h => hb (by simp) b (hO (by simp) b h)) ho, hz, Wy hT hc hr lE⟩
theorem St.uC {σ : St} {d : Nat} (hf : σ.fresh d = true) (t j : Nat) (lD : t ≠ d) : Y2 d [σ.ob t j] = false := by
 cases ho : σ.ob t j with
 | none => rfl
 | box cells => simp [Y2, St.sT hf t j lD cells ho]
 | arr q size rows => rfl
 | lit size rows => simp only [Y2, St.vo hf t j lD size rows ho, Bool.or_false]
theorem Rel.tY (r : Rel T0 B σ a w X h) {d : Nat} (hf : σ.fresh d = true) (M : Nat -> Prop) (l7 : w.heap.size <= w'.heap.size) (hg : ∀ k, k < w.heap.size -> ¬ M k -> w'.heap[k]? = w.heap[k]?)
  (hm : ∀ b, M b -> ¬ B b /\ ¬ X b /\ ∀ t j, t ≠ d -> σ.ob t j ≠ .none -> ¬ (h t j).u b) (hX : ∀ b, X b -> X' b) (cI : ∀ b, X' b -> X b \/ (w.heap.size <= b /\ b < w'.heap.size))
  (v : V) (val : Value) (os : List Ob) (hd : Nat -> Hd)
  (hv : JD (Tof T0 X') (fun t j => if t = d then hd j else h t j) (σ.new d v os).ob w' v val)
  (hos : ∀ j, zR (Tof T0 X') (fun t j => if t = d then hd j else h t j) (σ.new d v os).ob w' (hd j) (Yr os j))
  (hO : ∀ j b, Yr os j ≠ .none -> blk (hd j).v = some b -> (hd j).u b)
  (lG : ∀ j b, Yr os j ≠ .none -> (hd j).u b -> (w.heap.size <= b \/ M b) /\ ¬ X' b /\ b < w'.heap.size)
  (dB : ∀ j j' b, Yr os j ≠ .none -> Yr os j' ≠ .none -> (hd j).u b -> (hd j').u b -> j = j') :
  Rel T0 B (σ.new d v os) (a.put (some d) val) w' X' (fun t j => if t = d then hd j else h t j) := by
 have lN := St.yY hf
 have hTm : ∀ b k, Tof T0 X b k -> ¬ M b := by
  intro b k hb hmb
  rcases hb with hb | hb
  ·exact (hm b hmb).1 (r.hT b k hb)
  ·exact (hm b hmb).2.1 hb
 have hT : ∀ b k v, Tof T0 X b k -> w.cell? ⟨b, k, none⟩ = some v -> w'.cell? ⟨b, k, none⟩ = some v /\ Tof T0 X' b k := by
  intro b k v hb lK
  refine ⟨?_, hb.imp id (hX b)⟩
  rw [World.cell?_of_block (hg b (r.Tlt hb) (hTm b k hb))]; exact lK
 have hc : ∀ t j, t ≠ d -> Cpt h (fun t j => if t = d then hd j else h t j) σ.ob (σ.new d v os).ob t j := by
  intro t j lD
  have he : (σ.new d v os).ob t j = σ.ob t j := by rw [St.Ko, if_neg (fun hh => lD hh.1)]
  exact Cpt.same (by simp [lD]) he
 refine ⟨by simp [Act.put, r.size, St.TZ], r.defers, fun b hb => Nat.lt_of_lt_of_le (r.hB b hb) l7, fun b hb => ?_, r.hT, fun t ht => ?_, fun t j => ?_, fun t j b ho hb => ?_, fun t j b ho hb => ?_, fun t j t' j' b ho lU hb lM => ?_⟩
 ·rcases cI b hb with hb | hb
  ·have := r.hX b hb; exact ⟨this.1, by omega⟩
  ·exact ⟨fun ej => by have := r.hB b ej; omega, hb.2⟩
 ·rw [St.TZ] at ht
  rw [St.Tb]
  by_cases lQ : t = d
  ·subst lQ
   simp only [lN, and_self, if_true]
   have : (a.tmps.setIfInBounds t val).getD t undef = val := by simp [r.size, lN]
   simp only [Act.put, this]; exact hv
  ·rw [if_neg (fun hh => lQ hh.1)]
   have : (a.tmps.setIfInBounds d val).getD t undef = a.tmps.getD t undef := by simp [Array.getElem?_setIfInBounds_ne (Ne.symm lQ)]
   simp only [Act.put, this]
   exact JD.carry hT hc (St.uZ hf t lQ) (r.slot t ht)
 ·rw [St.Ko]
  by_cases lQ : t = d
  ·subst lQ
   simp only [lN, and_self, if_true]; exact hos j
  ·have lD : ¬ (t = d /\ d < σ.length) := fun hh => lQ hh.1
   rw [if_neg lD]
   simp only [if_neg lQ]
   exact zR.Tz hT hc (fun ho b => r.ub t j b ho) (fun ho b hu => hg b (r.own t j b ho hu).2.2 (fun hmb => (hm b hmb).2.2 t j lQ ho hu)) (St.uC hf t j lQ) (r.obj t j)
 ·rw [St.Ko] at ho
  by_cases lQ : t = d
  ·subst lQ
   simp only [lN, and_self, if_true] at ho hb ⊢
   exact hO j b ho hb
  ·rw [if_neg (fun hh => lQ hh.1)] at ho
   simp only [lQ, if_false] at hb ⊢
   exact r.ub t j b ho hb
 ·rw [St.Ko] at ho
  by_cases lQ : t = d
  ·subst lQ
   simp only [lN, and_self, if_true] at ho hb
   have h1 := lG j b ho hb
   refine ⟨?_, h1.2.1, h1.2.2⟩
   rcases h1.1 with h2 | h2
   ·exact fun ej => by have := r.hB b ej; omega
   ·exact (hm b h2).1
  ·rw [if_neg (fun hh => lQ hh.1)] at ho
   simp only [lQ, if_false] at hb
   have := r.own t j b ho hb
   refine ⟨this.1, fun hx => ?_, by omega⟩
   rcases cI b hx with hx | hx
   ·exact this.2.1 hx
   ·omega
 ·rw [St.Ko] at ho lU
  by_cases hd1 : t = d
  ·by_cases fH : t' = d
   ·subst hd1; subst fH
    simp only [lN, and_self, if_true] at ho hb lU lM
    exact ⟨rfl, dB j j' b ho lU hb lM⟩
   ·subst hd1
    simp only [lN, and_self, if_true] at ho hb
    rw [if_neg (fun hh => fH hh.1)] at lU
    simp only [fH, if_false] at lM
    have h1 := lG j b ho hb
    have h2 := r.own t' j' b lU lM
    rcases h1.1 with h3 | h3
    ·omega
    ·exact absurd lM ((hm b h3).2.2 t' j' fH lU)
  ·by_cases fH : t' = d
   ·subst fH
    simp only [lN, and_self, if_true] at lU lM
    rw [if_neg (fun hh => hd1 hh.1)] at ho
    simp only [hd1, if_false] at hb
    have h1 := lG j' b lU lM
    have h2 := r.own t j b ho hb
    rcases h1.1 with h3 | h3
    ·omega
    ·exact absurd hb ((hm b h3).2.2 t j hd1 ho)
   ·rw [if_neg (fun hh => hd1 hh.1)] at ho
    rw [if_neg (fun hh => fH hh.1)] at lU
    simp only [hd1, fH, if_false] at hb lM
    exact r.inj t j t' j' b ho lU hb lM
theorem Rel.new (r : Rel T0 B σ a w X h) {d : Nat} (hf : σ.fresh d = true) (hg : w.grownBy w' none) (hX : ∀ b, X b -> X' b) (cI : ∀ b, X' b -> X b \/ (w.heap.size <= b /\ b < w'.heap.size))
  (v : V) (val : Value) (os : List Ob) (hd : Nat -> Hd)
  (hv : JD (Tof T0 X') (fun t j => if t = d then hd j else h t j) (σ.new d v os).ob w' v val)
  (hos : ∀ j, zR (Tof T0 X') (fun t j => if t = d then hd j else h t j) (σ.new d v os).ob w' (hd j) (Yr os j))
  (hO : ∀ j b, Yr os j ≠ .none -> blk (hd j).v = some b -> (hd j).u b)
  (lG : ∀ j b, Yr os j ≠ .none -> (hd j).u b -> w.heap.size <= b /\ ¬ X' b /\ b < w'.heap.size)
  (dB : ∀ j j' b, Yr os j ≠ .none -> Yr os j' ≠ .none -> (hd j).u b -> (hd j').u b -> j = j') :
  Rel T0 B (σ.new d v os) (a.put (some d) val) w' X' (fun t j => if t = d then hd j else h t j) :=
 r.tY hf (fun _ => False) hg.size (fun k hk _ => hg.block k hk (by simp)) (fun _ hh => hh.elim) hX cI v val os hd hv hos hO (fun j b h1 h2 => ⟨.inl (lG j b h1 h2).1, (lG j b h1 h2).2⟩) dB
end
end Go.Vm
namespace Go.Vm
open Go.RowKit
def Kr (v : Value) (cs : List Value) : Prop := (∃ c, cs = [c] /\ v = c /\ c.oneCell' = true) \/ (cs.length ≠ 1 /\ v = .agg cs.toArray)
def M8 : List Value -> Value
 | [v] => v
 | vs => .tuple vs.toArray
def Js (T : CS) (w : World) (v : Value) : D -> Prop
 | .sl size rows => ∃ e xs, w.ownsRow 0 e size v rows.length xs /\ (∀ r ∈ rows, r.length = size) /\ YA (Rd T w) xs rows.flatten
 | d => Rd T w v d
def xg (own : Bool) (T : CS) (w : World) (v : Value) (d : D) : Prop := if own then Js T w v d else Rd T w v d
def MP (P : Program) (f : FuncId) : Bool :=
 match P.funcs[f]? with
 | some fn => fn.body.isSome && fn.name != "runtime.NumGoroutine"
 | none => false
def oW (B N : Nat) (Y : Nat -> Prop) (cs : List Value) (ds : List D) : Prop :=
 (∀ (i : Nat) (c : Value) (d : D) (b : Nat), cs[i]? = some c -> ds[i]? = some d -> d.scalar = false -> blk c = some b -> B <= b /\ b < N /\ ¬ Y b) /\
 (∀ (i j : Nat) (c c' : Value) (d d' : D) (b : Nat), cs[i]? = some c -> ds[i]? = some d -> cs[j]? = some c' -> ds[j]? = some d' -> d.scalar = false -> d'.scalar = false -> blk c = some b -> blk c' = some b -> i = j)
def nW (own : Bool) (T : CS) (w : World) (res : List (List D)) (e : Ending) (w' : World) : Prop :=
 ∃ (vs : List Value) (lf : List (List Value)) (Y : Nat -> Prop), e = .returned (M8 vs) /\ Below w.heap.size w w' /\ (∀ b, Y b -> w.heap.size <= b /\ b < w'.heap.size) /\
  YA Kr vs lf /\ YA (fun cs row => YA (xg own (Tof T Y) w') cs row) lf res /\ (own = true -> oW w.heap.size w'.heap.size Y lf.flatten res.flatten)
def Qz (P : Program) (f : FuncId) (own : Bool) (args res : List (List D)) : Prop :=
 MP P f = true /\ ∀ (T : CS) (w : World) (lu : List Value), (∀ b k, T b k -> b < w.heap.size) -> YA (fun v row => ∃ cs, Kr v cs /\ YA (Rd T w) cs row) lu args ->
  Calls P f lu.toArray w (nW own T w res)
def vOf : List At -> V
 | [x] => .one x
 | xs => .agg xs
def KG (t : Nat) : Nat -> List D -> List At
 | _, [] => []
 | k, .sl _ rows :: ds => .sref t k 0 rows.length :: KG t (k + 1) ds
 | k, d :: ds => .d d :: KG t (k + 1) ds
def yq : List D -> List Ob
 | [] => []
 | .sl size rows :: ds => .arr false size rows :: yq ds
 | _ :: ds => .none :: yq ds
def DS (t : Nat) : Nat -> List (List D) -> List V
 | _, [] => []
 | k, r :: rs => vOf (KG t k r) :: DS t (k + r.length) rs
def VS (t : Nat) : List (List D) -> V
 | [r] => vOf (KG t 0 r)
 | rs => .tup (DS t 0 rs)
def jj : List (List D) -> V
 | [r] => vOf (r.map .d)
 | rs => .tup (rs.map fun r => vOf (r.map .d))
def z4 (σ : St) : At -> Option D
 | .d x => some x
 | .nil s => some (.sl s [])
 | .sref t j lo len => (match σ.ob t j with | .arr _ size rows => some (.sl size (cut rows lo len)) | _ => none)
 | _ => none
def rowOf (σ : St) : List At -> Option (List D)
 | [] => some []
 | x :: xs => (match z4 σ x, rowOf σ xs with | some d, some ds => some (d :: ds) | _, _ => none)
def V.Kv (σ : St) : V -> Option (List D)
 | .one x => rowOf σ [x]
 | .agg [_] => none
 | .agg xs => rowOf σ xs
 | _ => none
def Qp (P : Program) (σ : St) : List Operand -> List TypeId -> List (List D) -> Prop
 | [], _, rs => rs = []
 | x :: xs, t :: ts, rs => gOf (look P σ t x) = true /\ ∃ r rest, (unc (look P σ t x)).Kv σ = some r /\ Qp P σ xs ts rest /\ rs = r :: rest
 | _ :: _, [], _ => False
def At.Cm : At -> Bool
 | .sref _ _ _ _ => false
 | .tref _ _ _ _ _ => false
 | _ => true
def Kz : List At -> Bool
 | [] => true
 | x :: xs => x.Cm && Kz xs
def Yn (P : Program) (σ : St) : List Operand -> List TypeId -> Bool
 | x :: xs, t :: ts => Kz (unc (look P σ t x)).cells && Yn P σ xs ts
 | _, _ => true
section
variable {P : Program} {T0 : CS} {B : Nat -> Prop} {σ : St} {a : Act} {w w' : World} {X X' : Nat -> Prop} {h : Nat -> Nat -> Hd}
theorem Rel.grow (r : Rel T0 B σ a w X h) (hg : w.grownBy w' none) (hX : ∀ b, X b -> X' b) (cI : ∀ b, X' b -> X b \/ (w.heap.size <= b /\ b < w'.heap.size)) : Rel T0 B σ a w' X' h := by
 have hT : ∀ b k v, Tof T0 X b k -> w.cell? ⟨b, k, none⟩ = some v -> w'.cell? ⟨b, k, none⟩ = some v /\ Tof T0 X' b k := by
  intro b k v hb lK
  refine ⟨?_, hb.imp id (hX b)⟩
  rw [World.cell?_of_block (hg.block b (r.Tlt hb) (by simp))]; exact lK
 have hB : w.heap.size <= w'.heap.size := hg.size
 refine ⟨r.size, r.defers, fun b hb => Nat.lt_of_lt_of_le (r.hB b hb) hB, fun b hb => ?_, r.hT, fun t ht => JD.mono hT (r.slot t ht), fun t j => ?_, r.ub, fun t j b ho hb => ?_, r.inj⟩
 ·rcases cI b hb with hb | hb
  ·have := r.hX b hb; exact ⟨this.1, by omega⟩
  ·exact ⟨fun ej => by have := r.hB b ej; omega, hb.2⟩
 ·have h0 := r.obj t j
  have hk : σ.ob t j ≠ .none -> ∀ b, (h t j).u b -> w'.heap[b]? = w.heap[b]? := fun ho b hu => hg.block b (r.own t j b ho hu).2.2 (by simp)
  have lV := r.ub t j
  cases ho : σ.ob t j with
  | none => trivial
  | box cells =>
   rw [ho] at h0 hk lV
   obtain ⟨b, cs, e, hv, hh, lE⟩ := h0
   exact ⟨b, cs, e, hv, by rw [hk (by simp) b (lV b (by simp) (by rw [hv]; rfl))]; exact hh, lE.imp fun _ _ => YK.mono hT⟩
  | arr q size rows =>
   rw [ho] at h0 hk lV
   cases q with
   | false =>
    obtain ⟨e, xs, gA, hz, lE⟩ := h0
    exact ⟨e, xs, yg (fun b hb => hk (by simp) b (lV b (by simp) hb)) gA, hz, lE.imp fun _ _ => Rd.mono hT⟩
   | true =>
    obtain ⟨e, xs, gA, hz, lE, hn⟩ := h0
    exact ⟨e, xs, yg (fun b hb => hk (by simp) b (lV b (by simp) hb)) gA, hz, lE.Tz (fun b hb => hk (by simp) b hb.1), hn⟩
  | lit size rows =>
   rw [ho] at h0 hk lV
   obtain ⟨e, xs, gA, hz, lE⟩ := h0
   exact ⟨e, xs, yg (fun b hb => hk (by simp) b (lV b (by simp) hb)) gA, hz, lE.imp fun _ _ => YK.mono hT⟩
 ·have := r.own t j b ho hb
  refine ⟨this.1, fun hx => ?_, by omega⟩
  rcases cI b hx with hx | hx
  ·exact this.2.1 hx
  ·omega
def Pw (T0 : CS) (X : Nat -> Prop) (h : Nat -> Nat -> Hd) (σ : St) : CS := fun b k => Tof T0 X b k \/ ∃ t j q size rows, σ.ob t j = .arr q size rows /\ (h t j).u b
theorem Rel.Cv (r : Rel T0 B σ a w X h) {b k : Nat} (hb : Pw T0 X h σ b k) : b < w.heap.size := by
 rcases hb with hb | ⟨t, j, q, size, rows, ho, hb⟩
 ·exact r.Tlt hb
 ·exact (r.own t j b (by rw [ho]; simp) hb).2.2
theorem rN {T : CS} {w : World} {e : TypeId} {size : Nat} {v : Value} {rows : List (List D)} {xs : List Value} (ho : w.ownsRow 0 e size v rows.length xs) (hz : ∀ r ∈ rows, r.length = size) (hT : ∀ b k, blk v = some b -> T b k)
  (lE : YA (Rd T w) xs rows.flatten) : Rd T w v (.sl size rows) := by
 rcases ho.2 with ⟨rfl, hn⟩ | ⟨g, cap, cur, rfl, _, hh, ij, gD, iy, gO⟩
 ·have : rows = [] := List.eq_nil_of_length_eq_zero hn
  subst this; exact .nil _
 ·refine .sl ⟨g, 0, none⟩ _ cap size rows (fun k => (xs[k]?).getD undef) rfl ij gD hz (fun _ => rfl) (fun k d hd => ?_) (fun k d hd => ?_)
  ·obtain ⟨u, hu, _⟩ := lE.get' k d hd
   have lN : k < rows.length * size := by
    have := (List.getElem?_eq_some_iff.1 hd).1
    rw [YQ rows size hz] at this; exact this
   rw [hu]
   refine ⟨?_, hT g _ rfl⟩
   simp only [Nat.zero_add]
   refine zj hh _ _ ?_
   rw [<- gO, List.getElem?_take, if_pos lN] at hu
   exact hu
  ·obtain ⟨u, hu, hr⟩ := lE.get' k d hd
   rw [hu]; exact hr
theorem Own.rd {T : CS} {w : World} {v : Value} {d : D} {S : Nat -> Prop} (ho : Own w v d S) (hT : ∀ b k, S b -> T b k) : Rd T w v d := by
 induction ho with
 | int k n S => exact .int k n
 | bool b S => exact .bool b
 | str s S => exact .str s
 | unk v h S => exact .unk v h
 | sl v size rows S e xs Sk ho hz lM hl hk hs hd ih =>
  exact rN ho hz (fun b k hb => hT b k (lM b hb)) (YA.jf hl (fun k x d hx lQ => ih k x d hx lQ (fun b k' hb => hT b k' (hs k b hb).1)))
theorem Jo.rd {T : CS} {w : World} {xs : List Value} {ds : List D} {S : Nat -> Prop} (ho : Jo w xs ds S) (hT : ∀ b k, S b -> T b k) : YA (Rd T w) xs ds := by
 obtain ⟨hl, Sk, h1, h2, h3⟩ := ho
 exact YA.jf hl (fun k x d hx hd => (h1 k x d hx hd).rd (fun b k' hb => hT b k' (h2 k b hb)))
theorem Rel.cells (r : Rel T0 B σ a w X h) {t j size : Nat} {q : Bool} {rows : List (List D)} (ho : σ.ob t j = .arr q size rows) :
  ∃ e xs, w.ownsRow 0 e size (h t j).v rows.length xs /\ (∀ r ∈ rows, r.length = size) /\ ∀ T : CS, (∀ b k, Tof T0 X b k -> T b k) -> (∀ b k, (h t j).u b -> T b k) -> YA (Rd T w) xs rows.flatten := by
 have h0 := r.obj t j
 rw [ho] at h0
 cases q with
 | false =>
  obtain ⟨e, xs, gA, hz, lE⟩ := h0
  exact ⟨e, xs, gA, hz, fun T h1 _ => lE.imp fun _ _ => Rd.mono (fun b k v hb hc => ⟨hc, h1 b k hb⟩)⟩
 | true =>
  obtain ⟨e, xs, gA, hz, lE, hn⟩ := h0
  exact ⟨e, xs, gA, hz, fun T _ h2 => lE.rd (fun b k hb => h2 b k hb.1)⟩
theorem Rel.vJ (r : Rel T0 B σ a w X h) {t j lo len size : Nat} {q : Bool} {rows : List (List D)} (ho : σ.ob t j = .arr q size rows) {v : Value} (hv : YK (Tof T0 X) h σ.ob w (.sref t j lo len) v)
  (T : CS) (hT1 : ∀ b k, Tof T0 X b k -> T b k) (hT2 : ∀ b k, (h t j).u b -> T b k) : Rd T w v (.sl size (cut rows lo len)) := by
 obtain ⟨hle, iN, _, base, cap, rfl, iU, dY, ev, hb⟩ := hv.2.1 q size rows ho
 obtain ⟨e, xs, ⟨hl, lG⟩, hz, hal0⟩ := r.cells ho
 have lE := hal0 T hT1 hT2
 have hO := r.ub t j
 have lr : (cut rows lo len).length = len := XH _ _ _ hle
 have hZ : ∀ x ∈ cut rows lo len, x.length = size := fun x hx => hz x (List.mem_of_mem_drop (List.mem_of_mem_take hx))
 by_cases iI : 0 < len
 ·obtain ⟨b, fG, hh, rfl⟩ := hb iI
  rcases lG with ⟨hn, _⟩ | ⟨g, eU, cur, gH, _, bQ, ij, gD, iy, gO⟩
  ·rw [hh] at hn; cases hn
  ·rw [hh] at gH
   cases gH
   have key : ∀ k d, (cut rows lo len).flatten[k]? = some d -> ∃ u, w.cell? ⟨b, lo * size + k, none⟩ = some u /\ T b (lo * size + k) /\ Rd T w u d := by
    intro k d hd
    have lQ := jA rows size lo len hz k d hd
    obtain ⟨u, hu, hr⟩ := lE.get' _ _ lQ
    have lN : lo * size + k < rows.length * size := by
     have := (List.getElem?_eq_some_iff.1 lQ).1
     rw [YQ rows size hz] at this; exact this
    refine ⟨u, zj bQ _ _ ?_, hT2 b _ (hO b (by rw [ho]; simp) (by rw [hh]; rfl)), hr⟩
    rw [<- gO, List.getElem?_take, if_pos lN] at hu
    exact hu
   refine .sl ⟨b, lo * size, none⟩ len cap size _ (fun k => (w.cell? ⟨b, lo * size + k, none⟩).getD undef) lr iU dY hZ (fun _ => rfl) (fun k d hd => ?_) (fun k d hd => ?_)
   ·obtain ⟨u, hu, ht, _⟩ := key k d hd
    rw [hu]; exact ⟨rfl, ht⟩
   ·obtain ⟨u, hu, _, hr⟩ := key k d hd
    rw [hu]; exact hr
 ·have h0' : len = 0 := by omega
  subst h0'
  have gq : cut rows lo 0 = [] := by simp [cut]
  rw [gq]
  cases base with
  | none => have := ev rfl; subst this; exact .nil _
  | some ad => exact .sl ad 0 cap size [] (fun _ => undef) rfl iU dY (by intro r hr; cases hr) (by simp) (by simp) (by simp)
end
end Go.Vm
namespace Go.Vm
open Go.RowKit
def D.Cf : D -> Prop
 | .sl _ rows => ∀ r ∈ rows, ∀ d ∈ r, d.scalar = true
 | _ => True
def KR (own : Bool) (res : List (List D)) : Prop := ∀ r ∈ res, ∀ d ∈ r, if own = true then d.Cf else d.scalar = true
theorem Rd.scalar {T T' : CS} {w : World} {v : Value} {d : D} (hd : d.scalar = true) (r : Rd T w v d) : Rd T' w v d := by
 cases r with
 | int k n => exact .int k n
 | bool b => exact .bool b
 | str s => exact .str s
 | unk v h => exact .unk v h
 | nil => cases hd
 | sl => cases hd
theorem Js.flat {T T' : CS} {w : World} {v : Value} {d : D} (hd : d.Cf) (r : Js T w v d) : Js T' w v d := by
 cases d with
 | sl size rows =>
  obtain ⟨e, xs, ho, hz, lE⟩ := r
  refine ⟨e, xs, ho, hz, ?_⟩
  refine YA.jf lE.length (fun i x d hx lQ => ?_)
  obtain ⟨d2, fH, hr⟩ := lE.get i x hx
  rw [lQ] at fH; cases fH
  have hm : d ∈ rows.flatten := List.mem_of_getElem? lQ
  obtain ⟨r0, g4, hdr⟩ := List.mem_flatten.1 hm
  exact Rd.scalar (hd r0 g4 d hdr) hr
 | int k n => exact Rd.scalar rfl r
 | bool b => exact Rd.scalar rfl r
 | str s => exact Rd.scalar rfl r
 | unk => exact Rd.scalar rfl r
theorem UD {w : World} {e : TypeId} {size : Nat} {v : Value} {n : Nat} {xs : List Value} (ho : w.ownsRow 0 e size v n xs) : tq v size n 0 n v := by
 refine ⟨by omega, fun _ _ => rfl, ?_, ?_⟩
 ·intro _
  rcases ho.2 with ⟨rfl, rfl⟩ | ⟨g, cap, cur, rfl, _⟩ <;> rfl
 rcases ho.2 with ⟨rfl, rfl⟩ | ⟨g, cap, cur, rfl, _, _, ij, gD, _, _⟩
 ·exact ⟨none, 0, rfl, by omega, by simp [maxLen], fun _ => rfl, fun hh => by omega⟩
 ·exact ⟨_, cap, rfl, ij, gD, (fun hh => by cases hh), fun _ => ⟨g, cap, rfl, by simp⟩⟩
theorem KO {w : World} {e : TypeId} {size : Nat} {v : Value} {n : Nat} {xs : List Value} (ho : w.ownsRow 0 e size v n xs) : v.oneCell' = true := by
 rcases ho.2 with ⟨rfl, rfl⟩ | ⟨g, cap, cur, rfl, _⟩ <;> rfl
theorem Js.Xy {T : CS} {w : World} {v : Value} {d : D} (r : Js T w v d) : v.oneCell' = true := by
 cases d with
 | sl size rows => obtain ⟨e, xs, ho, _⟩ := r; exact KO ho
 | int k n => exact Rd.Xy r
 | bool b => exact Rd.Xy r
 | str s => exact Rd.Xy r
 | unk => exact Rd.Xy r
theorem Js.rd {T T' : CS} {w : World} {v : Value} {d : D} (r : Js T w v d) (h1 : ∀ b k, T b k -> T' b k) (h2 : d.scalar = false -> ∀ b k, blk v = some b -> T' b k) : Rd T' w v d := by
 cases d with
 | sl size rows =>
  obtain ⟨e, xs, ⟨hl, lG⟩, hz, lE⟩ := r
  rcases lG with ⟨rfl, hn⟩ | ⟨g, cap, cur, rfl, _, hh, ij, gD, iy, gO⟩
  ·have : rows = [] := List.eq_nil_of_length_eq_zero hn
   subst this; exact .nil _
  ·refine .sl ⟨g, 0, none⟩ _ cap size rows (fun k => (xs[k]?).getD undef) rfl ij gD hz (fun _ => rfl) (fun k d hd => ?_) (fun k d hd => ?_)
   ·obtain ⟨u, hu, _⟩ := lE.get' k d hd
    have lN : k < rows.length * size := by
     have := (List.getElem?_eq_some_iff.1 hd).1
     rw [YQ rows size hz] at this; exact this
    rw [hu]
    refine ⟨?_, h2 rfl g _ rfl⟩
    simp only [Nat.zero_add]
    refine zj hh _ _ ?_
    rw [<- gO, List.getElem?_take, if_pos lN] at hu
    exact hu
   ·obtain ⟨u, hu, hr⟩ := lE.get' k d hd
    rw [hu]; exact Rd.mono (fun b k v hb hc => ⟨hc, h1 b k hb⟩) hr
 | int k n => exact Rd.scalar rfl r
 | bool b => exact Rd.scalar rfl r
 | str s => exact Rd.scalar rfl r
 | unk => exact Rd.scalar rfl r
section
variable {P : Program} {T0 : CS} {B : Nat -> Prop} {σ : St} {a : Act} {w w' : World} {X X' : Nat -> Prop} {h : Nat -> Nat -> Hd}
theorem Rel.z4 (r : Rel T0 B σ a w X h) {x : At} {v : Value} {d : D} (hd : z4 σ x = some d) (hv : YK (Tof T0 X) h σ.ob w x v) (st : Bool) (lZ : st = true -> x.Cm = true) :
  Rd (if st then Tof T0 X else Pw T0 X h σ) w v d := by
 cases x with
 | d x => simp [Vm.z4] at hd; subst hd; cases st <;> simp <;> first | exact hv | exact Rd.mono (fun b k v hb hc => ⟨hc, .inl hb⟩) hv
 | nil s => simp [Vm.z4] at hd; subst hd; cases hv; exact .nil _
 | sref t j lo len =>
  cases st with
  | true => have := lZ rfl; simp [At.Cm] at this
  | false =>
   simp only [Vm.z4] at hd
   split at hd
   ·rename_i q size rows ho
    cases hd
    exact r.vJ ho hv _ (fun b k hb => .inl hb) (fun b k hb => .inr ⟨t, j, _, size, rows, ho, hb⟩)
   ·cases hd
 | any => simp [Vm.z4] at hd
 | ptr => simp [Vm.z4] at hd
 | bptr => simp [Vm.z4] at hd
 | fn => simp [Vm.z4] at hd
 | rptr => simp [Vm.z4] at hd
 | tref => simp [Vm.z4] at hd
theorem Rel.rowOf (r : Rel T0 B σ a w X h) (st : Bool) : ∀ {xs : List At} {vs : List Value} {ds : List D}, rowOf σ xs = some ds -> YA (YK (Tof T0 X) h σ.ob w) xs vs -> (st = true -> Kz xs = true) ->
  YA (Rd (if st then Tof T0 X else Pw T0 X h σ) w) vs ds
 | [], _, ds, hd, lE, _ => by cases lE; simp [Vm.rowOf] at hd; subst hd; exact .nil
 | x :: xs, _, ds, hd, lE, lZ => by
  cases lE with
  | cons hx lE =>
   simp only [Vm.rowOf] at hd
   split at hd
   ·rename_i d hQ h1 h2
    cases hd
    refine .cons (r.z4 h1 hx st (fun hs => ?_)) (Rel.rowOf r st h2 lE (fun hs => ?_))
    ·have := lZ hs; simp [Kz] at this; exact this.1
    ·have := lZ hs; simp [Kz] at this; exact this.2
   ·cases hd
theorem Rel.Kv (r : Rel T0 B σ a w X h) (st : Bool) {v : V} {val : Value} {row : List D} (hr : v.Kv σ = some row) (hv : JD (Tof T0 X) h σ.ob w v val) (lZ : st = true -> Kz v.cells = true) :
  ∃ cs, Kr val cs /\ YA (Rd (if st then Tof T0 X else Pw T0 X h σ) w) cs row := by
 cases v with
 | one x => exact ⟨[val], .inl ⟨val, rfl, rfl, YK.Xy (show YK _ _ _ _ _ _ from hv)⟩, r.rowOf st (xs := [x]) hr (.cons hv .nil) lZ⟩
 | agg xs =>
  obtain ⟨cs, rfl, lE⟩ := hv
  have hl := lE.length
  match xs, hr, lE, hl, lZ with
  | [], hr, lE, hl, lZ => exact ⟨cs.toList, .inr ⟨by rw [<- hl]; simp, by simp⟩, r.rowOf st hr lE lZ⟩
  | [_], hr, _, _, _ => simp [V.Kv] at hr
  | x :: y :: xs, hr, lE, hl, lZ => exact ⟨cs.toList, .inr ⟨by rw [<- hl]; simp, by simp⟩, r.rowOf st hr lE lZ⟩
 | any => simp [V.Kv] at hr
 | tup xs => simp [V.Kv] at hr
 | cnd g x => simp [V.Kv] at hr
 | fix u x => simp [V.Kv] at hr
theorem Rel.Qp (r : Rel T0 B σ a w X h) (st : Bool) : ∀ {xs : List Operand} {ts : List TypeId} {rs : List (List D)}, Qp P σ xs ts rs -> (st = true -> Yn P σ xs ts = true) ->
  YA (fun v row => ∃ cs, Kr v cs /\ YA (Rd (if st then Tof T0 X else Pw T0 X h σ) w) cs row) (xs.map a.eval) rs
 | [], _, rs, hr, _ => by cases hr; exact .nil
 | x :: xs, [], rs, hr, _ => hr.elim
 | x :: xs, t :: ts, rs, hr, lZ => by
  obtain ⟨hg, row, rest, h1, h2, rfl⟩ := hr
  refine .cons (r.Kv st h1 (r.arg t x rfl hg) (fun hs => ?_)) (Rel.Qp r st h2 (fun hs => ?_))
  ·have := lZ hs; simp [Yn] at this; exact this.1
  ·have := lZ hs; simp [Yn] at this; exact this.2
theorem W2 {o : Oper} {c : Call} {f : FuncId} (lB : o.op = .call c) (hc : c.callee = .value (.func f)) (hf : MP P f = true) : (execOp a.eval o).run P w = .ok (.enter f (c.args.toList.map a.eval).toArray) w := by
 unfold MP at hf
 split at hf
 ·rename_i fn hfn
  simp only [Bool.and_eq_true, bne_iff_ne, ne_eq] at hf
  obtain ⟨cd, hb⟩ := Option.isSome_iff_exists.1 hf.1
  obtain ⟨callee, args, l6⟩ := c
  simp only at hc; subst hc
  have hm : (args.toList.map a.eval).toArray = args.map a.eval := by apply Array.toList_inj.1; simp
  rw [hm]
  simp [execOp, lB, resolve, Act.eval, Deferred.ofValue, invoke, callFunc, hfn, hf.2, hb]
 ·cases hf
end
end Go.Vm
namespace Go.Vm
open Go.RowKit
section
variable {P : Program} {T0 : CS} {B : Nat -> Prop} {σ : St} {a : Act} {w w' : World} {X X' : Nat -> Prop} {h : Nat -> Nat -> Hd}
theorem Below.grownBy (hb : Below w.heap.size w w') : w.grownBy w' none := ⟨hb.os, hb.tape, hb.output, hb.size, fun k hk _ => hb.block k hk⟩
theorem Nk {T : CS} {ob : Nat -> Nat -> Ob} {xs : List At} {v : Value} {cs : List Value} (hf : Kr v cs) (lE : YA (YK T h ob w) xs cs) : Ks T h ob w (vOf xs) v := by
 have hl := lE.length
 rcases hf with ⟨c, rfl, rfl, h1⟩ | ⟨lD, rfl⟩
 ·cases lE with
  | cons hx lE => cases lE; exact hx
 ·match xs, lE, hl with
  | [], lE, _ => exact ⟨_, rfl, by simpa using lE⟩
  | [x], lE, hl => exact absurd hl.symm (by simpa using lD)
  | x :: y :: xs, lE, _ => exact ⟨_, rfl, by simpa using lE⟩
theorem Ma {T : CS} {ob : Nat -> Nat -> Ob} {cs : List Value} {row : List D} (lE : YA (Rd T w) cs row) : YA (YK T h ob w) (row.map .d) cs := by
 induction lE with
 | nil => exact .nil
 | cons r _ ih => exact .cons r ih
theorem w5 {T : CS} {ob : Nat -> Nat -> Ob} {res : List (List D)} {vs : List Value} {lf : List (List Value)} (hf : YA Kr vs lf) (lE : YA (fun cs row => YA (Rd T w) cs row) lf res) :
  YA (Ks T h ob w) (res.map fun r => vOf (r.map .d)) vs := by
 induction hf generalizing res with
 | nil => cases lE; exact .nil
 | cons f _ ih => cases lE with
  | cons r lE => exact .cons (Nk f (Ma r)) (ih lE)
theorem vp {T : CS} {ob : Nat -> Nat -> Ob} {res : List (List D)} {vs : List Value} {lf : List (List Value)} (hf : YA Kr vs lf) (lE : YA (fun cs row => YA (Rd T w) cs row) lf res) :
  JD T h ob w (jj res) (M8 vs) := by
 have hl := w5 (h := h) (ob := ob) hf lE
 have h1 := hl.length
 match res, vs, hl, h1 with
 | [r], [v], hl, _ => cases hl with | cons x _ => exact x.up
 | [], [], hl, _ => exact ⟨_, rfl, by simpa using hl⟩
 | r :: r' :: rs, v :: v' :: vs, hl, _ => exact ⟨_, rfl, by simpa using hl⟩
 | [], v :: vs, _, h1 => simp at h1
 | [r], [], _, h1 => simp at h1
 | [r], v :: v' :: vs, _, h1 => simp at h1
 | r :: r' :: rs, [], _, h1 => simp at h1
 | r :: r' :: rs, [v], _, h1 => simp at h1
theorem DM {α β : Type} {R S : α -> β -> Prop} {l : List (List α)} {m : List (List β)} (gi : ∀ (a : α) (b : β) (row : List β), row ∈ m -> b ∈ row -> R a b -> S a b) (lE : YA (fun x y => YA R x y) l m) : YA (fun x y => YA S x y) l m := by
 induction lE with
 | nil => exact .nil
 | @cons x y _ _ db _ ih =>
  refine .cons ?_ (ih (fun a b row hr => gi a b row (by simp [hr])))
  have iM : ∀ b ∈ y, ∀ a, R a b -> S a b := fun b hb a hr => gi a b y (by simp) hb hr
  clear ih gi
  induction db with
  | nil => exact .nil
  | cons r _ cH => exact .cons (iM _ (by simp) _ r) (cH (fun b hb => iM b (by simp [hb])))
theorem Wm (r : Rel T0 B σ a w X h) {o : Oper} {c : Call} {f : FuncId} {d : Nat} {own : Bool} {rows res : List (List D)} (lB : o.op = .call c) (hc : c.callee = .value (.func f)) (hd : o.dst = some d)
  (lH : Qp P σ c.args.toList c.argTypes.toList rows) (st : Bool) (lZ : st = true -> Yn P σ c.args.toList c.argTypes.toList = true) (iV : st = false -> KR own res) (hs : Qz P f own rows res)
  {K : Act -> World -> Prop} {Q : Exit -> Act -> World -> Prop} (hK : ∀ a' w', Ku T0 B (σ.put d (jj res)) a' w' -> Y7 B w w' -> K a' w') : o.wp P a w K Q := by
 unfold Oper.wp
 rw [W2 lB hc hs.1, Oper.upon_enter]
 refine (hs.2 (if st then Tof T0 X else Pw T0 X h σ) w _ (fun b k hb => ?_) (r.Qp st lH lZ)).mono ?_
 ·cases st
  ·exact r.Cv hb
  ·exact r.Tlt hb
 ·rintro e w' ⟨vs, lf, Y, rfl, gI, hY, lk, gV, dc⟩
  have cI : ∀ b, (X b \/ (w.heap.size <= b /\ b < w'.heap.size)) -> X b \/ (w.heap.size <= b /\ b < w'.heap.size) := fun b hb => hb
  have r2 := r.grow (X' := fun b => X b \/ (w.heap.size <= b /\ b < w'.heap.size)) (Below.grownBy gI) (fun b hb => .inl hb) cI
  have gQ : YA (fun cs row => YA (Rd (Tof T0 fun b => X b \/ (w.heap.size <= b /\ b < w'.heap.size)) w') cs row) lf res := by
   have iM : ∀ (i : Nat) (c : Value) (d : D), lf.flatten[i]? = some c -> res.flatten[i]? = some d -> own = true -> d.scalar = false -> ∀ b, blk c = some b -> w.heap.size <= b /\ b < w'.heap.size := by
    intro i c d h1 h2 ho iK b hb
    have := (dc ho).1 i c d b h1 h2 iK hb
    exact ⟨this.1, this.2.1⟩
   have conv : ∀ (c : Value) (d : D), (∀ b, own = true -> d.scalar = false -> blk c = some b -> w.heap.size <= b /\ b < w'.heap.size) -> (st = false -> if own = true then d.Cf else d.scalar = true) ->
     xg own (Tof (if st then Tof T0 X else Pw T0 X h σ) Y) w' c d -> Rd (Tof T0 fun b => X b \/ (w.heap.size <= b /\ b < w'.heap.size)) w' c d := by
    intro c d iB ei hr
    cases own with
    | true =>
     have lp : Js (Tof (if st then Tof T0 X else Pw T0 X h σ) Y) w' c d := by simpa [xg] using hr
     cases st with
     | true =>
      refine Js.rd lp (fun b k hb => ?_) (fun iK b k hb => .inr (.inr (iB b rfl iK hb)))
      rcases hb with hb | hb
      ·rcases (show Tof T0 X b k from by simpa using hb) with hb | hb
       ·exact .inl hb
       ·exact .inr (.inl hb)
      ·exact .inr (.inr (hY b hb))
     | false =>
      exact Js.rd (Js.flat (T' := fun _ _ => False) (by simpa using ei rfl) lp) (fun b k hb => hb.elim) (fun iK b k hb => .inr (.inr (iB b rfl iK hb)))
    | false =>
     have lp : Rd (Tof (if st then Tof T0 X else Pw T0 X h σ) Y) w' c d := by simpa [xg] using hr
     cases st with
     | true =>
      refine Rd.mono (fun b k v hb hc => ⟨hc, ?_⟩) lp
      rcases hb with hb | hb
      ·rcases (show Tof T0 X b k from by simpa using hb) with hb | hb
       ·exact .inl hb
       ·exact .inr (.inl hb)
      ·exact .inr (.inr (hY b hb))
     | false => exact Rd.scalar (by simpa using ei rfl) lp
   have go : ∀ (lf : List (List Value)) (res : List (List D)), YA (fun cs row => YA (xg own (Tof (if st then Tof T0 X else Pw T0 X h σ) Y) w') cs row) lf res ->
     (∀ (i : Nat) (c : Value) (d : D), lf.flatten[i]? = some c -> res.flatten[i]? = some d -> own = true -> d.scalar = false -> ∀ b, blk c = some b -> w.heap.size <= b /\ b < w'.heap.size) ->
     (st = false -> KR own res) -> YA (fun cs row => YA (Rd (Tof T0 fun b => X b \/ (w.heap.size <= b /\ b < w'.heap.size)) w') cs row) lf res := by
    intro lf res lE
    induction lE with
    | nil => intro _ _; exact .nil
    | @cons cs row css' res' lX _ ih =>
     intro hm hf
     have hlen := lX.length
     refine .cons (YA.jf hlen (fun i c d hc lQ => ?_)) (ih (fun i c d h1 h2 => ?_) (fun hs r hr => hf hs r (by simp [hr])))
     ·obtain ⟨d2, fH, hr⟩ := lX.get i c hc
      rw [lQ] at fH; cases fH
      refine conv c d (fun b ho iK hb => hm i c d ?_ ?_ ho iK b hb) (fun hs => hf hs row (by simp) d (List.mem_of_getElem? lQ)) hr
      ·rw [List.flatten_cons, List.getElem?_append_left (List.getElem?_eq_some_iff.1 hc).1]; exact hc
      ·rw [List.flatten_cons, List.getElem?_append_left (List.getElem?_eq_some_iff.1 lQ).1]; exact lQ
     ·refine hm (cs.length + i) c d ?_ ?_
      ·rw [List.flatten_cons, List.getElem?_append_right (by omega)]; simpa using h1
      ·rw [List.flatten_cons, List.getElem?_append_right (by omega), hlen]; simpa using h2
   exact go lf res gV iM iV
  rw [hd]
  exact hK _ _ ⟨_, _, r2.put d _ _ (vp lk gQ)⟩ (Y7.Ha gI r.hB)
end
end Go.Vm
namespace Go.Vm
open Go.RowKit
section
variable {P : Program} {T0 : CS} {B : Nat -> Prop} {σ : St} {a : Act} {w w' : World} {X X' : Nat -> Prop} {h : Nat -> Nat -> Hd}
theorem Tw : ∀ (ds : List D) (k : Nat), Yr (yq ds) k = (match ds[k]? with | some (.sl size rows) => .arr false size rows | _ => .none)
 | [], k => by simp [yq, Yr]
 | d :: ds, 0 => by cases d <;> simp [yq, Yr]
 | d :: ds, k + 1 => by
  have := Tw ds k
  cases d <;> simpa [yq, Yr] using this
def Wj (T : CS) (w : World) (v : Value) : D -> Prop
 | .sl size rows => ∃ e xs, w.ownsRow 0 e size v rows.length xs
 | d => Rd T w v d
theorem Js.top {T : CS} {v : Value} {d : D} (r : Js T w v d) : Wj T w v d := by
 cases d with
 | sl size rows => obtain ⟨e, xs, ho, _⟩ := r; exact ⟨e, xs, ho⟩
 | int k n => exact r
 | bool b => exact r
 | str s => exact r
 | unk => exact r
theorem Wj.Xy {T : CS} {v : Value} {d : D} (r : Wj T w v d) : v.oneCell' = true := by
 cases d with
 | sl size rows => obtain ⟨e, xs, ho⟩ := r; exact KO ho
 | int k n => exact Rd.Xy r
 | bool b => exact Rd.Xy r
 | str s => exact Rd.Xy r
 | unk => exact Rd.Xy r
theorem OQ {T : CS} {ob : Nat -> Nat -> Ob} {t : Nat} : ∀ {ds : List D} {cs : List Value} {k : Nat}, YA (Wj T w) cs ds ->
  (∀ i size rows, ds[i]? = some (.sl size rows) -> ∃ q, ob t (k + i) = .arr q size rows) -> (∀ i c, cs[i]? = some c -> (h t (k + i)).v = c) -> YA (YK T h ob w) (KG t k ds) cs
 | [], _, k, lE, _, _ => by cases lE; exact .nil
 | d :: ds, _, k, lE, ho, hh => by
  cases lE with
  | @cons c _ cs _ hc lE =>
   have ih := OQ (k := k + 1) lE (fun i size rows hi => by have := ho (i + 1) size rows (by simpa using hi); rw [show k + 1 + i = k + (i + 1) by omega]; exact this)
    (fun i c' lg => by have := hh (i + 1) c' (by simpa using lg); rw [show k + 1 + i = k + (i + 1) by omega]; exact this)
   cases d with
   | sl size rows =>
    obtain ⟨q0, h0⟩ := ho 0 size rows (by simp)
    have h1 := hh 0 c (by simp)
    rw [Nat.add_zero] at h0 h1
    refine .cons ⟨Wj.Xy hc, fun q' lW lF lU => ?_, fun lW lF lU => by rw [h0] at lU; cases lU⟩ ih
    rw [h0] at lU; cases lU
    obtain ⟨e, xs, lG⟩ := hc
    rw [h1]; exact UD lG
   | int k' n => exact .cons hc ih
   | bool b => exact .cons hc ih
   | str s => exact .cons hc ih
   | unk => exact .cons hc ih
theorem uT {T : CS} {ob : Nat -> Nat -> Ob} {t : Nat} {vs : List Value} {lf : List (List Value)} (hf : YA Kr vs lf) : ∀ {res : List (List D)} {k : Nat}, YA (fun cs row => YA (Wj T w) cs row) lf res ->
  (∀ i size rows, res.flatten[i]? = some (.sl size rows) -> ∃ q, ob t (k + i) = .arr q size rows) -> (∀ i c, lf.flatten[i]? = some c -> (h t (k + i)).v = c) -> YA (Ks T h ob w) (DS t k res) vs := by
 induction hf with
 | nil => intro res k lE _ _; cases lE; exact .nil
 | @cons v cs vs' css' f _ ih =>
  intro res k lE ho hh
  cases lE with
  | @cons _ row _ res' r lE =>
   have hlen := r.length
   refine .cons (Nk f (OQ r (fun i size rows hi => ho i size rows ?_) (fun i c hc => hh i c ?_))) (ih lE (fun i size rows hi => ?_) (fun i c hc => ?_))
   ·rw [List.flatten_cons, List.getElem?_append_left (List.getElem?_eq_some_iff.1 hi).1]; exact hi
   ·rw [List.flatten_cons, List.getElem?_append_left (List.getElem?_eq_some_iff.1 hc).1]; exact hc
   ·have := ho (row.length + i) size rows (by rw [List.flatten_cons, List.getElem?_append_right (by omega)]; simpa using hi)
    rw [Nat.add_assoc]; exact this
   ·have := hh (row.length + i) c (by rw [List.flatten_cons, List.getElem?_append_right (by omega), <- hlen]; simpa using hc)
    rw [Nat.add_assoc]; exact this
theorem Ax {T : CS} {ob : Nat -> Nat -> Ob} {t : Nat} {vs : List Value} {lf : List (List Value)} {res : List (List D)} (hf : YA Kr vs lf) (lE : YA (fun cs row => YA (Wj T w) cs row) lf res)
  (ho : ∀ i size rows, res.flatten[i]? = some (.sl size rows) -> ∃ q, ob t i = .arr q size rows) (hh : ∀ i c, lf.flatten[i]? = some c -> (h t i).v = c) : JD T h ob w (VS t res) (M8 vs) := by
 have hl := uT (k := 0) hf lE (by simpa using ho) (by simpa using hh)
 have h1 : res.length = vs.length := by rw [hf.length, lE.length]
 match res, vs, hl, h1 with
 | [r], [v], hl, _ => cases hl with | cons x _ => exact x.up
 | [], [], hl, _ => exact ⟨_, rfl, by simpa using hl⟩
 | r :: r' :: rs, v :: v' :: vs, hl, _ => exact ⟨_, rfl, by simpa using hl⟩
 | [], v :: vs, _, h1 => simp at h1
 | [r], [], _, h1 => simp at h1
 | [r], v :: v' :: vs, _, h1 => simp at h1
 | r :: r' :: rs, [], _, h1 => simp at h1
 | r :: r' :: rs, [v], _, h1 => simp at h1
theorem jx {α β : Type} {R : α -> β -> Prop} {l : List (List α)} {m : List (List β)} (lE : YA (fun x y => YA R x y) l m) : YA R l.flatten m.flatten := by
 induction lE with
 | nil => exact .nil
 | cons r _ ih => rw [List.flatten_cons, List.flatten_cons]; exact r.append ih
theorem Pc (r : Rel T0 B σ a w X h) {o : Oper} {c : Call} {f : FuncId} {d : Nat} {rows res : List (List D)} (lB : o.op = .call c) (hc : c.callee = .value (.func f)) (hd : o.dst = some d) (hH : σ.fresh d = true)
  (lH : Qp P σ c.args.toList c.argTypes.toList rows) (st : Bool) (lZ : st = true -> Yn P σ c.args.toList c.argTypes.toList = true) (iV : st = false -> KR true res) (hs : Qz P f true rows res)
  {K : Act -> World -> Prop} {Q : Exit -> Act -> World -> Prop} (hK : ∀ a' w', Ku T0 B (σ.new d (VS d res) (yq res.flatten)) a' w' -> Y7 B w w' -> K a' w') : o.wp P a w K Q := by
 have lN := St.yY hH
 unfold Oper.wp
 rw [W2 lB hc hs.1, Oper.upon_enter]
 refine (hs.2 (if st then Tof T0 X else Pw T0 X h σ) w _ (fun b k hb => ?_) (r.Qp st lH lZ)).mono ?_
 ·cases st
  ·exact r.Cv hb
  ·exact r.Tlt hb
 ·rintro e w' ⟨vs, lf, Y, rfl, gI, hY, lk, gV, dc⟩
  have dc := dc rfl
  have gQ : YA (fun cs row => YA (Js (Tof T0 fun b => X b \/ Y b) w') cs row) lf res := by
   refine DM (fun c d row lX hdr hr => ?_) gV
   have lp : Js (Tof (if st then Tof T0 X else Pw T0 X h σ) Y) w' c d := by simpa [xg] using hr
   cases st with
   | true =>
    have hT : ∀ b k, Tof (if true = true then Tof T0 X else Pw T0 X h σ) Y b k -> Tof T0 (fun b => X b \/ Y b) b k := by
     intro b k hb
     rcases hb with hb | hb
     ·rcases (show Tof T0 X b k from by simpa using hb) with hb | hb
      ·exact .inl hb
      ·exact .inr (.inl hb)
     ·exact .inr (.inr hb)
    cases d with
    | sl size rows =>
     obtain ⟨e, xs, ho, hz, lE⟩ := lp
     exact ⟨e, xs, ho, hz, lE.imp fun _ _ => Rd.mono (fun b k v hb hc => ⟨hc, hT b k hb⟩)⟩
    | int k n => exact Rd.scalar rfl lp
    | bool b => exact Rd.scalar rfl lp
    | str s => exact Rd.scalar rfl lp
    | unk => exact Rd.scalar rfl lp
   | false => exact Js.flat (by simpa using iV rfl row lX d hdr) lp
  have iA := jx gQ
  rw [hd]
  refine hK _ _ ⟨fun b => X b \/ Y b, fun t j => if t = d then Hd.of ((lf.flatten[j]?).getD undef) else h t j, ?_⟩ (Y7.Ha gI r.hB)
  have lK : ∀ (j size : Nat) (rows : List (List D)), res.flatten[j]? = some (D.sl size rows) -> ∃ c, lf.flatten[j]? = some c /\ Js (Tof T0 fun b => X b \/ Y b) w' c (D.sl size rows) := fun j size rows hj => iA.get' j _ hj
  have lV : ∀ j, (σ.new d (VS d res) (yq res.flatten)).ob d j = Yr (yq res.flatten) j := fun j => by rw [St.Ko]; simp [lN]
  have dE : ∀ j, Yr (yq res.flatten) j ≠ .none -> ∃ size rows, res.flatten[j]? = some (D.sl size rows) := by
   intro j lD
   rw [Tw] at lD
   split at lD
   ·rename_i size rows hj; exact ⟨size, rows, hj⟩
   ·exact absurd rfl lD
  refine r.new hH (Below.grownBy gI) (fun b hb => .inl hb) (fun b hb => hb.imp id (fun hy => hY b hy)) (VS d res) (M8 vs) (yq res.flatten) (fun j => Hd.of ((lf.flatten[j]?).getD undef)) ?_ (fun j => ?_) (fun j b _ hb => hb) (fun j b lD hb => ?_) (fun j j' b lD ld hb lM => ?_)
  ·refine Ax lk (DM (fun _ _ _ _ _ hr => Js.top hr) gQ) (fun i size rows hi => ⟨false, ?_⟩) (fun i c hi => by simp [hi, Hd.of])
   rw [lV, Tw, hi]
  ·rw [Tw]
   split
   ·rename_i size rows hj
    obtain ⟨c, lg, lG⟩ := lK j size rows hj
    obtain ⟨e, xs, ho, hz, lE⟩ := lG
    exact ⟨e, xs, by rw [lg]; exact ho, hz, lE⟩
   ·trivial
  ·obtain ⟨size, rows, hj⟩ := dE j lD
   obtain ⟨c, lg, _⟩ := lK j size rows hj
   have lM : blk c = some b := by simpa [Hd.of, lg] using hb
   have := dc.1 j c _ b lg hj rfl lM
   refine ⟨this.1, ?_, this.2.1⟩
   rintro (hx | hy)
   ·have := r.hX b hx; omega
   ·exact this.2.2 hy
  ·obtain ⟨size, rows, hj⟩ := dE j lD
   obtain ⟨lW, lF, gn⟩ := dE j' ld
   obtain ⟨c, lg, _⟩ := lK j size rows hj
   obtain ⟨c2, fh, _⟩ := lK j' lW lF gn
   exact dc.2 j j' c c2 _ _ b lg hj fh gn rfl rfl (by simpa [Hd.of, lg] using hb) (by simpa [Hd.of, fh] using lM)
end
end Go.Vm
namespace Go.Vm
open Go.RowKit
section
variable {P : Program} {T0 : CS} {B : Nat -> Prop} {σ : St} {a : Act} {w w' : World} {X X' : Nat -> Prop} {h : Nat -> Nat -> Hd}
theorem Y7.S4 {B : Nat -> Prop} (hg : w.grownBy w' none) (hB : ∀ b, B b -> b < w.heap.size) : Y7 B w w' := ⟨hg.os, hg.tape, hg.output, hg.size, fun k hk => hg.block k (hB k hk) (by simp)⟩
theorem Rel.sW (r : Rel T0 B σ a w X h) {d : Nat} (hf : σ.fresh d = true) (cs : Array Value) (T : TypeId) (xs : List At) (hx : YS d xs = false) (lE : YA (YK (Tof T0 X) h σ.ob w) xs cs.toList) :
  Ku T0 B (σ.new d (.one (.bptr d 0)) [.box xs]) (a.put (some d) (.pointer (some ⟨w.heap.size, 0, none⟩))) (w.alloc (.cells cs T)) /\ Y7 B w (w.alloc (.cells cs T)) := by
 have hg := World.grownBy_alloc w (.cells cs T) none
 have lN := St.yY hf
 have hT : ∀ b k v, Tof T0 X b k -> w.cell? ⟨b, k, none⟩ = some v -> (w.alloc (.cells cs T)).cell? ⟨b, k, none⟩ = some v /\ Tof T0 X b k := by
  intro b k v hb lK
  refine ⟨?_, hb⟩
  rw [World.cell?_of_block (hg.block b (r.Tlt hb) (by simp))]; exact lK
 refine ⟨⟨X, fun t j => if t = d then Hd.of (.pointer (some ⟨w.heap.size, 0, none⟩)) else h t j, ?_⟩, Y7.S4 hg r.hB⟩
 have iH : (σ.new d (.one (.bptr d 0)) [.box xs]).ob d 0 = .box xs := by rw [St.Ko]; simp [lN, Yr]
 have hc : ∀ t j, t ≠ d -> Cpt h (fun t j => if t = d then Hd.of (.pointer (some ⟨w.heap.size, 0, none⟩)) else h t j) σ.ob (σ.new d (.one (.bptr d 0)) [.box xs]).ob t j := by
  intro t j lD
  have he : (σ.new d (.one (.bptr d 0)) [.box xs]).ob t j = σ.ob t j := by rw [St.Ko, if_neg (fun hh => lD hh.1)]
  exact Cpt.same (by simp [lD]) he
 refine r.new hf hg (fun _ hb => hb) (fun _ hb => .inl hb) _ _ [.box xs] (fun _ => Hd.of (.pointer (some ⟨w.heap.size, 0, none⟩))) ?_ (fun j => ?_) (fun j b _ hb => hb) (fun j b _ hb => ?_) (fun j j' b lD ld _ _ => ?_)
 ·exact ⟨rfl, fun cells _ => ⟨w.heap.size, by simp [Hd.of], rfl⟩⟩
 ·cases j with
  | zero =>
   refine ⟨w.heap.size, cs, T, rfl, ?_, Wy hT hc hx lE⟩
   exact heap_alloc_new w _
  | succ j => simp [Yr, zR]
 ·simp [Hd.of, blk] at hb; subst hb
  refine ⟨Nat.le_refl _, fun fD => ?_, by simp⟩
  have := (r.hX _ fD).2; omega
 ·have : ∀ j, Yr [Ob.box xs] j ≠ .none -> j = 0 := by
   intro j hj
   cases j with
   | zero => rfl
   | succ j => simp [Yr] at hj
  rw [this j lD, this j' ld]
theorem Rel.te (r : Rel T0 B σ a w X h) {d : Nat} (hf : σ.fresh d = true) (hg : w.grownBy w' none) (v : Value) {size : Nat} {rows : List (List D)}
  (ho : Js (Tof T0 X) w' v (.sl size rows)) (hb : ∀ b, blk v = some b -> w.heap.size <= b /\ b < w'.heap.size) :
  Ku T0 B (σ.new d (.one (.sref d 0 0 rows.length)) [.arr false size rows]) (a.put (some d) v) w' /\ Y7 B w w' := by
 have lN := St.yY hf
 refine ⟨⟨X, fun t j => if t = d then Hd.of v else h t j, ?_⟩, Y7.S4 hg r.hB⟩
 have iH : (σ.new d (.one (.sref d 0 0 rows.length)) [.arr false size rows]).ob d 0 = .arr false size rows := by rw [St.Ko]; simp [lN, Yr]
 obtain ⟨e, xs, lG, hz, lE⟩ := ho
 refine r.new hf hg (fun _ hb => hb) (fun _ hb => .inl hb) _ _ [.arr false size rows] (fun _ => Hd.of v) ?_ (fun j => ?_) (fun j b _ hb => hb) (fun j b _ lM => ?_) (fun j j' b lD ld _ _ => ?_)
 ·refine ⟨KO lG, fun q' lW lF lU => ?_, fun lW lF lU => by rw [iH] at lU; cases lU⟩
  rw [iH] at lU; cases lU
  simp only [if_true]
  exact UD lG
 ·cases j with
  | zero => exact ⟨e, xs, lG, hz, lE⟩
  | succ j => simp [Yr, zR]
 ·have := hb b lM
  refine ⟨this.1, fun fD => ?_, this.2⟩
  have := (r.hX _ fD).2; omega
 ·have : ∀ j, Yr [Ob.arr false size rows] j ≠ .none -> j = 0 := by
   intro j hj
   cases j with
   | zero => rfl
   | succ j => simp [Yr] at hj
  rw [this j lD, this j' ld]
theorem Rel.rq (r : Rel T0 B σ a w X h) {d : Nat} (hf : σ.fresh d = true) (hg : w.grownBy w' none) (v : Value) {e : TypeId} {size : Nat} {rows : List (List D)} {xs : List Value}
  (lG : w'.ownsRow 0 e size v rows.length xs) (hz : ∀ r ∈ rows, r.length = size) (lE : Jo w' xs rows.flatten (fun _ => False)) (hb : ∀ b, blk v = some b -> w.heap.size <= b /\ b < w'.heap.size) :
  Ku T0 B (σ.new d (.one (.sref d 0 0 rows.length)) [.arr true size rows]) (a.put (some d) v) w' /\ Y7 B w w' := by
 have lN := St.yY hf
 refine ⟨⟨X, fun t j => if t = d then ⟨v, fun k => (xs[k]?).getD undef, fun b => blk v = some b⟩ else h t j, ?_⟩, Y7.S4 hg r.hB⟩
 have iH : (σ.new d (.one (.sref d 0 0 rows.length)) [.arr true size rows]).ob d 0 = .arr true size rows := by rw [St.Ko]; simp [lN, Yr]
 refine r.new hf hg (fun _ hb => hb) (fun _ hb => .inl hb) _ _ [.arr true size rows] (fun _ => ⟨v, fun k => (xs[k]?).getD undef, fun b => blk v = some b⟩) ?_ (fun j => ?_) (fun j b _ hb => hb) (fun j b _ lM => ?_) (fun j j' b lD ld _ _ => ?_)
 ·refine ⟨KO lG, fun q' lW lF lU => ?_, fun lW lF lU => by rw [iH] at lU; cases lU⟩
  rw [iH] at lU; cases lU
  simp only [if_true]
  exact UD lG
 ·cases j with
  | zero =>
   obtain ⟨hl, Sk, h1, h2, h3⟩ := lE
   exact ⟨e, xs, lG, hz, ⟨hl, Sk, h1, fun k b hk => (h2 k b hk).elim, h3⟩, fun k x d hx _ _ => by simp [hx]⟩
  | succ j => simp [Yr, zR]
 ·have := hb b lM
  refine ⟨this.1, fun fD => ?_, this.2⟩
  have := (r.hX _ fD).2; omega
 ·have : ∀ j, Yr [Ob.arr true size rows] j ≠ .none -> j = 0 := by
   intro j hj
   cases j with
   | zero => rfl
   | succ j => simp [Yr] at hj
  rw [this j lD, this j' ld]
theorem A8 (r : Rel T0 B σ a w X h) {o : Oper} {T : TypeId} {d : Nat} {row : List At} (lB : o.op = .alloc T) (hd : o.dst = some d) (hf : σ.fresh d = true) (hz : QF P T = true) (hP : j5 P 12 T = some row) (lX : YS d row = false)
  {K : Act -> World -> Prop} {Q : Exit -> Act -> World -> Prop} (hK : ∀ a' w', Ku T0 B (σ.new d (.one (.bptr d 0)) [.box row]) a' w' -> Y7 B w w' -> K a' w') : o.wp P a w K Q := by
 obtain ⟨i, z, hi, hzv, l7, lE⟩ := GY hz hP
 have lT : (execOp a.eval o).run P w = .ok (.value (.pointer (some ⟨w.heap.size, 0, none⟩))) (w.alloc (.cells z.cells T)) := by
  simp [execOp, lB, Instr.alloc, zeroValue, typeInfo, hi, hzv, newVar, newRow]
 unfold Oper.wp
 rw [lT, Oper.upon_value, hd]
 have := r.sW hf z.cells T row lX (lE _ _ _ _)
 exact hK _ _ this.1 this.2
theorem uE (r : Rel T0 B σ a w X h) {o : Oper} {T : TypeId} {x : Operand} {d : Nat} (lB : o.op = .box T x) (hd : o.dst = some d) (hf : σ.fresh d = true) (hg : gOf (look P σ T x) = true) (iV : (unc (look P σ T x)).flat = true) (lX : YS d (unc (look P σ T x)).cells = false)
  {K : Act -> World -> Prop} {Q : Exit -> Act -> World -> Prop} (hK : ∀ a' w', Ku T0 B (σ.new d (.one (.bptr d 0)) [.box (unc (look P σ T x)).cells]) a' w' -> Y7 B w w' -> K a' w') : o.wp P a w K Q := by
 have lE := ku iV (r.arg (P := P) T x rfl hg)
 have lT : (execOp a.eval o).run P w = .ok (.value (.pointer (some ⟨w.heap.size, 0, none⟩))) (w.alloc (.cells (a.eval x).cells T)) := by
  simp [execOp, lB, Instr.box, newVar, newRow]
 unfold Oper.wp
 rw [lT, Oper.upon_value, hd]
 have := r.sW hf (a.eval x).cells T _ lX lE
 exact hK _ _ this.1 this.2
end
end Go.Vm
