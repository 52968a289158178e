/- An abstract machine over the model of Go, by value, and that it is sound: part Va. No condition. -/
import Derived.WalkKit
import Derived.Below
namespace Go.Vm

inductive D where
 | int (k : IntKind) (n : Int)
 | bool (b : Bool)
 | str (s : ByteArray)
 | sl (size : Nat) (rows : List (List D))
 deriving Inhabited

def D.scalar : D → Bool
 | .sl _ _ => false
 | _ => true
abbrev CS := Nat → Nat → Prop

inductive Rd (T : CS) (w : World) : Value → D → Prop
 | int (k : IntKind) (n : Int) : Rd T w (.int k n) (.int k n)
 | bool (b : Bool) : Rd T w (.bool b) (.bool b)
 | str (s : ByteArray) : Rd T w (.string s) (.str s)
 | nil (size : Nat) : Rd T w (.slice none 0 0) (.sl size [])
 | sl (a : Addr) (len cap size : Nat) (rows : List (List D)) (g : Nat → Value)
   (hl : rows.length = len) (hc : len ≤ cap) (hm : cap ≤ maxLen) (hz : ∀ r ∈ rows, r.length = size) (hs : rows.flatten ≠ [] → a.spot = none)
   (hg : ∀ k d, rows.flatten[k]? = some d → w.cell? ⟨a.block, a.off + k, none⟩ = some (g k) ∧ T a.block (a.off + k))
   (hr : ∀ k d, rows.flatten[k]? = some d → Rd T w (g k) d) : Rd T w (.slice (some a) len cap) (.sl size rows)

theorem Rd.mono {T T' : CS} {w w' : World} (hT : ∀ b k v, T b k → w.cell? ⟨b, k, none⟩ = some v → w'.cell? ⟨b, k, none⟩ = some v ∧ T' b k)
  {v : Value} {d : D} (h : Rd T w v d) : Rd T' w' v d := by
 induction h with
 | int k n => exact .int k n
 | bool b => exact .bool b
 | str s => exact .str s
 | nil s => exact .nil s
 | sl a len cap size rows g hl hc hm hz hs hg hr ih =>
  exact .sl a len cap size rows g hl hc hm hz hs (fun k d hk => hT _ _ _ (hg k d hk).2 (hg k d hk).1) (fun k d hk => ih k d hk)

theorem Rd.oneCell {T : CS} {w : World} {v : Value} {d : D} (h : Rd T w v d) : v.oneCell' = true := by
 cases h <;> rfl

inductive At where
 | any
 | d (x : D)
 | nil (size : Nat)
 | sref (t j lo len : Nat)
 | ptr (t j i c : Nat)
 | bptr (t c : Nat)
 | fn (f t : Nat)
 | rptr (r : List D) (c : Nat)
 | tref (t j i c : Nat)
 deriving Inhabited

inductive V where
 | any
 | one (x : At)
 | agg (xs : List At)
 | tup (xs : List V)
 | cnd (g : Bool) (x : V)
 | fix (v : Value) (x : V)
 deriving Inhabited

inductive Ob where
 | none
 | box (cells : List At)
 | arr (q : Bool) (size : Nat) (rows : List (List D))
 | lit (size : Nat) (rows : List (List At))
 deriving Inhabited

structure Hd where
 v : Value
 n : Nat → Value
 u : Nat → Prop

abbrev Ent := V × List Ob
abbrev St := List Ent

def St.get (σ : St) (t : Nat) : V := match σ[t]? with | some e => e.1 | none => .any
def obIn (os : List Ob) (j : Nat) : Ob := match os[j]? with | some o => o | none => .none
def St.ob (σ : St) (t j : Nat) : Ob := match σ[t]? with | some e => obIn e.2 j | none => .none
def St.put : St → Nat → V → St
 | [], _, _ => []
 | e :: σ, 0, v => (v, e.2) :: σ
 | e :: σ, t + 1, v => e :: St.put σ t v
def St.setOb : St → Nat → Nat → Ob → St
 | [], _, _, _ => []
 | e :: σ, 0, j, o => (e.1, e.2.set j o) :: σ
 | e :: σ, t + 1, j, o => e :: St.setOb σ t j o
def St.new : St → Nat → V → List Ob → St
 | [], _, _, _ => []
 | _ :: σ, 0, v, os => (v, os) :: σ
 | e :: σ, t + 1, v, os => e :: St.new σ t v os

theorem St.put_length (σ : St) (t : Nat) (v : V) : (σ.put t v).length = σ.length := by
 induction σ generalizing t with
 | nil => rfl
 | cons e σ ih => cases t <;> simp [St.put, ih]
theorem St.setOb_length (σ : St) (t j : Nat) (o : Ob) : (σ.setOb t j o).length = σ.length := by
 induction σ generalizing t with
 | nil => rfl
 | cons e σ ih => cases t <;> simp [St.setOb, ih]
theorem St.new_length (σ : St) (t : Nat) (v : V) (os : List Ob) : (σ.new t v os).length = σ.length := by
 induction σ generalizing t with
 | nil => rfl
 | cons e σ ih => cases t <;> simp [St.new, ih]
theorem St.get_put (σ : St) (t : Nat) (v : V) (u : Nat) : (σ.put t v).get u = if u = t ∧ t < σ.length then v else σ.get u := by
 induction σ generalizing t u with
 | nil => simp [St.put, St.get]
 | cons e σ ih =>
  cases t with
  | zero => cases u <;> simp [St.put, St.get]
  | succ t => cases u with
   | zero => simp [St.put, St.get]
   | succ u => have := ih t u; simp only [St.get, St.put] at this ⊢; simpa using this
theorem St.ob_put (σ : St) (t : Nat) (v : V) : (σ.put t v).ob = σ.ob := by
 funext u j
 induction σ generalizing t u with
 | nil => simp [St.put, St.ob]
 | cons e σ ih =>
  cases t with
  | zero => cases u <;> simp [St.put, St.ob]
  | succ t => cases u with
   | zero => simp [St.put, St.ob]
   | succ u => have := ih t u; simp only [St.ob, St.put] at this ⊢; simpa using this
theorem St.get_setOb (σ : St) (t j : Nat) (o : Ob) (u : Nat) : (σ.setOb t j o).get u = σ.get u := by
 induction σ generalizing t u with
 | nil => simp [St.setOb, St.get]
 | cons e σ ih =>
  cases t with
  | zero => cases u <;> simp [St.setOb, St.get]
  | succ t => cases u with
   | zero => simp [St.setOb, St.get]
   | succ u => have := ih t u; simp only [St.get, St.setOb] at this ⊢; simpa using this
theorem obIn_set (os : List Ob) (j : Nat) (o : Ob) (i : Nat) : obIn (os.set j o) i = if i = j ∧ j < os.length then o else obIn os i := by
 unfold obIn
 rw [List.getElem?_set]
 by_cases h : j = i
 ·subst h
  by_cases h2 : j < os.length
  ·simp [h2]
  ·simp [h2]
 ·simp [h, Ne.symm h]
theorem St.ob_setOb (σ : St) (t j : Nat) (o : Ob) (u i : Nat) (hl : σ.ob t j ≠ .none) : (σ.setOb t j o).ob u i = if u = t ∧ i = j then o else σ.ob u i := by
 induction σ generalizing t u with
 | nil => simp [St.ob] at hl
 | cons e σ ih =>
  cases t with
  | zero =>
   have hj : j < e.2.length := by
    simp only [St.ob, List.getElem?_cons_zero, obIn] at hl
    rcases Nat.lt_or_ge j e.2.length with h | h
    ·exact h
    ·simp [List.getElem?_eq_none h] at hl
   cases u with
   | zero => simp [St.setOb, St.ob, obIn_set, hj]
   | succ u => simp [St.setOb, St.ob]
  | succ t => cases u with
   | zero => simp [St.setOb, St.ob]
   | succ u =>
    have := ih t u (by simpa [St.ob] using hl)
    simp only [St.ob, St.setOb] at this ⊢; simpa using this
theorem St.get_new (σ : St) (t : Nat) (v : V) (os : List Ob) (u : Nat) : (σ.new t v os).get u = if u = t ∧ t < σ.length then v else σ.get u := by
 induction σ generalizing t u with
 | nil => simp [St.new, St.get]
 | cons e σ ih =>
  cases t with
  | zero => cases u <;> simp [St.new, St.get]
  | succ t => cases u with
   | zero => simp [St.new, St.get]
   | succ u => have := ih t u; simp only [St.get, St.new] at this ⊢; simpa using this
theorem St.ob_new (σ : St) (t : Nat) (v : V) (os : List Ob) (u j : Nat) : (σ.new t v os).ob u j = if u = t ∧ t < σ.length then obIn os j else σ.ob u j := by
 induction σ generalizing t u with
 | nil => simp [St.new, St.ob]
 | cons e σ ih =>
  cases t with
  | zero => cases u <;> simp [St.new, St.ob]
  | succ t => cases u with
   | zero => simp [St.new, St.ob]
   | succ u => have := ih t u; simp only [St.ob, St.new] at this ⊢; simpa using this

def HdRel (h : Value) (size n lo len : Nat) (v : Value) : Prop :=
 lo + len ≤ n ∧ (len = n → lo = 0 → v = h) ∧ ∃ base cap, v = .slice base len cap ∧ len ≤ cap ∧ cap ≤ maxLen ∧ (base = none → cap = 0) ∧ (0 < len → ∃ b cap0, h = .slice (some ⟨b, 0, none⟩) n cap0 ∧ base = some ⟨b, lo * size, none⟩)

def AtRel (T : CS) (h : Nat → Nat → Hd) (ob : Nat → Nat → Ob) (w : World) : At → Value → Prop
 | .any, v => v.oneCell' = true
 | .d x, v => Rd T w v x
 | .nil _, v => v = .slice none 0 0
 | .sref t j lo len, v => v.oneCell' = true ∧ (∀ q size rows, ob t j = .arr q size rows → HdRel (h t j).v size rows.length lo len v) ∧ (∀ size rows, ob t j = .lit size rows → HdRel (h t j).v size rows.length lo len v)
 | .ptr t j i c, v => v.oneCell' = true ∧ (∀ q size rows, ob t j = .arr q size rows → ∃ b n cap, (h t j).v = .slice (some ⟨b, 0, none⟩) n cap ∧ v = .pointer (some ⟨b, i * size + c, none⟩))
 | .bptr t c, v => v.oneCell' = true ∧ ∀ cells, ob t 0 = .box cells → ∃ b, (h t 0).v = .pointer (some ⟨b, 0, none⟩) ∧ v = .pointer (some ⟨b, c, none⟩)
 | .fn f t, v => v.oneCell' = true ∧ ∀ cells, ob t 0 = .box cells → ∃ b, (h t 0).v = .pointer (some ⟨b, 0, none⟩) ∧ v = .func (.func f) #[] #[.pointer (some ⟨b, 0, none⟩)]
 | .rptr r c, v => ∃ b off, ∃ g : Nat → Value, v = .pointer (some ⟨b, off + c, none⟩) ∧ ∀ k d, r[k]? = some d → w.cell? ⟨b, off + k, none⟩ = some (g k) ∧ T b (off + k) ∧ Rd T w (g k) d
 | .tref t j i c, v => v.oneCell' = true ∧ ∀ size rows, ob t j = .arr true size rows → v = (h t j).n (i * size + c)

theorem AtRel.oneCell {T : CS} {h : Nat → Nat → Hd} {ob : Nat → Nat → Ob} {w : World} {x : At} {v : Value} (r : AtRel T h ob w x v) : v.oneCell' = true := by
 cases x with
 | any => exact r
 | d x => exact Rd.oneCell r
 | nil s => cases r; rfl
 | sref => exact r.1
 | ptr => exact r.1
 | bptr => exact r.1
 | fn => exact r.1
 | tref => exact r.1
 | rptr r' c => obtain ⟨b, off, g, rfl, _⟩ := r; rfl

inductive All2 {α β : Type} (R : α → β → Prop) : List α → List β → Prop
 | nil : All2 R [] []
 | cons {a b l m} : R a b → All2 R l m → All2 R (a :: l) (b :: m)

theorem All2.imp {α β : Type} {R S : α → β → Prop} (h : ∀ a b, R a b → S a b) {l : List α} {m : List β} (x : All2 R l m) : All2 S l m := by
 induction x with
 | nil => exact .nil
 | cons r _ ih => exact .cons (h _ _ r) ih
theorem All2.length {α β : Type} {R : α → β → Prop} {l : List α} {m : List β} (x : All2 R l m) : l.length = m.length := by
 induction x with
 | nil => rfl
 | cons r _ ih => simp [ih]
theorem All2.get {α β : Type} {R : α → β → Prop} {l : List α} {m : List β} (x : All2 R l m) : ∀ (i : Nat) (a : α), l[i]? = some a → ∃ b, m[i]? = some b ∧ R a b := by
 induction x with
 | nil => intro i a h; simp at h
 | cons r _ ih =>
  intro i a h
  cases i with
  | zero => simp at h; subst h; exact ⟨_, by simp, r⟩
  | succ i => simpa using ih i a (by simpa using h)
theorem All2.get' {α β : Type} {R : α → β → Prop} {l : List α} {m : List β} (x : All2 R l m) : ∀ (i : Nat) (b : β), m[i]? = some b → ∃ a, l[i]? = some a ∧ R a b := by
 induction x with
 | nil => intro i a h; simp at h
 | cons r _ ih =>
  intro i a h
  cases i with
  | zero => simp at h; subst h; exact ⟨_, by simp, r⟩
  | succ i => simpa using ih i a (by simpa using h)
theorem All2.of_get {α β : Type} {R : α → β → Prop} {l : List α} {m : List β} (hl : l.length = m.length) (h : ∀ (i : Nat) (a : α) (b : β), l[i]? = some a → m[i]? = some b → R a b) : All2 R l m := by
 induction l generalizing m with
 | nil => cases m with
  | nil => exact .nil
  | cons b m => simp at hl
 | cons a l ih => cases m with
  | nil => simp at hl
  | cons b m => exact .cons (h 0 a b (by simp) (by simp)) (ih (by simpa using hl) (fun i a b ha hb => h (i + 1) a b (by simpa using ha) (by simpa using hb)))
theorem All2.append {α β : Type} {R : α → β → Prop} {l l' : List α} {m m' : List β} (x : All2 R l m) (y : All2 R l' m') : All2 R (l ++ l') (m ++ m') := by
 induction x with
 | nil => exact y
 | cons r _ ih => exact .cons r ih
theorem All2.take {α β : Type} {R : α → β → Prop} {l : List α} {m : List β} (x : All2 R l m) (n : Nat) : All2 R (l.take n) (m.take n) := by
 induction x generalizing n with
 | nil => simpa using All2.nil
 | cons r _ ih => cases n with
  | zero => simpa using All2.nil
  | succ n => simpa using All2.cons r (ih n)
theorem All2.drop {α β : Type} {R : α → β → Prop} {l : List α} {m : List β} (x : All2 R l m) (n : Nat) : All2 R (l.drop n) (m.drop n) := by
 induction x generalizing n with
 | nil => simpa using All2.nil
 | cons r x ih => cases n with
  | zero => simpa using All2.cons r x
  | succ n => simpa using ih n
theorem All2.set {α β : Type} {R : α → β → Prop} {l : List α} {m : List β} (x : All2 R l m) (i : Nat) {a : α} {b : β} (r : R a b) : All2 R (l.set i a) (m.set i b) := by
 induction x generalizing i with
 | nil => simpa using All2.nil
 | cons r' x ih => cases i with
  | zero => simpa using All2.cons r x
  | succ i => simpa using All2.cons r' (ih i)
theorem All2.mem {α β : Type} {R : α → β → Prop} {l : List α} {m : List β} (x : All2 R l m) {b : β} (h : b ∈ m) : ∃ a, a ∈ l ∧ R a b := by
 obtain ⟨i, hi⟩ := List.mem_iff_getElem?.1 h
 obtain ⟨a, ha, r⟩ := x.get' i b hi
 exact ⟨a, List.mem_of_getElem? ha, r⟩

def V1Rel (T : CS) (h : Nat → Nat → Hd) (ob : Nat → Nat → Ob) (w : World) : V → Value → Prop
 | .any, _ => True
 | .one x, v => AtRel T h ob w x v
 | .agg xs, v => ∃ cs : Array Value, v = .agg cs ∧ All2 (AtRel T h ob w) xs cs.toList
 | .tup _, _ => False
 | .cnd _ _, _ => False
 | .fix _ _, _ => False

def VRel (T : CS) (h : Nat → Nat → Hd) (ob : Nat → Nat → Ob) (w : World) : V → Value → Prop
 | .tup xs, v => ∃ vs : Array Value, v = .tuple vs ∧ All2 (V1Rel T h ob w) xs vs.toList
 | .cnd g x, v => (g = true → V1Rel T h ob w x v) ∧ (g = false → v = undef)
 | .any, _ => True
 | .one x, v => AtRel T h ob w x v
 | .agg xs, v => V1Rel T h ob w (.agg xs) v
 | .fix u x, v => v = u ∧ V1Rel T h ob w x v

theorem V1Rel.up {T : CS} {h : Nat → Nat → Hd} {ob : Nat → Nat → Ob} {w : World} {x : V} {v : Value} (r : V1Rel T h ob w x v) : VRel T h ob w x v := by
 cases x <;> first | exact r | exact r.elim

def blk : Value → Option Nat
 | .slice (some a) _ _ => some a.block
 | .pointer (some a) => some a.block
 | _ => none
def Hd.of (v : Value) : Hd := ⟨v, fun _ => undef, fun b => blk v = some b⟩

inductive Own (w : World) : Value → D → (Nat → Prop) → Prop
 | int (k : IntKind) (n : Int) (S : Nat → Prop) : Own w (.int k n) (.int k n) S
 | bool (b : Bool) (S : Nat → Prop) : Own w (.bool b) (.bool b) S
 | str (s : ByteArray) (S : Nat → Prop) : Own w (.string s) (.str s) S
 | sl (v : Value) (size : Nat) (rows : List (List D)) (S : Nat → Prop) (e : TypeId) (xs : List Value) (Sk : Nat → Nat → Prop) (ho : w.ownsRow 0 e size v rows.length xs) (hz : ∀ r ∈ rows, r.length = size)
   (hb : ∀ b, blk v = some b → S b) (hl : xs.length = rows.flatten.length) (hk : ∀ k x d, xs[k]? = some x → rows.flatten[k]? = some d → Own w x d (Sk k))
   (hs : ∀ k b, Sk k b → S b ∧ blk v ≠ some b) (hd : ∀ i j b, Sk i b → Sk j b → i = j) : Own w v (.sl size rows) S
def OwnC (w : World) (xs : List Value) (ds : List D) (S : Nat → Prop) : Prop :=
 xs.length = ds.length ∧ ∃ Sk : Nat → Nat → Prop, (∀ k x d, xs[k]? = some x → ds[k]? = some d → Own w x d (Sk k)) ∧ (∀ k b, Sk k b → S b) ∧ (∀ i j b, Sk i b → Sk j b → i = j)

def ObRel (T : CS) (h : Nat → Nat → Hd) (ob : Nat → Nat → Ob) (w : World) (hd : Hd) : Ob → Prop
 | .none => True
 | .box cells => ∃ b cs e, hd.v = .pointer (some ⟨b, 0, none⟩) ∧ w.heap[b]? = some (.cells cs e (0, 0)) ∧ All2 (AtRel T h ob w) cells cs.toList
 | .arr false size rows => ∃ e xs, w.ownsRow 0 e size hd.v rows.length xs ∧ (∀ r ∈ rows, r.length = size) ∧ All2 (Rd T w) xs rows.flatten
 | .arr true size rows => ∃ e xs, w.ownsRow 0 e size hd.v rows.length xs ∧ (∀ r ∈ rows, r.length = size) ∧ OwnC w xs rows.flatten (fun b => hd.u b ∧ blk hd.v ≠ some b) ∧ (∀ k x d, xs[k]? = some x → rows.flatten[k]? = some d → d.scalar = false → hd.n k = x)
 | .lit size rows => ∃ e xs, w.ownsRow 0 e size hd.v rows.length xs ∧ (∀ r ∈ rows, r.length = size) ∧ All2 (AtRel T h ob w) rows.flatten xs

def Tof (T0 : CS) (X : Nat → Prop) : CS := fun b k => T0 b k ∨ X b

structure Keep (B : Nat → Prop) (w w' : World) : Prop where
 os : w'.os = w.os
 tape : w'.tape = w.tape
 output : w'.output = w.output
 size : w.heap.size ≤ w'.heap.size
 block : ∀ k, B k → w'.heap[k]? = w.heap[k]?
theorem Keep.refl (B : Nat → Prop) (w : World) : Keep B w w := ⟨rfl, rfl, rfl, Nat.le_refl _, fun _ _ => rfl⟩
theorem Keep.trans {B : Nat → Prop} {a b c : World} (h : Keep B a b) (k : Keep B b c) : Keep B a c :=
 ⟨k.os.trans h.os, k.tape.trans h.tape, k.output.trans h.output, Nat.le_trans h.size k.size, fun i hi => (k.block i hi).trans (h.block i hi)⟩
theorem Keep.of_below {B : Nat → Prop} {w w' : World} (h : RowKit.Below w.heap.size w w') (hB : ∀ b, B b → b < w.heap.size) : Keep B w w' := ⟨h.os, h.tape, h.output, h.size, fun k hk => h.block k (hB k hk)⟩

structure Rel (T0 : CS) (B : Nat → Prop) (σ : St) (a : Act) (w : World) (X : Nat → Prop) (h : Nat → Nat → Hd) : Prop where
 size : a.tmps.size = σ.length
 defers : a.defers = []
 hB : ∀ b, B b → b < w.heap.size
 hX : ∀ b, X b → ¬ B b ∧ b < w.heap.size
 hT : ∀ b k, T0 b k → B b
 slot : ∀ t, t < σ.length → VRel (Tof T0 X) h σ.ob w (σ.get t) (a.tmps.getD t undef)
 obj : ∀ t j, ObRel (Tof T0 X) h σ.ob w (h t j) (σ.ob t j)
 ub : ∀ t j b, σ.ob t j ≠ .none → blk (h t j).v = some b → (h t j).u b
 own : ∀ t j b, σ.ob t j ≠ .none → (h t j).u b → ¬ B b ∧ ¬ X b ∧ b < w.heap.size
 inj : ∀ t j t' j' b, σ.ob t j ≠ .none → σ.ob t' j' ≠ .none → (h t j).u b → (h t' j').u b → t = t' ∧ j = j'

def RelE (T0 : CS) (B : Nat → Prop) (σ : St) (a : Act) (w : World) : Prop := ∃ X h, Rel T0 B σ a w X h

theorem Rel.bown {T0 : CS} {B : Nat → Prop} {σ : St} {a : Act} {w : World} {X : Nat → Prop} {h : Nat → Nat → Hd} (r : Rel T0 B σ a w X h) {t j b : Nat} (ho : σ.ob t j ≠ .none) (hb : blk (h t j).v = some b) : ¬ B b ∧ ¬ X b ∧ b < w.heap.size :=
 r.own t j b ho (r.ub t j b ho hb)

section
variable {T T' : CS} {h h' : Nat → Nat → Hd} {ob ob' : Nat → Nat → Ob} {w w' : World}

theorem AtRel.mono (hT : ∀ b k v, T b k → w.cell? ⟨b, k, none⟩ = some v → w'.cell? ⟨b, k, none⟩ = some v ∧ T' b k) {x : At} {v : Value}
  (r : AtRel T h ob w x v) : AtRel T' h ob w' x v := by
 cases x with
 | any => exact r
 | d x => exact Rd.mono hT r
 | nil s => exact r
 | sref t j lo len => exact r
 | ptr t j i c => exact r
 | bptr t c => exact r
 | fn f t => exact r
 | tref t j i c => exact r
 | rptr rr c =>
  obtain ⟨b, off, g, e, hk⟩ := r
  exact ⟨b, off, g, e, fun k d hd => ⟨(hT _ _ _ (hk k d hd).2.1 (hk k d hd).1).1, (hT _ _ _ (hk k d hd).2.1 (hk k d hd).1).2, Rd.mono hT (hk k d hd).2.2⟩⟩
theorem V1Rel.mono (hT : ∀ b k v, T b k → w.cell? ⟨b, k, none⟩ = some v → w'.cell? ⟨b, k, none⟩ = some v ∧ T' b k) {x : V} {v : Value}
  (r : V1Rel T h ob w x v) : V1Rel T' h ob w' x v := by
 cases x with
 | any => exact r
 | one x => exact AtRel.mono hT r
 | agg xs => obtain ⟨cs, e, r⟩ := r; exact ⟨cs, e, r.imp fun _ _ => AtRel.mono hT⟩
 | tup xs => exact r.elim
 | cnd g x => exact r.elim
 | fix u x => exact r.elim
theorem VRel.mono (hT : ∀ b k v, T b k → w.cell? ⟨b, k, none⟩ = some v → w'.cell? ⟨b, k, none⟩ = some v ∧ T' b k) {x : V} {v : Value}
  (r : VRel T h ob w x v) : VRel T' h ob w' x v := by
 cases x with
 | any => exact r
 | one x => exact AtRel.mono hT r
 | agg xs => exact V1Rel.mono (x := .agg xs) hT r
 | tup xs => obtain ⟨vs, e, r⟩ := r; exact ⟨vs, e, r.imp fun _ _ => V1Rel.mono hT⟩
 | cnd g x => exact ⟨fun hg => V1Rel.mono hT (r.1 hg), r.2⟩
 | fix u x => exact ⟨r.1, V1Rel.mono hT r.2⟩
end
end Go.Vm
namespace Go.Vm

def unc : V → V
 | .cnd _ x => x
 | .fix _ x => x
 | x => x
def gOf : V → Bool
 | .cnd g _ => g
 | _ => true

def elemT (P : Program) (t : TypeId) : TypeId :=
 match P.underlying t with
 | some (.slice e) => e
 | some (.array _ e) => e
 | _ => 0
def sliceT (P : Program) (t : TypeId) : Bool :=
 match P.underlying t with
 | some (.slice e) => (P.info? e).isSome
 | _ => false
def arrT (P : Program) (t : TypeId) : Option Nat :=
 match P.underlying t with
 | some (.array n e) => if (P.info? e).isSome then some n else none
 | _ => none
def aggT (P : Program) (t : TypeId) : Bool :=
 match P.underlying t with
 | some (.struct _) | some (.array _ _) => true
 | _ => false
def tyOk (P : Program) (t : TypeId) : Bool :=
 (P.underlying t).isSome && (P.info? t).isSome && (aggT P t || P.cellsOf t == 1)
def fieldOff (P : Program) (t : TypeId) (f : Nat) : Nat :=
 match P.underlying t with
 | some (.struct fs) => (match fs[f]? with | some fd => fd.offset | none => 0)
 | _ => 0
def fieldTy (P : Program) (t : TypeId) (f : Nat) : TypeId :=
 match P.underlying t with
 | some (.struct fs) => (match fs[f]? with | some fd => fd.type | none => 0)
 | _ => 0
def fieldOk (P : Program) (t : TypeId) (f : Nat) : Bool :=
 match P.underlying t with
 | some (.struct fs) => (match fs[f]? with | some fd => (P.info? fd.type).isSome && decide (P.cellsOf fd.type ≠ 0) | none => false)
 | _ => false
def intT (P : Program) (t : TypeId) : Option IntKind :=
 match P.underlying t with
 | some (.int k) => some k
 | _ => none
def strT (P : Program) (t : TypeId) : Bool :=
 match P.underlying t with
 | some .string => true
 | _ => false
def boolT (P : Program) (t : TypeId) : Bool :=
 match P.underlying t with
 | some .bool => true
 | _ => false

def cst (P : Program) (ty : TypeId) : Value → V
 | .int k n => .one (.d (.int k n))
 | .bool b => .one (.d (.bool b))
 | .string s => .one (.d (.str s))
 | .slice none 0 0 => .one (.nil (P.cellsOf (elemT P ty)))
 | _ => .any
def look (P : Program) (σ : St) (ty : TypeId) : Operand → V
 | .tmp t => σ.get t
 | .const v => cst P ty v
 | _ => .any

section
variable {P : Program} {T0 : CS} {B : Nat → Prop} {σ : St} {a : Act} {w : World} {X : Nat → Prop} {h : Nat → Nat → Hd}

theorem Rel.get (r : Rel T0 B σ a w X h) (t : Nat) : VRel (Tof T0 X) h σ.ob w (σ.get t) (a.tmps.getD t undef) := by
 rcases Nat.lt_or_ge t σ.length with hl | hl
 ·exact r.slot t hl
 ·simp [St.get, List.getElem?_eq_none hl, VRel]

theorem cst_rel (T : CS) (h : Nat → Nat → Hd) (ob : Nat → Nat → Ob) (w : World) (ty : TypeId) (v : Value) : VRel T h ob w (cst P ty v) v := by
 unfold cst
 split
 ·exact .int _ _
 ·exact .bool _
 ·exact .str _
 ·rfl
 ·trivial

theorem Rel.look (r : Rel T0 B σ a w X h) (ty : TypeId) (x : Operand) : VRel (Tof T0 X) h σ.ob w (look P σ ty x) (a.eval x) := by
 cases x with
 | tmp t => exact r.get t
 | const v => exact cst_rel _ _ _ _ _ _
 | global g => trivial
 | func f => trivial

theorem VRel.unc {T : CS} {h : Nat → Nat → Hd} {ob : Nat → Nat → Ob} {w : World} {x : V} {v : Value} (r : VRel T h ob w x v) (hg : gOf x = true) : VRel T h ob w (unc x) v := by
 cases x with
 | cnd g x => exact V1Rel.up (r.1 hg)
 | fix u x => exact V1Rel.up r.2
 | _ => exact r

theorem Rel.arg (r : Rel T0 B σ a w X h) (ty : TypeId) (x : Operand) {v : V} (he : Vm.unc (Vm.look P σ ty x) = v) (hg : gOf (Vm.look P σ ty x) = true) : VRel (Tof T0 X) h σ.ob w v (a.eval x) := by
 subst he
 exact (r.look ty x).unc hg

theorem Rel.put (r : Rel T0 B σ a w X h) (d : Nat) (v : V) (val : Value) (hv : VRel (Tof T0 X) h σ.ob w v val) : Rel T0 B (σ.put d v) (a.put (some d) val) w X h := by
 refine ⟨by simp [Act.put, r.size, St.put_length], r.defers, r.hB, r.hX, r.hT, fun t ht => ?_, fun t j => ?_, fun t j b => ?_, fun t j b => ?_, fun t j t' j' b => ?_⟩
 ·rw [St.ob_put, St.get_put]
  rw [St.put_length] at ht
  by_cases hd : t = d ∧ d < σ.length
  ·obtain ⟨rfl, hl⟩ := hd
   simp only [hl, and_self, if_true]
   have : (a.tmps.setIfInBounds t val).getD t undef = val := by simp [r.size, hl]
   simp only [Act.put, this]; exact hv
  ·rw [if_neg hd]
   have hne : d ≠ t := fun e => hd ⟨e.symm, e ▸ ht⟩
   have : (a.tmps.setIfInBounds d val).getD t undef = a.tmps.getD t undef := by simp [Array.getElem?_setIfInBounds_ne hne]
   simp only [Act.put, this]; exact r.slot t ht
 ·rw [St.ob_put]; exact r.obj t j
 ·rw [St.ob_put]; exact r.ub t j b
 ·rw [St.ob_put]; exact r.own t j b
 ·rw [St.ob_put]; exact r.inj t j t' j' b
end

def ldV (P : Program) (T : TypeId) (xs : List At) : V := if aggT P T then .agg xs else (match xs with | [x] => .one x | _ => .any)

def binB (op : BinOp) (x y : Int) : Option Bool :=
 match op with
 | .eql => some (x == y)
 | .neq => some (x != y)
 | .lss => some (decide (x < y))
 | .leq => some (decide (x ≤ y))
 | .gtr => some (decide (x > y))
 | .geq => some (decide (x ≥ y))
 | _ => none
def binI (op : BinOp) (k : IntKind) (x y : Int) : Option Int :=
 match op with
 | .add => some (k.wrap (x + y))
 | .sub => some (k.wrap (x - y))
 | .mul => some (k.wrap (x * y))
 | .quo => some (k.wrap (x.tdiv y))
 | .rem => some (x.tmod y)
 | _ => none

def binInt (op : BinOp) (k : IntKind) (x y : Int) (v : V) : Prop :=
 match op with
 | .eql => v = .one (.d (.bool (x == y)))
 | .neq => v = .one (.d (.bool (x != y)))
 | .lss => v = .one (.d (.bool (decide (x < y))))
 | .leq => v = .one (.d (.bool (decide (x ≤ y))))
 | .gtr => v = .one (.d (.bool (decide (x > y))))
 | .geq => v = .one (.d (.bool (decide (x ≥ y))))
 | .add => v = .one (.d (.int k (k.wrap (x + y))))
 | .sub => v = .one (.d (.int k (k.wrap (x - y))))
 | .mul => v = .one (.d (.int k (k.wrap (x * y))))
 | .quo => y ≠ 0 ∧ v = .one (.d (.int k (k.wrap (x.tdiv y))))
 | .rem => y ≠ 0 ∧ v = .one (.d (.int k (x.tmod y)))
 | .and => v = .one (.d (.int k (k.wrap (BitVec.ofInt k.bits x &&& BitVec.ofInt k.bits y).toNat)))
 | .or => v = .one (.d (.int k (k.wrap (BitVec.ofInt k.bits x ||| BitVec.ofInt k.bits y).toNat)))
 | .shl => 0 ≤ y ∧ v = .one (.d (.int k (k.wrap (x * 2 ^ (min y.toNat k.bits)))))
 | .shr => 0 ≤ y ∧ v = .one (.d (.int k (x.fdiv (2 ^ (min y.toNat k.bits)))))
 | _ => False
def binStr (op : BinOp) (x y : ByteArray) (v : V) : Prop :=
 match op with
 | .add => ((x.size + y.size : Nat) : Int) ≤ 9223372036854775807 ∧ v = .one (.d (.str (x ++ y)))
 | .eql => v = .one (.d (.bool (decide (x = y))))
 | .neq => v = .one (.d (.bool (!decide (x = y))))
 | _ => False
def binBool (op : BinOp) (x y : Bool) (v : V) : Prop :=
 match op with
 | .eql => v = .one (.d (.bool (x == y)))
 | .neq => v = .one (.d (.bool (!(x == y))))
 | _ => False

theorem run_binInt {P : Program} {op : BinOp} {k : IntKind} {x y : Int} {v : V} {t : TypeId} {kk : IntKind} (hk : (op = .shl ∨ op = .shr) ∨ kk = k) (hb : binInt op k x y v) (w : World) :
  ∃ d, v = .one (.d d) ∧ ∃ val, (binOp op t (.int k x) (.int kk y)).run P w = .ok val w ∧ ∀ T w', Rd T w' val d := by
 cases op <;> simp only [binInt] at hb
 case shl => obtain ⟨h0, rfl⟩ := hb; exact ⟨_, rfl, _, by simp [binOp, Op.shift, Int.not_lt.2 h0], fun _ _ => .int _ _⟩
 case shr => obtain ⟨h0, rfl⟩ := hb; exact ⟨_, rfl, _, by simp [binOp, Op.shift, Int.not_lt.2 h0], fun _ _ => .int _ _⟩
 all_goals (have hkk : kk = k := by rcases hk with (hk | hk) | hk <;> first | exact hk | cases hk)
 all_goals subst hkk
 case quo => obtain ⟨h0, rfl⟩ := hb; exact ⟨_, rfl, _, by simp [binOp, Op.intDiv, h0], fun _ _ => .int _ _⟩
 case rem => obtain ⟨h0, rfl⟩ := hb; exact ⟨_, rfl, _, by simp [binOp, Op.intDiv, h0], fun _ _ => .int _ _⟩
 case add => subst hb; exact ⟨_, rfl, _, by simp [binOp, Op.intArith], fun _ _ => .int _ _⟩
 case sub => subst hb; exact ⟨_, rfl, _, by simp [binOp, Op.intArith], fun _ _ => .int _ _⟩
 case mul => subst hb; exact ⟨_, rfl, _, by simp [binOp, Op.intArith], fun _ _ => .int _ _⟩
 case and => subst hb; exact ⟨_, rfl, _, by simp [binOp, Op.intBits], fun _ _ => .int _ _⟩
 case or => subst hb; exact ⟨_, rfl, _, by simp [binOp, Op.intBits], fun _ _ => .int _ _⟩
 all_goals (subst hb; exact ⟨_, rfl, .bool _, by simp only [binOp, Op.intCmp, ne_eq, not_true_eq_false, if_false]; rfl, fun _ _ => .bool _⟩)

theorem str_eq (x y : ByteArray) : (x.toList == y.toList) = decide (x = y) := by
 rw [ByteArray.toList_eq, ByteArray.toList_eq, Bool.eq_iff_iff]
 simp only [beq_iff_eq, decide_eq_true_eq]
 constructor
 ·intro hh; cases x; cases y; simp_all
 ·rintro rfl; rfl
theorem run_binStr {P : Program} {op : BinOp} {x y : ByteArray} {v : V} {t : TypeId} (hb : binStr op x y v) (w : World) :
  ∃ d, v = .one (.d d) ∧ ∃ val, (binOp op t (.string x) (.string y)).run P w = .ok val w ∧ ∀ T w', Rd T w' val d := by
 cases op <;> simp only [binStr] at hb
 case add => obtain ⟨h0, rfl⟩ := hb; exact ⟨_, rfl, _, by simp only [binOp, Op.stringOp]; rw [if_neg (by simp [IntKind.max, IntKind.signed, IntKind.bits]; omega)]; rfl, fun _ _ => .str _⟩
 case eql => subst hb; exact ⟨_, rfl, .bool _, by simp only [binOp, Op.stringOp, str_eq]; rfl, fun _ _ => .bool _⟩
 case neq => subst hb; exact ⟨_, rfl, .bool _, by simp only [binOp, Op.stringOp, str_eq]; rfl, fun _ _ => .bool _⟩

theorem run_equalIn_bool {P : Program} {t : TypeId} (hu : P.underlying t = some .bool) (d : Nat) (x y : Bool) (w : World) : (Op.equalIn (d + 1) t (.bool x) (.bool y)).run P w = .ok (x == y) w := by
 simp [Op.equalIn, run_underlying hu]
theorem run_binBool {P : Program} {op : BinOp} {x y : Bool} {v : V} {t : TypeId} (ht : boolT P t = true) (hb : binBool op x y v) (w : World) :
  ∃ d, v = .one (.d d) ∧ ∃ val, (binOp op t (.bool x) (.bool y)).run P w = .ok val w ∧ ∀ T w', Rd T w' val d := by
 have hu : P.underlying t = some .bool := by
  unfold boolT at ht; split at ht <;> first | assumption | cases ht
 cases op <;> simp only [binBool] at hb
 case eql => subst hb; exact ⟨_, rfl, _, by simp only [binOp, Op.equal, Op.maxDepth, Sem.run_bind, run_equalIn_bool hu 9999, Result.andThen_ok, Sem.run_pure], fun _ _ => .bool _⟩
 case neq => subst hb; exact ⟨_, rfl, _, by simp only [binOp, Op.equal, Op.maxDepth, Sem.run_bind, run_equalIn_bool hu 9999, Result.andThen_ok, Sem.run_pure], fun _ _ => .bool _⟩
end Go.Vm
namespace Go.Vm

def lkInt (P : Program) (σ : St) (x : Operand) (k : IntKind) (n : Int) : Prop := gOf (look P σ 0 x) = true ∧ unc (look P σ 0 x) = .one (.d (.int k n))

def bnd (P : Program) (σ : St) (dflt : Nat) : Option Operand → Nat → Prop
 | none, n => n = dflt
 | some x, n => ∃ k i, gOf (look P σ 0 x) = true ∧ unc (look P σ 0 x) = .one (.d (.int k i)) ∧ 0 ≤ i ∧ n = i.toNat

def cut {α : Type} (xs : List α) (off n : Nat) : List α := (xs.drop off).take n

def fillRow (place : Nat → Nat × Nat) : List (Nat × List At) → List At → List At
 | [], r => r
 | (i, xs) :: ps, r => fillRow place ps ((r.take (place i).1) ++ xs ++ r.drop ((place i).1 + (place i).2))

def zrow (P : Program) : Nat → TypeId → Option (List At)
 | 0, _ => none
 | n + 1, t =>
  match P.underlying t with
  | some .bool => some [.d (.bool false)]
  | some (.int k) => some [.d (.int k 0)]
  | some .string => some [.d (.str ⟨#[]⟩)]
  | some (.slice e) => some [.nil (P.cellsOf e)]
  | some (.struct fs) => (fs.toList.mapM (fun f => zrow P n f.type)).map List.flatten
  | some (.array m e) => (zrow P n e).map (fun r => (List.replicate m r).flatten)
  | _ => none
def zAt : At → Value → Bool
 | .d (.bool b), .bool b' => b == b'
 | .d (.int k n), .int k' n' => k == k' && n == n'
 | .d (.str s), .string s' => s.data.toList == s'.data.toList
 | .nil _, .slice none 0 0 => true
 | _, _ => false
def zAll : List At → List Value → Bool
 | [], [] => true
 | x :: xs, v :: vs => zAt x v && zAll xs vs
 | _, _ => false
def zeroOk (P : Program) (t : TypeId) : Bool :=
 match zrow P 12 t, P.info? t with
 | some row, some i => (match i.zero with | some z => zAll row z.cells.toList && i.size == row.length | none => false)
 | _, _ => false

theorem zAt_rel {x : At} {v : Value} (hz : zAt x v = true) (T : CS) (h : Nat → Nat → Hd) (ob : Nat → Nat → Ob) (w : World) : AtRel T h ob w x v := by
 unfold zAt at hz
 split at hz
 ·simp at hz; subst hz; exact .bool _
 ·simp at hz; obtain ⟨rfl, rfl⟩ := hz; exact .int _ _
 ·rename_i s s'
  simp at hz
  have : s = s' := by cases s; cases s'; simp_all
  subst this; exact .str _
 ·rfl
 ·cases hz
theorem zAll_rel {xs : List At} {vs : List Value} (hz : zAll xs vs = true) (T : CS) (h : Nat → Nat → Hd) (ob : Nat → Nat → Ob) (w : World) : All2 (AtRel T h ob w) xs vs := by
 induction xs generalizing vs with
 | nil => cases vs with
  | nil => exact .nil
  | cons v vs => simp [zAll] at hz
 | cons x xs ih => cases vs with
  | nil => simp [zAll] at hz
  | cons v vs => simp [zAll] at hz; exact .cons (zAt_rel hz.1 _ _ _ _) (ih hz.2)
theorem zero_run {P : Program} {t : TypeId} {row : List At} (hz : zeroOk P t = true) (hr : zrow P 12 t = some row) :
  ∃ i z, P.info? t = some i ∧ i.zero = some z ∧ i.size = row.length ∧ (∀ T h ob w, All2 (AtRel T h ob w) row z.cells.toList) := by
 unfold zeroOk at hz
 rw [hr] at hz
 split at hz
 ·rename_i row' i hr' hi
  cases hr'
  split at hz
  ·rename_i z hzz
   simp at hz
   exact ⟨i, z, hi, hzz, hz.2, fun T h ob w => zAll_rel hz.1 T h ob w⟩
  ·cases hz
 ·cases hz

def partRow (P : Program) (σ : St) (ty : TypeId) (x : Operand) (xs : List At) : Prop :=
 gOf (look P σ ty x) = true ∧ (unc (look P σ ty x) = .agg xs ∨ ∃ c, unc (look P σ ty x) = .one c ∧ xs = [c])

def V.cells : V → List At
 | .one c => [c]
 | .agg xs => xs
 | _ => []
def V.flat : V → Bool
 | .one _ => true
 | .agg _ => true
 | _ => false

def place {α : Type} (r : List α) (off : Nat) (xs : List α) : List α := r.take off ++ xs ++ r.drop (off + xs.length)
def bOff (P : Program) (T : TypeId) (i : Nat) : Nat := match P.underlying T with | some (.array _ e) => i * P.cellsOf e | _ => fieldOff P T i
def bTy (P : Program) (T : TypeId) (i : Nat) : TypeId := match P.underlying T with | some (.array _ e) => e | _ => fieldTy P T i
def bOk (P : Program) (T : TypeId) (i : Nat) : Bool := match P.underlying T with
 | some (.array _ e) => (P.info? e).isSome
 | some (.struct fs) => fs.all (fun f => (P.info? f.type).isSome) && decide (i < fs.size)
 | _ => false
def BuildR (P : Program) (σ : St) (T : TypeId) : List (Nat × Operand) → List At → List At → Prop
 | [], r, out => out = r
 | (i, x) :: ps, r, out => bOk P T i = true ∧ gOf (look P σ (bTy P T i) x) = true ∧ (unc (look P σ (bTy P T i) x)).flat = true ∧
   (unc (look P σ (bTy P T i) x)).cells.length = P.cellsOf (bTy P T i) ∧ bOff P T i + P.cellsOf (bTy P T i) ≤ r.length ∧
   BuildR P σ T ps (place r (bOff P T i) (unc (look P σ (bTy P T i) x)).cells) out

def scalarT (P : Program) (t : TypeId) : Bool := match P.underlying t with | some .bool => true | some (.int _) => true | some .string => true | _ => false
def eqFieldsOk (P : Program) : List Field → Nat → Bool
 | [], _ => true
 | f :: fs, i => decide (f.name ≠ "_") && f.offset == i && scalarT P f.type && eqFieldsOk P fs (i + 1)
def eqOk (P : Program) (t : TypeId) : Bool := match P.underlying t with
 | some (.struct fs) => !P.stoodInHeld t && !P.eqGuardType P.depth t && eqFieldsOk P fs.toList 0
 | _ => false
def eqAt (P : Program) (t : TypeId) : At → At → Option Bool
 | .d (.int k a), .d (.int k' b) => if k = k' ∧ (intT P t).isSome then some (a == b) else none
 | .d (.bool a), .d (.bool b) => if boolT P t then some (a == b) else none
 | .d (.str a), .d (.str b) => if strT P t then some (decide (a = b)) else none
 | _, _ => none
def eqRow (P : Program) : List Field → List At → List At → Option Bool
 | [], _, _ => some true
 | f :: fs, x :: xs, y :: ys => (match eqAt P f.type x y, eqRow P fs xs ys with | some p, some q => some (p && q) | _, _ => none)
 | _, _, _ => none

def binOK (P : Program) (op : BinOp) (T : TypeId) (x y v : V) : Prop :=
 match x, y with
 | .one (.d (.int k m)), .one (.d (.int k' n)) => ((op = .shl ∨ op = .shr) ∨ k' = k) ∧ binInt op k m n v
 | .one (.d (.str m)), .one (.d (.str n)) => binStr op m n v
 | .one (.d (.bool m)), .one (.d (.bool n)) => boolT P T = true ∧ binBool op m n v
 | .agg xs, .agg ys => eqOk P T = true ∧ ∃ q, eqRow P (P.fieldsOf T).toList xs ys = some q ∧ ((op = .eql ∧ v = .one (.d (.bool q))) ∨ (op = .neq ∧ v = .one (.d (.bool (!q)))))
 | _, _ => False

def tcells (t j i : Nat) : Nat → List D → List At
 | _, [] => []
 | c, x :: xs => (match x with | .sl _ _ => .tref t j i c | x => .d x) :: tcells t j i (c + 1) xs
def rcells (q : Bool) (t j i c : Nat) (xs : List D) : List At := match q with | true => tcells t j i c xs | false => xs.map .d

def StepV (P : Program) (σ : St) (op : Op) (ty : TypeId) (v : V) : Prop :=
 match op with
 | .move x => v = look P σ ty x
 | .assign x => v = look P σ ty x
 | .pick c a b => ∃ bc p q, gOf (look P σ ty c) = true ∧ unc (look P σ ty c) = .one (.d (.bool bc)) ∧ (bc = true → unc (look P σ ty a) = .one (.d (.bool p))) ∧ (bc = false → unc (look P σ ty b) = .one (.d (.bool q))) ∧
   (bc = true → gOf (look P σ ty a) = true) ∧ (bc = false → gOf (look P σ ty b) = true) ∧ v = .one (.d (.bool (cond bc p q)))
 | .load T x => gOf (look P σ 0 x) = true ∧ tyOk P T = true ∧
   (match unc (look P σ 0 x) with
   | .one (.bptr t c) => ∃ cells, σ.ob t 0 = .box cells ∧ c + P.cellsOf T ≤ cells.length ∧ v = ldV P T (cut cells c (P.cellsOf T))
   | .one (.ptr t j i c) => ∃ q size rows, σ.ob t j = .arr q size rows ∧ i < rows.length ∧ c + P.cellsOf T ≤ size ∧ v = ldV P T (rcells q t j i c (cut (rows.getD i []) c (P.cellsOf T)))
   | .one (.rptr r c) => c + P.cellsOf T ≤ r.length ∧ v = ldV P T ((cut r c (P.cellsOf T)).map .d)
   | _ => False)
 | .fieldAddr T x f => gOf (look P σ 0 x) = true ∧ fieldOk P T f = true ∧
   (match unc (look P σ 0 x) with
   | .one (.bptr t c) => (∃ cells, σ.ob t 0 = .box cells) ∧ v = .one (.bptr t (c + fieldOff P T f))
   | .one (.ptr t j i c) => (∃ q size rows, σ.ob t j = .arr q size rows) ∧ v = .one (.ptr t j i (c + fieldOff P T f))
   | .one (.rptr r c) => v = .one (.rptr r (c + fieldOff P T f))
   | _ => False)
 | .indexAddr T x ix => ∃ k i, lkInt P σ ix k i ∧ 0 ≤ i ∧ gOf (look P σ 0 x) = true ∧
   (match unc (look P σ 0 x) with
   | .one (.d (.sl size rows)) => sliceT P T = true ∧ size = P.cellsOf (elemT P T) ∧ 0 < size ∧ i < (rows.length : Int) ∧ v = .one (.rptr (rows.getD i.toNat []) 0)
   | .one (.sref t j lo len) => sliceT P T = true ∧ 0 < P.cellsOf (elemT P T) ∧ (∃ q rows, σ.ob t j = .arr q (P.cellsOf (elemT P T)) rows) ∧ i < (len : Int) ∧ v = .one (.ptr t j (lo + i.toNat) 0)
   | .one (.bptr t c) => (∃ cells, σ.ob t 0 = .box cells) ∧ (∃ n, arrT P T = some n ∧ 1 < n ∧ i < (n : Int)) ∧ v = .one (.bptr t (c + i.toNat * P.cellsOf (elemT P T)))
   | _ => False)
 | .index T x ix => ∃ k i, lkInt P σ ix k i ∧ 0 ≤ i ∧ gOf (look P σ 0 x) = true ∧
   (match unc (look P σ 0 x) with
   | .one (.d (.str s)) => strT P T = true ∧ i < (s.size : Int) ∧ v = .one (.d (.int .u8 (s.data.toList.getD i.toNat 0).toNat))
   | .agg xs => (∃ n, arrT P T = some n ∧ i < (n : Int)) ∧ tyOk P (elemT P T) = true ∧ i.toNat * P.cellsOf (elemT P T) + P.cellsOf (elemT P T) ≤ xs.length ∧ v = ldV P (elemT P T) (cut xs (i.toNat * P.cellsOf (elemT P T)) (P.cellsOf (elemT P T)))
   | _ => False)
 | .slice T x lo hi none => gOf (look P σ 0 x) = true ∧
   (match unc (look P σ 0 x) with
   | .one (.d (.str s)) => strT P T = true ∧ ∃ l h, bnd P σ 0 lo l ∧ bnd P σ s.size hi h ∧ l ≤ h ∧ h ≤ s.size ∧ v = .one (.d (.str (s.extract l h)))
   | .one (.d (.sl size rows)) => sliceT P T = true ∧ size = P.cellsOf (elemT P T) ∧ ∃ l h, bnd P σ 0 lo l ∧ bnd P σ rows.length hi h ∧ l ≤ h ∧ h ≤ rows.length ∧ v = .one (.d (.sl size (cut rows l (h - l))))
   | .one (.sref t j o len) => sliceT P T = true ∧ (∃ q rows, σ.ob t j = .arr q (P.cellsOf (elemT P T)) rows) ∧ ∃ l h, bnd P σ 0 lo l ∧ bnd P σ len hi h ∧ l ≤ h ∧ h ≤ len ∧ v = .one (.sref t j (o + l) (h - l))
   | _ => False)
 | .binOp op T x y _ => gOf (look P σ T x) = true ∧ gOf (look P σ T y) = true ∧
   binOK P op T (unc (look P σ T x)) (unc (look P σ T y)) v
 | .unOp op _ x => gOf (look P σ 0 x) = true ∧
   (match op, unc (look P σ 0 x) with
   | .not, .one (.d (.bool b)) => v = .one (.d (.bool (!b)))
   | .neg, .one (.d (.int k n)) => v = .one (.d (.int k (k.wrap (-n))))
   | _, _ => False)
 | .convert S T x => gOf (look P σ 0 x) = true ∧ (P.underlying S).isSome = true ∧
   (match unc (look P σ 0 x) with
   | .one (.d (.int _ n)) => ∃ k, intT P T = some k ∧ v = .one (.d (.int k (k.wrap n)))
   | _ => False)
 | .extract x i => gOf (look P σ 0 x) = true ∧
   (match unc (look P σ 0 x) with
   | .tup xs => xs[i]? = some v ∧ v.flat = true
   | _ => False)
 | .field T x f => gOf (look P σ 0 x) = true ∧ fieldOk P T f = true ∧ tyOk P (fieldTy P T f) = true ∧
   (match unc (look P σ 0 x) with
   | .agg xs => fieldOff P T f + P.cellsOf (fieldTy P T f) ≤ xs.length ∧ v = ldV P (fieldTy P T f) (cut xs (fieldOff P T f) (P.cellsOf (fieldTy P T f)))
   | _ => False)
 | .build T parts => zeroOk P T = true ∧ aggT P T = true ∧ ∃ z out, zrow P 12 T = some z ∧ BuildR P σ T parts.toList z out ∧ v = .agg out
 | .call c =>
   (match c.callee, c.args.toList, c.argTypes.toList with
   | .builtin .len, [x], [t] => gOf (look P σ t x) = true ∧
     (match unc (look P σ t x) with
     | .one (.d (.str s)) => strT P t = true ∧ v = .one (.d (.int .i64 s.size))
     | .one (.d (.sl _ rows)) => sliceT P t = true ∧ v = .one (.d (.int .i64 rows.length))
     | .one (.nil _) => sliceT P t = true ∧ v = .one (.d (.int .i64 0))
     | .one (.sref u j _ len) => sliceT P t = true ∧ ((∃ q size rows, σ.ob u j = .arr q size rows) ∨ ∃ size rows, σ.ob u j = .lit size rows) ∧ v = .one (.d (.int .i64 len))
     | _ => False)
   | .builtin .max, [x, y], _ => ∃ k m n, lkInt P σ x k m ∧ lkInt P σ y k n ∧ v = .one (.d (.int k (if n > m then n else m)))
   | .builtin .min, [x, y], _ => ∃ k m n, lkInt P σ x k m ∧ lkInt P σ y k n ∧ v = .one (.d (.int k (if n < m then n else m)))
   | _, _, _ => False)
 | _ => False
end Go.Vm
namespace Go.Vm
section
variable {P : Program} {T0 : CS} {B : Nat → Prop} {σ : St} {a : Act} {w : World} {X : Nat → Prop} {h : Nat → Nat → Hd}

theorem addr_add (b off n : Nat) : (⟨b, off, none⟩ : Addr).add n = ⟨b, off + n, none⟩ := by
 unfold Addr.add; split <;> simp_all

theorem tyOk_parts {T : TypeId} (ht : tyOk P T = true) : ∃ d i, P.underlying T = some d ∧ P.info? T = some i ∧ i.size = P.cellsOf T ∧ (aggT P T = true ∨ P.cellsOf T = 1) := by
 simp only [tyOk, Bool.and_eq_true, Bool.or_eq_true, beq_iff_eq] at ht
 obtain ⟨⟨h1, h2⟩, h3⟩ := ht
 obtain ⟨d, hd⟩ := Option.isSome_iff_exists.1 h1
 obtain ⟨i, hi⟩ := Option.isSome_iff_exists.1 h2
 exact ⟨d, i, hd, hi, by simp [Program.cellsOf, hi], h3⟩

theorem run_isAgg {T : TypeId} {d : TypeDesc} (hd : P.underlying T = some d) (w : World) : (isAgg T).run P w = .ok (aggT P T) w := by
 unfold isAgg aggT
 rw [hd]
 simp only [Sem.run_bind, run_underlying hd, Result.andThen_ok]
 cases d <;> simp

theorem run_szOf {T : TypeId} {i : TypeInfo} (hi : P.info? T = some i) (w : World) : (sizeOf T).run P w = .ok (P.cellsOf T) w := by
 simp [sizeOf, typeInfo, hi, Program.cellsOf]

theorem run_ld {T : TypeId} (ht : tyOk P T = true) {b off : Nat} {cs : List Value} (hl : cs.length = P.cellsOf T) (hc : ∀ j v, cs[j]? = some v → w.cell? ⟨b, off + j, none⟩ = some v) :
  ∃ val, (Instr.loadAt T (.pointer (some ⟨b, off, none⟩))).run P w = .ok val w ∧ (aggT P T = true → val = .agg cs.toArray) ∧ (aggT P T = false → cs = [val]) := by
 obtain ⟨d, i, hd, hi, hsz, hor⟩ := tyOk_parts ht
 cases hag : aggT P T with
 | true =>
  refine ⟨.agg cs.toArray, ?_, fun _ => rfl, (fun hh => by cases hh)⟩
  have := run_loadCells_list (P := P) w ⟨b, off, none⟩ cs (fun j v hv => by rw [addr_add]; exact hc j v hv)
  simp only [Instr.loadAt, Instr.sureAddr, loadVar, Sem.run_bind, Sem.run_pure, Result.andThen_ok, run_isAgg hd, hag, if_true, run_szOf hi, ← hl, this]
 | false =>
  rcases hor with hor | hor
  ·rw [hag] at hor; cases hor
  ·rw [hor] at hl
   obtain ⟨val, rfl⟩ := List.length_eq_one_iff.1 hl
   refine ⟨val, ?_, (fun hh => by cases hh), fun _ => rfl⟩
   have hc0 := hc 0 val (by simp)
   simp only [Nat.add_zero] at hc0
   simp [Instr.loadAt, Instr.sureAddr, loadVar, run_isAgg hd, hag, load, Sem.run, hc0]

theorem ldV_rel {T : TypeId} (_ht : tyOk P T = true) {T' : CS} {ob : Nat → Nat → Ob} {xs : List At} {cs : List Value} {val : Value} (hx : All2 (AtRel T' h ob w) xs cs)
  (h1 : aggT P T = true → val = .agg cs.toArray) (h2 : aggT P T = false → cs = [val]) : VRel T' h ob w (ldV P T xs) val := by
 unfold ldV
 cases hag : aggT P T with
 | true => simp only [if_true]; exact ⟨_, h1 hag, by simpa using hx⟩
 | false =>
  simp only [Bool.false_eq_true, if_false]
  rw [h2 hag] at hx
  cases hx with
  | cons r hx => cases hx; exact r

theorem All2.cut {α β : Type} {R : α → β → Prop} {l : List α} {m : List β} (x : All2 R l m) (o n : Nat) : All2 R (Vm.cut l o n) (Vm.cut m o n) := (x.drop o).take n
theorem cut_length {α : Type} (l : List α) (o n : Nat) (hl : o + n ≤ l.length) : (cut l o n).length = n := by simp [cut]; omega
theorem cut_get {α : Type} (l : List α) (o n j : Nat) (v : α) (hv : (cut l o n)[j]? = some v) : l[o + j]? = some v := by
 simp only [cut, List.getElem?_take, List.getElem?_drop] at hv
 split at hv
 ·exact hv
 ·cases hv

theorem flatten_get {α : Type} : ∀ (rows : List (List α)) (size : Nat), (∀ r ∈ rows, r.length = size) → ∀ (i : Nat) (r : List α), rows[i]? = some r → ∀ (j : Nat) (d : α), r[j]? = some d → rows.flatten[i * size + j]? = some d
 | [], _, _, i, r, hr, _, _, _ => by simp at hr
 | r0 :: rows, size, hz, 0, r, hr, j, d, hd => by
  simp at hr; subst hr
  have hj : j < r0.length := (List.getElem?_eq_some_iff.1 hd).1
  simp [List.getElem?_append_left hj, hd]
 | r0 :: rows, size, hz, i + 1, r, hr, j, d, hd => by
  have ih := flatten_get rows size (fun r hr => hz r (by simp [hr])) i r (by simpa using hr) j d hd
  have h0 : r0.length = size := hz r0 (by simp)
  rw [List.flatten_cons, List.getElem?_append_right (by rw [h0, Nat.add_mul]; omega), h0]
  have : (i + 1) * size + j - size = i * size + j := by rw [Nat.add_mul]; omega
  rw [this]; exact ih
theorem flatten_length {α : Type} (rows : List (List α)) (size : Nat) (hz : ∀ r ∈ rows, r.length = size) : rows.flatten.length = rows.length * size := by
 induction rows with
 | nil => simp
 | cons r rows ih => rw [List.flatten_cons, List.length_append, ih (fun r hr => hz r (by simp [hr])), hz r (by simp), List.length_cons, Nat.add_mul]; omega

theorem Rd.row {T : CS} {v : Value} {size : Nat} {rows : List (List D)} (r : Rd T w v (.sl size rows)) (i : Nat) (hi : i < rows.length) (hsz : 0 < size) :
  ∃ a len cap, v = .slice (some a) len cap ∧ len = rows.length ∧ a.spot = none ∧
   ∃ g : Nat → Value, ∀ k d, (rows.getD i [])[k]? = some d → w.cell? ⟨a.block, a.off + i * size + k, none⟩ = some (g k) ∧ T a.block (a.off + i * size + k) ∧ Rd T w (g k) d := by
 cases r with
 | nil => simp at hi
 | sl a len cap size rows g hl hc hm hz hs hg hr =>
  have hrow : rows[i]? = some (rows.getD i []) := by simp [List.getD_eq_getElem?_getD, List.getElem?_eq_getElem hi]
  have hne : rows.flatten ≠ [] := by
   have hlen := flatten_length rows size hz
   have hp : 0 < rows.length * size := Nat.mul_pos (by omega) hsz
   intro he
   have h0 : rows.flatten.length = 0 := by rw [he]; rfl
   omega
  refine ⟨a, len, cap, rfl, hl.symm, hs hne, fun k => g (i * size + k), fun k d hd => ?_⟩
  have hf := flatten_get rows size hz i _ hrow k d hd
  have h1 := hg _ _ hf
  rw [Nat.add_assoc]
  exact ⟨h1.1, h1.2, hr _ _ hf⟩

theorem rows_row_size {T : CS} {v : Value} {size : Nat} {rows : List (List D)} (r : Rd T w v (.sl size rows)) : ∀ x ∈ rows, x.length = size := by
 cases r with
 | nil => intro x hx; cases hx
 | sl a len cap size rows g hl hc hm hz hs hg hr => exact hz
theorem rd_len {T : CS} {v : Value} {size : Nat} {rows : List (List D)} (r : Rd T w v (.sl size rows)) : ∃ base cap, v = .slice base rows.length cap ∧ rows.length ≤ cap ∧ cap ≤ maxLen := by
 cases r with
 | nil => exact ⟨none, 0, rfl, by simp, by simp [maxLen]⟩
 | sl a len cap size rows g hl hc hm hz hs hg hr => exact ⟨some a, cap, by rw [hl], by omega, hm⟩

theorem sliceT_parts {t : TypeId} (ht : sliceT P t = true) : ∃ i, P.underlying t = some (.slice (elemT P t)) ∧ P.info? (elemT P t) = some i ∧ i.size = P.cellsOf (elemT P t) := by
 unfold sliceT at ht
 split at ht
 ·rename_i e he
  obtain ⟨i, hi⟩ := Option.isSome_iff_exists.1 ht
  have : elemT P t = e := by simp [elemT, he]
  rw [this]
  exact ⟨i, he, hi, by simp [Program.cellsOf, hi]⟩
 ·cases ht
theorem arrT_parts {t : TypeId} {n : Nat} (ht : arrT P t = some n) : ∃ i, P.underlying t = some (.array n (elemT P t)) ∧ P.info? (elemT P t) = some i ∧ i.size = P.cellsOf (elemT P t) := by
 unfold arrT at ht
 split at ht
 ·rename_i m e he
  split at ht
  ·rename_i hh
   cases ht
   obtain ⟨i, hi⟩ := Option.isSome_iff_exists.1 hh
   have : elemT P t = e := by simp [elemT, he]
   rw [this]
   exact ⟨i, he, hi, by simp [Program.cellsOf, hi]⟩
  ·cases ht
 ·cases ht
theorem fieldOk_parts {t : TypeId} {f : Nat} (ht : fieldOk P t f = true) : ∃ fs fd i, P.underlying t = some (.struct fs) ∧ fs[f]? = some fd ∧ fd.offset = fieldOff P t f ∧ fd.type = fieldTy P t f ∧ P.info? fd.type = some i ∧ i.size ≠ 0 := by
 unfold fieldOk at ht
 split at ht
 ·rename_i fs he
  split at ht
  ·rename_i fd hf
   simp at ht
   obtain ⟨i, hi⟩ := Option.isSome_iff_exists.1 ht.1
   exact ⟨fs, fd, i, he, hf, by simp [fieldOff, he, hf], by simp [fieldTy, he, hf], hi, by simpa [Program.cellsOf, hi] using ht.2⟩
  ·cases ht
 ·cases ht
theorem strT_parts {t : TypeId} (ht : strT P t = true) : P.underlying t = some .string := by
 unfold strT at ht; split at ht <;> first | assumption | cases ht
theorem intT_parts {t : TypeId} {k : IntKind} (ht : intT P t = some k) : P.underlying t = some (.int k) := by
 unfold intT at ht
 split at ht
 ·cases ht; assumption
 ·cases ht
theorem rd_int {T : CS} {v : Value} {k : IntKind} {n : Int} (r : Rd T w v (.int k n)) : v = .int k n := by cases r; rfl
theorem rd_bool {T : CS} {v : Value} {b : Bool} (r : Rd T w v (.bool b)) : v = .bool b := by cases r; rfl
theorem rd_str {T : CS} {v : Value} {s : ByteArray} (r : Rd T w v (.str s)) : v = .string s := by cases r; rfl
theorem lkInt_eval (r : Rel T0 B σ a w X h) {x : Operand} {k : IntKind} {n : Int} (hx : lkInt P σ x k n) : a.eval x = .int k n :=
 rd_int (r.arg 0 x hx.2 hx.1)
end
end Go.Vm
namespace Go.Vm
section
variable {P : Program} {T0 : CS} {B : Nat → Prop} {σ : St} {a : Act} {w : World} {X : Nat → Prop} {h : Nat → Nat → Hd}

theorem Own.oneCell {v : Value} {d : D} {S : Nat → Prop} (h : Own w v d S) : v.oneCell' = true := by
 cases h with
 | int => rfl
 | bool => rfl
 | str => rfl
 | sl v size rows S e xs Sk ho hz hb hl hk hs hd => rcases ho.2 with ⟨rfl, _⟩ | ⟨g, cap, cur, rfl, _⟩ <;> rfl
theorem tcells_get {t j i : Nat} : ∀ {xs : List D} {c k : Nat} {x : At}, (tcells t j i c xs)[k]? = some x → ∃ d, xs[k]? = some d ∧ x = (match d with | .sl _ _ => .tref t j i (c + k) | d => .d d)
 | [], c, k, x, hx => by simp [tcells] at hx
 | d :: xs, c, 0, x, hx => by
  simp only [tcells, List.getElem?_cons_zero] at hx
  cases hx
  exact ⟨d, by simp, by cases d <;> simp⟩
 | d :: xs, c, k + 1, x, hx => by
  simp only [tcells, List.getElem?_cons_succ] at hx
  obtain ⟨d', hd', rfl⟩ := tcells_get hx
  exact ⟨d', by simpa using hd', by cases d' <;> simp; omega⟩
theorem tcells_length {t j i : Nat} : ∀ (c : Nat) (xs : List D), (tcells t j i c xs).length = xs.length
 | _, [] => rfl
 | c, d :: xs => by simp [tcells, tcells_length (c + 1) xs]
theorem rcells_length (q : Bool) (t j i c : Nat) (xs : List D) : (rcells q t j i c xs).length = xs.length := by
 cases q <;> simp [rcells, tcells_length]
theorem Rel.box (r : Rel T0 B σ a w X h) {t : Nat} {cells : List At} (ho : σ.ob t 0 = .box cells) {c : Nat} {v : Value} (hv : AtRel (Tof T0 X) h σ.ob w (.bptr t c) v) :
  ∃ b cs e, (h t 0).v = .pointer (some ⟨b, 0, none⟩) ∧ v = .pointer (some ⟨b, c, none⟩) ∧ w.heap[b]? = some (.cells cs e (0, 0)) ∧ All2 (AtRel (Tof T0 X) h σ.ob w) cells cs.toList := by
 obtain ⟨b, hb, rfl⟩ := hv.2 cells ho
 have hob := r.obj t 0
 rw [ho] at hob
 obtain ⟨b', cs, e, hb', hh, hal⟩ := hob
 rw [hb] at hb'
 cases hb'
 exact ⟨b, cs, e, hb, rfl, hh, hal⟩
theorem heap_cell {b : Nat} {cs : Array Value} {e : TypeId} {f : Nat × Nat} (hh : w.heap[b]? = some (.cells cs e f)) (k : Nat) (v : Value) (hv : cs.toList[k]? = some v) : w.cell? ⟨b, k, none⟩ = some v := by
 simp only [World.cell?, hh]
 simpa using hv
theorem Rel.arr (r : Rel T0 B σ a w X h) {t j : Nat} {q : Bool} {size : Nat} {rows : List (List D)} (ho : σ.ob t j = .arr q size rows) {i c : Nat} {v : Value} (hv : AtRel (Tof T0 X) h σ.ob w (.ptr t j i c) v) :
  ∃ b cap cur e xs, (h t j).v = .slice (some ⟨b, 0, none⟩) rows.length cap ∧ v = .pointer (some ⟨b, i * size + c, none⟩) ∧ w.heap[b]? = some (.cells cur e (0, 0)) ∧ rows.length ≤ cap ∧ cap ≤ maxLen ∧ cur.size = cap * size ∧
   cur.toList.take (rows.length * size) = xs ∧ (∀ r ∈ rows, r.length = size) ∧ xs.length = rows.flatten.length ∧ (q = false → All2 (Rd (Tof T0 X) w) xs rows.flatten) ∧
   (q = true → OwnC w xs rows.flatten (fun b => (h t j).u b ∧ blk (h t j).v ≠ some b) ∧ ∀ k x d, xs[k]? = some x → rows.flatten[k]? = some d → d.scalar = false → (h t j).n k = x) := by
 obtain ⟨b, n, cap, hb, rfl⟩ := hv.2 q size rows ho
 have hob := r.obj t j
 rw [ho] at hob
 cases q with
 | false =>
  obtain ⟨e, xs, hown, hz, hal⟩ := hob
  rcases hown.2 with ⟨h0, _⟩ | ⟨g, cap', cur, hg, _, hh, hle, hmx, hcs, htk⟩
  ·rw [hb] at h0; cases h0
  ·rw [hb] at hg
   cases hg
   exact ⟨b, cap, cur, e, xs, hb, rfl, hh, hle, hmx, hcs, htk, hz, hal.length, fun _ => hal, fun hh => by cases hh⟩
 | true =>
  obtain ⟨e, xs, hown, hz, hal, hn⟩ := hob
  rcases hown.2 with ⟨h0, _⟩ | ⟨g, cap', cur, hg, _, hh, hle, hmx, hcs, htk⟩
  ·rw [hb] at h0; cases h0
  ·rw [hb] at hg
   cases hg
   exact ⟨b, cap, cur, e, xs, hb, rfl, hh, hle, hmx, hcs, htk, hz, hal.1, (fun hh => by cases hh), fun _ => ⟨hal, hn⟩⟩

theorem sound_load (r : Rel T0 B σ a w X h) {o : Oper} {T : TypeId} {x : Operand} {v : V} (hop : o.op = .load T x) (hs : StepV P σ o.op o.type v) :
  ∃ val, (execOp a.eval o).run P w = .ok (.value val) w ∧ VRel (Tof T0 X) h σ.ob w v val := by
 simp only [hop, StepV] at hs
 obtain ⟨hg, hty, hs⟩ := hs
 have hx := r.arg (P := P) 0 x rfl hg
 have key : ∀ (b off : Nat) (xs : List At) (cs : List Value), a.eval x = .pointer (some ⟨b, off, none⟩) → v = ldV P T xs → cs.length = P.cellsOf T →
   (∀ j u, cs[j]? = some u → w.cell? ⟨b, off + j, none⟩ = some u) → All2 (AtRel (Tof T0 X) h σ.ob w) xs cs → ∃ val, (execOp a.eval o).run P w = .ok (.value val) w ∧ VRel (Tof T0 X) h σ.ob w v val := by
  intro b off xs cs he hv hl hc hal
  obtain ⟨val, hr, h1, h2⟩ := run_ld (P := P) hty hl hc
  refine ⟨val, ?_, ?_⟩
  ·simp only [execOp, hop, he, Sem.run_bind, hr, Result.andThen_ok, Sem.run_pure]
  ·rw [hv]; exact ldV_rel hty hal h1 h2
 split at hs
 ·rename_i t c heq
  rw [heq] at hx
  obtain ⟨cells, ho, hle, hv⟩ := hs
  obtain ⟨b, cs, e, hb, he, hh, hal⟩ := r.box ho hx
  have hlen := hal.length
  refine key b c _ (cut cs.toList c (P.cellsOf T)) he hv (cut_length _ _ _ (by omega)) (fun j u hu => heap_cell hh _ _ (cut_get _ _ _ _ _ hu)) (hal.cut _ _)
 ·rename_i t j i c heq
  rw [heq] at hx
  obtain ⟨q, size, rows, ho, hi, hle, hv⟩ := hs
  obtain ⟨b, cap, cur, e, xs, hb, he, hh, hcap, hmx, hcs, htk, hz, hxl, hal, hown⟩ := r.arr ho hx
  have hrow : rows[i]? = some (rows.getD i []) := by simp [List.getD_eq_getElem?_getD, List.getElem?_eq_getElem hi]
  have hrl : (rows.getD i []).length = size := hz _ (List.mem_of_getElem? hrow)
  have hfl := flatten_length rows size hz
  have hmul : i * size + size ≤ rows.length * size := by rw [← Nat.succ_mul]; exact Nat.mul_le_mul_right _ hi
  have hdat : ∀ k d', (cut (rows.getD i []) c (P.cellsOf T))[k]? = some d' → rows.flatten[i * size + c + k]? = some d' := by
   intro k d' hd'
   have h2 := flatten_get rows size hz i _ hrow (c + k) d' (cut_get _ _ _ _ _ hd')
   rw [show i * size + c + k = i * size + (c + k) by omega]; exact h2
  refine key b (i * size + c) _ (cut xs (i * size + c) (P.cellsOf T)) he hv (cut_length _ _ _ (by omega)) (fun j u hu => ?_) ?_
  ·have h1 := cut_get _ _ _ _ _ hu
   refine heap_cell hh _ _ ?_
   rw [← htk, List.getElem?_take] at h1
   split at h1
   ·exact h1
   ·cases h1
  ·refine All2.of_get (by rw [cut_length _ _ _ (by omega), rcells_length, cut_length _ _ _ (by omega)]) (fun k x u hx hu => ?_)
   have h1 := cut_get _ _ _ _ _ hu
   cases q with
   | false =>
    obtain ⟨d, hd, hr⟩ := (hal rfl).get _ _ h1
    simp only [rcells] at hx
    rw [List.getElem?_map] at hx
    cases hd' : (cut (rows.getD i []) c (P.cellsOf T))[k]? with
    | none => rw [hd'] at hx; cases hx
    | some d' =>
     rw [hd'] at hx
     cases hx
     rw [hdat k d' hd'] at hd
     cases hd
     exact hr
   | true =>
    obtain ⟨⟨_, Sk, hown, _, _⟩, hn⟩ := hown rfl
    simp only [rcells] at hx
    obtain ⟨d', hd', rfl⟩ := tcells_get hx
    have ho' := hown _ _ _ h1 (hdat k d' hd')
    cases d' with
    | sl s rs =>
     refine ⟨ho'.oneCell, fun size' rows' ho2 => ?_⟩
     rw [ho] at ho2; cases ho2
     rw [← hn _ _ _ h1 (hdat k _ hd') rfl, Nat.add_assoc]
    | int k n => cases ho'; exact .int _ _
    | bool b => cases ho'; exact .bool _
    | str s => cases ho'; exact .str _
 ·rename_i rr c heq
  rw [heq] at hx
  obtain ⟨hle, hv⟩ := hs
  obtain ⟨b, off, g, he, hk⟩ := hx
  refine key b (off + c) _ ((List.range (P.cellsOf T)).map fun j => g (c + j)) he hv (by simp) (fun j u hu => ?_) ?_
  ·rw [List.getElem?_map] at hu
   rcases Nat.lt_or_ge j (P.cellsOf T) with hj | hj
   ·rw [List.getElem?_range hj] at hu
    cases hu
    have hd := hk (c + j) (rr[c + j]'(by omega)) (List.getElem?_eq_getElem _)
    rw [Nat.add_assoc]; exact hd.1
   ·rw [List.getElem?_eq_none (by simpa using hj)] at hu; cases hu
  ·refine All2.of_get (by rw [List.length_map, cut_length _ _ _ (by omega)]; simp) (fun k x u hx hu => ?_)
   rw [List.getElem?_map] at hx hu
   cases hd' : (cut rr c (P.cellsOf T))[k]? with
   | none => rw [hd'] at hx; cases hx
   | some d' =>
    rw [hd'] at hx
    cases hx
    have hkl : k < P.cellsOf T := by have := (List.getElem?_eq_some_iff.1 hd').1; rw [cut_length _ _ _ (by omega)] at this; exact this
    rw [List.getElem?_range hkl] at hu
    cases hu
    exact (hk (c + k) d' (cut_get _ _ _ _ _ hd')).2.2
 ·exact hs.elim

theorem run_fieldAt {T : TypeId} {f : Nat} (hf : fieldOk P T f = true) (b off : Nat) : (Instr.fieldAt T (.pointer (some ⟨b, off, none⟩)) f).run P w = .ok (.pointer (some ⟨b, off + fieldOff P T f, none⟩)) w := by
 obtain ⟨fs, fd, i, hu, hfd, hoff, hty, hi, hne⟩ := fieldOk_parts hf
 have hne' : P.cellsOf fd.type ≠ 0 := by simpa [Program.cellsOf, hi] using hne
 simp [Instr.fieldAt, run_underlying hu, hfd, Instr.sureAddr, fieldPlace, run_szOf hi, hne', addr_add, hoff]

theorem sound_fieldAddr (r : Rel T0 B σ a w X h) {o : Oper} {T : TypeId} {x : Operand} {f : Nat} {v : V} (hop : o.op = .fieldAddr T x f) (hs : StepV P σ o.op o.type v) :
  ∃ val, (execOp a.eval o).run P w = .ok (.value val) w ∧ VRel (Tof T0 X) h σ.ob w v val := by
 simp only [hop, StepV] at hs
 obtain ⟨hg, hf, hs⟩ := hs
 have hx := r.arg (P := P) 0 x rfl hg
 split at hs
 ·rename_i t c heq
  rw [heq] at hx
  obtain ⟨⟨cells, ho⟩, rfl⟩ := hs
  obtain ⟨b, hb, he⟩ := hx.2 cells ho
  refine ⟨.pointer (some ⟨b, c + fieldOff P T f, none⟩), by simp only [execOp, hop, he, Sem.run_bind, run_fieldAt hf, Result.andThen_ok, Sem.run_pure], rfl, fun cells' _ => ⟨b, hb, rfl⟩⟩
 ·rename_i t j i c heq
  rw [heq] at hx
  obtain ⟨⟨q, size, rows, ho⟩, rfl⟩ := hs
  obtain ⟨b, n, cap, hb, he⟩ := hx.2 q size rows ho
  refine ⟨.pointer (some ⟨b, i * size + c + fieldOff P T f, none⟩), by simp only [execOp, hop, he, Sem.run_bind, run_fieldAt hf, Result.andThen_ok, Sem.run_pure], rfl, fun q' size' rows' ho' => ?_⟩
  rw [ho] at ho'
  cases ho'
  exact ⟨b, n, cap, hb, by rw [Nat.add_assoc]⟩
 ·rename_i rr c heq
  rw [heq] at hx
  subst hs
  obtain ⟨b, off, g, he, hk⟩ := hx
  exact ⟨.pointer (some ⟨b, off + c + fieldOff P T f, none⟩), by simp only [execOp, hop, he, Sem.run_bind, run_fieldAt hf, Result.andThen_ok, Sem.run_pure], b, off, g, by rw [Nat.add_assoc], hk⟩
 ·exact hs.elim

theorem run_indexSl {T : TypeId} (ht : sliceT P T = true) (ad : Addr) (hsp : ad.spot = none) (len cap : Nat) (k : IntKind) (i : Int) (h0 : 0 ≤ i) (hl : i < (len : Int)) :
  (Instr.indexAt T (.slice (some ad) len cap) (.int k i)).run P w = .ok (.pointer (some ⟨ad.block, ad.off + i.toNat * P.cellsOf (elemT P T), none⟩)) w := by
 obtain ⟨ti, hu, hi, hsz⟩ := sliceT_parts ht
 obtain ⟨b, off, sp⟩ := ad
 simp at hsp; subst hsp
 simp [Instr.indexAt, asIntOf, run_underlying hu, h0, hl, run_szOf hi, addr_add]

theorem run_indexArr {T : TypeId} {n : Nat} (ht : arrT P T = some n) (_h1 : 1 < n) (b off : Nat) (k : IntKind) (i : Int) (h0 : 0 ≤ i) (hl : i < (n : Int)) :
  (Instr.indexAt T (.pointer (some ⟨b, off, none⟩)) (.int k i)).run P w = .ok (.pointer (some ⟨b, off + i.toNat * P.cellsOf (elemT P T), none⟩)) w := by
 obtain ⟨ti, hu, hi, hsz⟩ := arrT_parts ht
 simp [Instr.indexAt, Instr.sureAddr, asIntOf, run_underlying hu, h0, hl, run_szOf hi, addr_add]

theorem sound_indexAddr (r : Rel T0 B σ a w X h) {o : Oper} {T : TypeId} {x ix : Operand} {v : V} (hop : o.op = .indexAddr T x ix) (hs : StepV P σ o.op o.type v) :
  ∃ val, (execOp a.eval o).run P w = .ok (.value val) w ∧ VRel (Tof T0 X) h σ.ob w v val := by
 simp only [hop, StepV] at hs
 obtain ⟨k, i, hix, h0, hg, hs⟩ := hs
 have hx := r.arg (P := P) 0 x rfl hg
 have hie := lkInt_eval r hix
 split at hs
 ·rename_i size rows heq
  rw [heq] at hx
  obtain ⟨ht, rfl, hpos, hlt, rfl⟩ := hs
  have hil : i.toNat < rows.length := by omega
  obtain ⟨ad, len, cap, he, hlen, hsp, g, hk⟩ := Rd.row (show Rd _ _ _ _ from hx) i.toNat hil hpos
  refine ⟨.pointer (some ⟨ad.block, ad.off + i.toNat * P.cellsOf (elemT P T), none⟩), by simp only [execOp, hop, he, hie, Sem.run_bind, run_indexSl ht ad hsp len cap k i h0 (by omega), Result.andThen_ok, Sem.run_pure], ad.block, ad.off + i.toNat * P.cellsOf (elemT P T), g, by simp, hk⟩
 ·rename_i t j lo len heq
  rw [heq] at hx
  obtain ⟨ht, hpos, ⟨q, rows, ho⟩, hlt, rfl⟩ := hs
  obtain ⟨hle, _, base, cap, he, hcap, _, _, hb⟩ := hx.2.1 _ _ rows ho
  obtain ⟨b, cap0, hh, hbase⟩ := hb (by omega)
  rw [hbase] at he
  refine ⟨.pointer (some ⟨b, lo * P.cellsOf (elemT P T) + i.toNat * P.cellsOf (elemT P T), none⟩), by simp only [execOp, hop, he, hie, Sem.run_bind, run_indexSl ht ⟨b, lo * P.cellsOf (elemT P T), none⟩ rfl len cap k i h0 hlt, Result.andThen_ok, Sem.run_pure], rfl, fun q' size' rows' ho' => ?_⟩
  rw [ho] at ho'
  cases ho'
  exact ⟨b, rows.length, cap0, hh, by simp [Nat.add_mul]⟩
 ·rename_i t c heq
  rw [heq] at hx
  obtain ⟨⟨cells, ho⟩, ⟨n, hn, h1, hlt⟩, rfl⟩ := hs
  obtain ⟨b, hb, he⟩ := hx.2 cells ho
  exact ⟨.pointer (some ⟨b, c + i.toNat * P.cellsOf (elemT P T), none⟩), by simp only [execOp, hop, he, hie, Sem.run_bind, run_indexArr hn h1 b c k i h0 hlt, Result.andThen_ok, Sem.run_pure], rfl, fun cells' _ => ⟨b, hb, rfl⟩⟩
 ·exact hs.elim
end
end Go.Vm
namespace Go.Vm
section
variable {P : Program} {T0 : CS} {B : Nat → Prop} {σ : St} {a : Act} {w : World} {X : Nat → Prop} {h : Nat → Nat → Hd}

theorem run_part {T : TypeId} (ht : tyOk P T = true) {cs : Array Value} {off : Nat} (hl : off + P.cellsOf T ≤ cs.size) :
  ∃ val, (part T cs off).run P w = .ok val w ∧ (aggT P T = true → val = .agg (cut cs.toList off (P.cellsOf T)).toArray) ∧ (aggT P T = false → cut cs.toList off (P.cellsOf T) = [val]) := by
 obtain ⟨d, i, hd, hi, hsz, hor⟩ := tyOk_parts ht
 cases hag : aggT P T with
 | true =>
  refine ⟨.agg (cs.extract off (off + P.cellsOf T)), ?_, fun _ => ?_, (fun hh => by cases hh)⟩
  ·simp only [part, Sem.run_bind, run_isAgg hd, hag, Result.andThen_ok, if_true, run_szOf hi, Sem.run_pure]
  ·congr 1
   apply Array.toList_inj.1
   simp [cut, Array.toList_extract, List.extract_eq_take_drop]
 | false =>
  rcases hor with hor | hor
  ·rw [hag] at hor; cases hor
  ·rw [hor] at hl ⊢
   have hlt : off < cs.size := by omega
   refine ⟨cs[off], ?_, (fun hh => by cases hh), fun _ => ?_⟩
   ·simp [part, run_isAgg hd, hag, Array.getElem?_eq_getElem hlt]
   ·have : cut cs.toList off 1 = [cs.toList[off]'(by simpa using hlt)] := by
     simp only [cut]
     rw [List.drop_eq_getElem_cons (by simpa using hlt)]
     simp
    rw [this]
    simp

theorem agg_part {T : TypeId} (ht : tyOk P T = true) {xs : List At} {x : Value} {off : Nat} (hx : VRel (Tof T0 X) h σ.ob w (.agg xs) x) (hl : off + P.cellsOf T ≤ xs.length) :
  ∃ cs : Array Value, x = .agg cs ∧ ∃ val, (part T cs off).run P w = .ok val w ∧ VRel (Tof T0 X) h σ.ob w (ldV P T (cut xs off (P.cellsOf T))) val := by
 obtain ⟨cs, rfl, hal⟩ := hx
 obtain ⟨val, hr, h1, h2⟩ := run_part (P := P) (w := w) ht (cs := cs) (off := off) (by have := hal.length; simp at this; omega)
 exact ⟨cs, rfl, val, hr, ldV_rel ht (hal.cut _ _) h1 h2⟩

theorem sound_index (r : Rel T0 B σ a w X h) {o : Oper} {T : TypeId} {x ix : Operand} {v : V} (hop : o.op = .index T x ix) (hs : StepV P σ o.op o.type v) :
  ∃ val, (execOp a.eval o).run P w = .ok (.value val) w ∧ VRel (Tof T0 X) h σ.ob w v val := by
 simp only [hop, StepV] at hs
 obtain ⟨k, i, hix, h0, hg, hs⟩ := hs
 have hx := r.arg (P := P) 0 x rfl hg
 have hie := lkInt_eval r hix
 split at hs
 ·rename_i s heq
  rw [heq] at hx
  obtain ⟨ht, hlt, rfl⟩ := hs
  have he := rd_str hx
  have hil : i.toNat < s.size := by omega
  refine ⟨.int .u8 (s.data.toList.getD i.toNat 0).toNat, ?_, .int _ _⟩
  have hget : s[i.toNat]? = some (s.data.toList.getD i.toNat 0) := by
   rw [List.getD_eq_getElem?_getD]
   have h1 : s.data.toList[i.toNat]? = some (s.data[i.toNat]'hil) := by
    rw [List.getElem?_eq_getElem (by simpa using hil)]; simp
   rw [h1, getElem?_pos s i.toNat hil]
   rfl
  simp [execOp, hop, he, hie, Instr.index, asIntOf, run_underlying (strT_parts ht), h0, hget]
 ·rename_i xs heq
  rw [heq] at hx
  obtain ⟨⟨n, hn, hlt⟩, ht, hl, rfl⟩ := hs
  obtain ⟨ti, hu, hi, hsz⟩ := arrT_parts hn
  obtain ⟨cs, he, val, hr, hv⟩ := agg_part ht hx hl
  refine ⟨val, ?_, hv⟩
  simp [execOp, hop, he, hie, Instr.index, asIntOf, run_underlying hu, h0, hlt, run_szOf hi, hr]
 ·exact hs.elim

theorem sound_field (r : Rel T0 B σ a w X h) {o : Oper} {T : TypeId} {x : Operand} {f : Nat} {v : V} (hop : o.op = .field T x f) (hs : StepV P σ o.op o.type v) :
  ∃ val, (execOp a.eval o).run P w = .ok (.value val) w ∧ VRel (Tof T0 X) h σ.ob w v val := by
 simp only [hop, StepV] at hs
 obtain ⟨hg, hf, ht, hs⟩ := hs
 have hx := r.arg (P := P) 0 x rfl hg
 split at hs
 ·rename_i xs heq
  rw [heq] at hx
  obtain ⟨hl, rfl⟩ := hs
  obtain ⟨fs, fd, i, hu, hfd, hoff, hty, hi, hne⟩ := fieldOk_parts hf
  obtain ⟨cs, he, val, hr, hv⟩ := agg_part ht hx hl
  refine ⟨val, ?_, hv⟩
  rw [← hoff, ← hty] at hr
  simp [execOp, hop, he, Instr.field, run_underlying hu, hfd, asAgg, hr]
 ·exact hs.elim

theorem bnd_run (r : Rel T0 B σ a w X h) {dflt n y : Nat} {x : Option Operand} {code : BoundsCode} (hb : bnd P σ dflt x n) (hy : n ≤ y) (hne : x ≠ none) :
  (Instr.sliceBound ((x.map a.eval).getD undef) y code).run P w = .ok n w := by
 cases x with
 | none => exact absurd rfl hne
 | some x =>
  obtain ⟨k, i, hg, hx, h0, rfl⟩ := hb
  have he := rd_int (r.arg (P := P) 0 x hx hg)
  have : i ≤ (y : Int) := by omega
  simp [he, Instr.sliceBound, asIntOf, h0, this]

theorem bounds_run (r : Rel T0 B σ a w X h) {sl : Bool} {len cap l hh : Nat} {lo hi : Option Operand} (hlo : bnd P σ 0 lo l) (hhi : bnd P σ len hi hh) (h1 : l ≤ hh) (h2 : hh ≤ cap) :
  (Instr.sliceBounds sl len cap (lo.map a.eval) (hi.map a.eval) none).run P w = .ok (l, hh, cap) w := by
 unfold Instr.sliceBounds
 cases hi with
 | none =>
  cases hhi
  cases lo with
  | none => cases hlo; simp
  | some x =>
   have := bnd_run (w := w) r (code := .sliceB) hlo h1 (by simp)
   simp at this
   simp [this]
 | some y =>
  have hb := bnd_run (w := w) r (code := if sl then .sliceAcap else .sliceAlen) hhi h2 (by simp)
  simp at hb
  cases lo with
  | none => cases hlo; simp [hb]
  | some x =>
   have := bnd_run (w := w) r (code := .sliceB) hlo h1 (by simp)
   simp at this
   simp [this, hb]

theorem cut_flatten {α : Type} (rows : List (List α)) (size l n : Nat) (hz : ∀ r ∈ rows, r.length = size) (k : Nat) (d : α) (hd : (cut rows l n).flatten[k]? = some d) : rows.flatten[l * size + k]? = some d := by
 induction rows generalizing l with
 | nil => simp [cut] at hd
 | cons r rows ih =>
  have hr : r.length = size := hz r (by simp)
  cases l with
  | zero =>
   simp only [cut, List.drop_zero, Nat.zero_mul, Nat.zero_add] at hd ⊢
   have hsplit : (r :: rows).flatten = ((r :: rows).take n).flatten ++ ((r :: rows).drop n).flatten := by rw [← List.flatten_append, List.take_append_drop]
   rw [hsplit, List.getElem?_append_left (List.getElem?_eq_some_iff.1 hd).1]; exact hd
  | succ l =>
   have := ih l (fun r hr => hz r (by simp [hr])) (by simpa [cut] using hd)
   rw [List.flatten_cons, List.getElem?_append_right (by rw [hr, Nat.add_mul]; omega), hr]
   rw [show (l + 1) * size + k - size = l * size + k by rw [Nat.add_mul]; omega]; exact this

theorem Rd.cut {T : CS} {v : Value} {size : Nat} {rows : List (List D)} {base : Option Addr} {len cap : Nat} (hv : v = .slice base len cap) (r : Rd T w v (.sl size rows)) (l hh : Nat) (h1 : l ≤ hh) (h2 : hh ≤ rows.length) (_hsz : 0 < size ∨ True) :
  Rd T w (.slice (if cap = l then base else base.map (·.add (l * size))) (hh - l) (cap - l)) (.sl size (Vm.cut rows l (hh - l))) := by
 subst hv
 cases r with
 | nil =>
  simp at h2; subst h2
  have : l = 0 := by omega
  subst this
  simp [Vm.cut]; exact .nil _
 | sl a len cap size rows g hl hc hm hz hs hg hr =>
  have hlen : (Vm.cut rows l (hh - l)).length = hh - l := cut_length _ _ _ (by omega)
  have hz' : ∀ r ∈ Vm.cut rows l (hh - l), r.length = size := fun r hr => hz r (List.mem_of_mem_drop (List.mem_of_mem_take hr))
  by_cases hcl : cap = l
  ·have h0 : hh - l = 0 := by omega
   have hnil : Vm.cut rows l (hh - l) = [] := List.eq_nil_of_length_eq_zero (by omega)
   rw [if_pos hcl, hnil, h0]
   exact .sl a 0 (cap - l) size [] g rfl (Nat.zero_le _) (by omega) (by intro r hr; cases hr) (by simp) (by simp) (by simp)
  ·rw [if_neg hcl]
   refine .sl (a.add (l * size)) (hh - l) (cap - l) size _ (fun k => g (l * size + k)) hlen (by omega) (by omega) hz' (fun hne => ?_) (fun k d hd => ?_) (fun k d hd => hr _ _ (cut_flatten rows size l _ hz k d hd))
   ·have : rows.flatten ≠ [] := by
     intro he
     apply hne
     cases hc' : (Vm.cut rows l (hh - l)).flatten with
     | nil => rfl
     | cons d ds =>
      have := cut_flatten rows size l (hh - l) hz 0 d (by rw [hc']; rfl)
      rw [he] at this; simp at this
    have hsp := hs this
    unfold Addr.add; split <;> simp [hsp]
   ·have hsp : a.spot = none := hs (by
     intro he
     have := cut_flatten rows size l (hh - l) hz k d hd
     rw [he] at this; simp at this)
    have := hg _ _ (cut_flatten rows size l (hh - l) hz k d hd)
    obtain ⟨b, off, sp⟩ := a
    simp at hsp; subst hsp
    rw [addr_add]
    simp only [Nat.add_assoc] at this ⊢
    exact this

theorem sound_slice (r : Rel T0 B σ a w X h) {o : Oper} {T : TypeId} {x : Operand} {lo hi : Option Operand} {v : V} (hop : o.op = .slice T x lo hi none) (hs : StepV P σ o.op o.type v) :
  ∃ val, (execOp a.eval o).run P w = .ok (.value val) w ∧ VRel (Tof T0 X) h σ.ob w v val := by
 simp only [hop, StepV] at hs
 obtain ⟨hg, hs⟩ := hs
 have hx := r.arg (P := P) 0 x rfl hg
 split at hs
 ·rename_i s heq
  rw [heq] at hx
  obtain ⟨ht, l, hh, hlo, hhi, h1, h2, rfl⟩ := hs
  have he := rd_str hx
  have hb := bounds_run (w := w) r (sl := false) hlo hhi h1 h2
  refine ⟨.string (s.extract l hh), ?_, .str _⟩
  simp [execOp, hop, he, Instr.sliceAt, Instr.slice, run_underlying (strT_parts ht), hb]
 ·rename_i size rows heq
  rw [heq] at hx
  obtain ⟨ht, rfl, l, hh, hlo, hhi, h1, h2, rfl⟩ := hs
  obtain ⟨ti, hu, hi', hsz⟩ := sliceT_parts ht
  obtain ⟨base, cap, he, hcap, hmx⟩ := rd_len (show Rd _ _ _ _ from hx)
  have hb := bounds_run (w := w) r (sl := true) (cap := cap) hlo hhi h1 (by omega)
  refine ⟨_, ?_, Rd.cut he hx l hh h1 h2 (.inr trivial)⟩
  simp [execOp, hop, he, Instr.sliceAt, Instr.slice, run_underlying hu, hb, run_szOf hi']
 ·rename_i t j lo0 len heq
  rw [heq] at hx
  obtain ⟨ht, ⟨q, rows, ho⟩, l, hh, hlo, hhi, h1, h2, rfl⟩ := hs
  obtain ⟨ti, hu, hi', hsz⟩ := sliceT_parts ht
  obtain ⟨hle, hfull, base, cap, he, hcap, hmx, hnn, hbs⟩ := hx.2.1 _ _ rows ho
  have hb := bounds_run (w := w) r (sl := true) (cap := cap) hlo hhi h1 (by omega)
  refine ⟨.slice (if cap = l then base else base.map (·.add (l * P.cellsOf (elemT P T)))) (hh - l) (cap - l), ?_, rfl, fun q' size' rows' ho' => ?_, fun size' rows' ho' => by rw [ho] at ho'; cases ho'⟩
  ·simp [execOp, hop, he, Instr.sliceAt, Instr.slice, run_underlying hu, hb, run_szOf hi']
  ·rw [ho] at ho'
   cases ho'
   refine ⟨by omega, fun hl0 hl1 => ?_, _, cap - l, rfl, by omega, by omega, fun hn => ?_, fun hpos => ?_⟩
   ·have hl : l = 0 := by omega
    subst hl
    have : len = rows.length := by omega
    have hv := hfull this (by omega)
    rw [← hv, he]
    simp only [Nat.sub_zero, Nat.zero_mul]
    have h3 : hh = len := by omega
    rw [h3]
    congr 1
    split
    ·rfl
    ·cases base <;> simp [Addr.add]
   ·have hb0 : base = none := by
     by_cases hcl : cap = l
     ·rw [if_pos hcl] at hn; exact hn
     ·rw [if_neg hcl] at hn; simpa using hn
    have := hnn hb0; omega
   ·obtain ⟨b, cap0, hhd, hbase⟩ := hbs (by omega)
    refine ⟨b, cap0, hhd, ?_⟩
    rw [if_neg (by omega), hbase]
    simp [addr_add, Nat.add_mul]
 ·exact hs.elim
end
end Go.Vm
namespace Go.Vm
section
variable {P : Program} {T0 : CS} {B : Nat → Prop} {σ : St} {a : Act} {w : World} {X : Nat → Prop} {h : Nat → Nat → Hd}

theorem place_cons {α : Type} (l : List α) (k : Nat) (v : α) (vs : List α) (hk : k + (vs.length + 1) ≤ l.length) : place (l.set k v) (k + 1) vs = place l k (v :: vs) := by
 unfold place
 have h1 : (l.set k v).take (k + 1) = l.take k ++ [v] := by
  rw [List.take_set, List.take_succ_eq_append_getElem (by omega)]
  rw [List.set_append_right _ _ (by simp; omega)]
  simp [Nat.min_eq_left (show k ≤ l.length by omega)]
 have h2 : (l.set k v).drop (k + 1 + vs.length) = l.drop (k + (vs.length + 1)) := by
  rw [List.drop_set_of_lt (by omega)]; congr 1; omega
 rw [h1, h2]; simp

theorem foldl_place (off : Nat) : ∀ (vs : List Value) (j : Nat) (cs : Array Value), off + j + vs.length ≤ cs.size →
  ((vs.zipIdx j).foldl (fun cs x => cs.setIfInBounds (off + x.2) x.1) cs).toList = place cs.toList (off + j) vs
 | [], j, cs, _ => by simp [place]
 | v :: vs, j, cs, hl => by
  rw [List.zipIdx_cons, List.foldl_cons, foldl_place off vs (j + 1) _ (by simp at hl ⊢; omega)]
  rw [Array.toList_setIfInBounds, show off + (j + 1) = off + j + 1 by omega, place_cons _ _ _ _ (by simp at hl ⊢; omega)]

theorem foldl_place' (off : Nat) (vs cs : Array Value) (hl : off + vs.size ≤ cs.size) :
  (vs.zipIdx.foldl (fun cs x => cs.setIfInBounds (off + x.2) x.1) cs).toList = place cs.toList off vs.toList := by
 rw [← Array.foldl_toList, Array.toList_zipIdx, foldl_place off vs.toList 0 cs (by simpa using hl)]
 rfl

theorem place_length {α : Type} (r : List α) (off : Nat) (xs : List α) (hl : off + xs.length ≤ r.length) : (place r off xs).length = r.length := by
 simp [place]; omega
theorem All2.place {α β : Type} {R : α → β → Prop} {l : List α} {m : List β} (x : All2 R l m) (off : Nat) {l' : List α} {m' : List β} (y : All2 R l' m') : All2 R (Vm.place l off l') (Vm.place m off m') := by
 unfold Vm.place
 rw [y.length]
 exact ((x.take _).append y).append (x.drop _)

theorem flat_rel {T' : CS} {ob : Nat → Nat → Ob} {x : V} {v : Value} (hf : x.flat = true) (hv : VRel T' h ob w x v) : All2 (AtRel T' h ob w) x.cells v.cells.toList := by
 cases x with
 | one c =>
  have h1 := AtRel.oneCell (show AtRel _ _ _ _ _ _ from hv)
  have : v.cells = #[v] := by cases v <;> first | rfl | (simp [Value.oneCell'] at h1)
  rw [this]
  exact .cons hv .nil
 | agg xs => obtain ⟨cs, rfl, hal⟩ := hv; exact hal
 | any => cases hf
 | tup xs => cases hf
 | cnd g x => cases hf
 | fix u x => cases hf

theorem fill_rel (r : Rel T0 B σ a w X h) (T : TypeId) (pl : Nat → Option (Nat × Nat)) (hpl : ∀ i, bOk P T i = true → pl i = some (bOff P T i, P.cellsOf (bTy P T i))) :
  ∀ (ps : List (Nat × Operand)) (row out : List At) (cells : Array Value), All2 (AtRel (Tof T0 X) h σ.ob w) row cells.toList → BuildR P σ T ps row out →
   ∃ cells', Instr.fill pl cells (ps.map fun x => (x.1, a.eval x.2)) = some cells' ∧ All2 (AtRel (Tof T0 X) h σ.ob w) out cells'.toList
 | [], row, out, cells, hal, hb => by cases hb; exact ⟨cells, rfl, hal⟩
 | (i, x) :: ps, row, out, cells, hal, hb => by
  obtain ⟨hok, hg, hf, hlen, hle, hb⟩ := hb
  have hx := flat_rel hf (r.arg (P := P) (bTy P T i) x rfl hg)
  have hl2 := hx.length
  have hl1 := hal.length
  have e1 : cells.toList.length = cells.size := Array.length_toList
  have e2 : (a.eval x).cells.toList.length = (a.eval x).cells.size := Array.length_toList
  have hstep := hal.place (bOff P T i) hx
  have heq := foldl_place' (bOff P T i) (a.eval x).cells cells (by omega)
  rw [← heq] at hstep
  obtain ⟨cells', h1, h2⟩ := fill_rel r T pl hpl ps _ out _ hstep hb
  refine ⟨cells', ?_, h2⟩
  have hsz : (a.eval x).cells.size = P.cellsOf (bTy P T i) := by omega
  simp only [List.map_cons, Instr.fill, hpl i hok]
  rw [if_neg (by simp [hsz]; omega)]
  exact h1

theorem run_places (fs : List Field) (hfs : ∀ f ∈ fs, (P.info? f.type).isSome = true) (w : World) :
  (fs.mapM (m := Sem) fun f => do pure (f.offset, ← sizeOf f.type)).run P w = .ok (fs.map fun f => (f.offset, P.cellsOf f.type)) w := by
 induction fs with
 | nil => simp
 | cons f fs ih =>
  obtain ⟨i, hi⟩ := Option.isSome_iff_exists.1 (hfs f (by simp))
  simp only [List.mapM_cons, Sem.run_bind, run_szOf hi, Result.andThen_ok, Sem.run_pure, ih (fun f hf => hfs f (by simp [hf])), List.map_cons]

theorem sound_build (r : Rel T0 B σ a w X h) {o : Oper} {T : TypeId} {parts : Array (Nat × Operand)} {v : V} (hop : o.op = .build T parts) (hs : StepV P σ o.op o.type v) :
  ∃ val, (execOp a.eval o).run P w = .ok (.value val) w ∧ VRel (Tof T0 X) h σ.ob w v val := by
 simp only [hop, StepV] at hs
 obtain ⟨hz, hag, z, out, hzr, hb, rfl⟩ := hs
 obtain ⟨i, zv, hi, hzv, hsz, hzal⟩ := zero_run hz hzr
 have hzrun : (zeroValue T).run P w = .ok zv w := by simp [zeroValue, typeInfo, hi, hzv]
 have hmap : (parts.map fun (x : Nat × Operand) => (x.1, a.eval x.2)).toList = parts.toList.map fun x => (x.1, a.eval x.2) := by simp
 unfold aggT at hag
 split at hag
 ·rename_i fs hu
  by_cases hall : ∀ f ∈ fs.toList, (P.info? f.type).isSome = true
  ·have hpl : ∀ i, bOk P T i = true → (fs.toList.map fun f => (f.offset, P.cellsOf f.type)).toArray[i]? = some (bOff P T i, P.cellsOf (bTy P T i)) := by
    intro i hok
    simp only [bOk, hu, Bool.and_eq_true, decide_eq_true_eq] at hok
    have hlt := hok.2
    simp [bOff, bTy, hu, fieldOff, fieldTy, hlt]
   obtain ⟨cells', h1, h2⟩ := fill_rel r T _ hpl parts.toList z out zv.cells (hzal _ _ _ _) hb
   refine ⟨.agg cells', ?_, cells', rfl, h2⟩
   have hm := run_places (P := P) fs.toList hall w
   have : (fs.mapM (m := Sem) fun f => do pure (f.offset, ← sizeOf f.type)).run P w = .ok (fs.toList.map fun f => (f.offset, P.cellsOf f.type)).toArray w := by
    rw [Array.mapM_eq_mapM_toList]
    change ((fs.toList.mapM (m := Sem) fun f => do pure (f.offset, ← sizeOf f.type)) >>= fun l => pure l.toArray).run P w = _
    simp only [Sem.run_bind, hm, Result.andThen_ok, Sem.run_pure]
   simp only [execOp, hop, Instr.build, Sem.run_bind, hzrun, Result.andThen_ok, run_underlying hu, this, hmap, h1, Sem.run_pure]
  · -- no part can be placed: then there are none
   have hnil : parts.toList = [] := by
    cases hp : parts.toList with
    | nil => rfl
    | cons p ps =>
     obtain ⟨i, x⟩ := p
     rw [hp] at hb
     have hok := hb.1
     simp only [bOk, hu, Bool.and_eq_true] at hok
     exact absurd (by intro f hf; exact Array.all_eq_true'.1 hok.1 f (by simpa using hf)) hall
   exfalso
   -- a struct's zero row is read off its fields, all of them known
   rw [show (12 : Nat) = 11 + 1 from rfl, zrow, hu] at hzr
   simp only [Option.map_eq_some_iff] at hzr
   obtain ⟨rs, hrs, _⟩ := hzr
   apply hall
   intro f hf
   have : ∀ (l : List Field) (rs : List (List At)), l.mapM (fun f => zrow P 11 f.type) = some rs → ∀ f ∈ l, (P.info? f.type).isSome = true := by
    intro l
    induction l with
    | nil => intro rs _ f hf; cases hf
    | cons g l ih =>
     intro rs hrs f hf
     simp only [List.mapM_cons, Option.bind_eq_bind, Option.bind_eq_some_iff] at hrs
     obtain ⟨r0, hr0, rs', hrs', _⟩ := hrs
     rcases List.mem_cons.1 hf with rfl | hf
     ·rw [show (11 : Nat) = 10 + 1 from rfl, zrow] at hr0
      cases hi0 : P.info? f.type with
      | some i => rfl
      | none => simp [Program.underlying, hi0] at hr0
     ·exact ih rs' hrs' f hf
   exact this fs.toList rs hrs f hf
 ·rename_i n e hu
  cases hie : P.info? e with
  | none =>
   exfalso
   rw [show (12 : Nat) = 11 + 1 from rfl, zrow, hu] at hzr
   simp only [Option.map_eq_some_iff] at hzr
   obtain ⟨r0, hr0, _⟩ := hzr
   rw [show (11 : Nat) = 10 + 1 from rfl, zrow] at hr0
   simp [Program.underlying, hie] at hr0
  | some ie =>
   have hpl : ∀ i, bOk P T i = true → (fun i => some (i * P.cellsOf e, P.cellsOf e)) i = some (bOff P T i, P.cellsOf (bTy P T i)) := by
    intro i _
    simp [bOff, bTy, hu]
   obtain ⟨cells', h1, h2⟩ := fill_rel r T _ hpl parts.toList z out zv.cells (hzal _ _ _ _) hb
   refine ⟨.agg cells', ?_, cells', rfl, h2⟩
   simp only [execOp, hop, Instr.build, Sem.run_bind, hzrun, Result.andThen_ok, run_underlying hu, run_szOf hie, hmap, h1, Sem.run_pure]
 ·cases hag

theorem run_partCell {t : TypeId} (ht : scalarT P t = true) {cs : Array Value} {i : Nat} {v : Value} (hv : cs[i]? = some v) : (part t cs i).run P w = .ok v w := by
 unfold scalarT at ht
 split at ht <;> first | (rename_i hu; simp [part, isAgg, run_underlying hu, hv]) | cases ht

theorem eqAt_run {t : TypeId} {T' : CS} {ob : Nat → Nat → Ob} {x y : At} {u v : Value} {p : Bool} (hp : eqAt P t x y = some p) (hx : AtRel T' h ob w x u) (hy : AtRel T' h ob w y v) (d : Nat) (w' : World) :
  (Op.equalIn (d + 1) t u v).run P w' = .ok p w' := by
 unfold eqAt at hp
 split at hp
 ·rename_i k a' k' b'
  split at hp
  ·rename_i hc
   obtain ⟨rfl, hi⟩ := hc
   obtain ⟨k2, hk2⟩ := Option.isSome_iff_exists.1 hi
   cases hp
   rw [rd_int hx, rd_int hy]
   exact Go.run_equalIn_int w' d t _ _ _ _ (intT_parts hk2)
  ·cases hp
 ·split at hp
  ·rename_i hc
   cases hp
   rw [rd_bool hx, rd_bool hy]
   have hu : P.underlying t = some .bool := by
    unfold boolT at hc; split at hc <;> first | assumption | cases hc
   exact Go.run_equalIn_bool' w' d t _ _ hu
  ·cases hp
 ·split at hp
  ·rename_i hc
   cases hp
   rw [rd_str hx, rd_str hy]
   rw [Go.run_equalIn_string w' d t _ _ (strT_parts hc), str_eq]
  ·cases hp
 ·cases hp

theorem eqRow_run {T' : CS} {ob : Nat → Nat → Ob} (d : Nat) (cs ds : Array Value) (w' : World) : ∀ (fs : List Field) (i : Nat) (xs ys : List At) (q : Bool), eqFieldsOk P fs i = true → eqRow P fs xs ys = some q →
  All2 (AtRel T' h ob w) xs (cs.toList.drop i) → All2 (AtRel T' h ob w) ys (ds.toList.drop i) → (Op.eqFields (d + 1) cs ds fs).run P w' = .ok q w'
 | [], i, xs, ys, q, _, hq, _, _ => by simp [eqRow] at hq; subst hq; simp [Op.eqFields]
 | f :: fs, i, [], ys, q, _, hq, _, _ => by simp [eqRow] at hq
 | f :: fs, i, x :: xs, [], q, _, hq, _, _ => by simp [eqRow] at hq
 | f :: fs, i, x :: xs, y :: ys, q, hok, hq, hx, hy => by
  simp only [eqFieldsOk, Bool.and_eq_true, decide_eq_true_eq, beq_iff_eq] at hok
  obtain ⟨⟨⟨hn, ho⟩, hsc⟩, hok⟩ := hok
  simp only [eqRow] at hq
  split at hq
  ·rename_i p q' hp hq'
   cases hq
   cases hcd : cs.toList.drop i with
   | nil => rw [hcd] at hx; cases hx
   | cons u us =>
    cases hdd : ds.toList.drop i with
    | nil => rw [hdd] at hy; cases hy
    | cons v vs =>
     rw [hcd] at hx; rw [hdd] at hy
     cases hx with
     | cons hxu hx =>
      cases hy with
      | cons hyv hy =>
       have hu : cs[i]? = some u := by
        have : (cs.toList.drop i)[0]? = some u := by rw [hcd]; rfl
        simpa using this
       have hv : ds[i]? = some v := by
        have : (ds.toList.drop i)[0]? = some v := by rw [hdd]; rfl
        simpa using this
       have hus : cs.toList.drop (i + 1) = us := by rw [← List.drop_drop, hcd]; rfl
       have hvs : ds.toList.drop (i + 1) = vs := by rw [← List.drop_drop, hdd]; rfl
       have ih := eqRow_run d cs ds w' fs (i + 1) xs ys q' hok hq' (by rw [hus]; exact hx) (by rw [hvs]; exact hy)
       subst ho
       simp only [Op.eqFields, if_pos hn, Sem.run_bind, run_partCell hsc hu, run_partCell hsc hv, Result.andThen_ok, eqAt_run hp hxu hyv d w']
       cases p
       ·simp
       ·simpa using ih
  ·cases hq

theorem eqAgg_run {T : TypeId} {T' : CS} {ob : Nat → Nat → Ob} {xs ys : List At} {u v : Value} {q : Bool} (hok : eqOk P T = true) (hq : eqRow P (P.fieldsOf T).toList xs ys = some q)
  (hx : VRel T' h ob w (.agg xs) u) (hy : VRel T' h ob w (.agg ys) v) (op : BinOp) (x y : Operand) (w' : World) :
  (eqGuard op T x y u v).run P w' = .ok () w' ∧ (binOp .eql T u v).run P w' = .ok (.bool q) w' ∧ (binOp .neq T u v).run P w' = .ok (.bool (!q)) w' := by
 obtain ⟨cs, rfl, hcs⟩ := hx
 obtain ⟨ds, rfl, hds⟩ := hy
 unfold eqOk at hok
 split at hok
 ·rename_i fs hu
  simp only [Bool.and_eq_true, Bool.not_eq_true'] at hok
  have hf : P.fieldsOf T = fs := by simp [Program.fieldsOf, hu]
  have hu' : P.underlying T = some (.struct (P.fieldsOf T)) := by rw [hf]; exact hu
  have hrun : (Op.equalIn 10000 T (.agg cs) (.agg ds)).run P w' = .ok q w' := by
   rw [show (10000 : Nat) = 9999 + 1 from rfl, Go.run_equalIn_struct w' 9999 T cs ds hu' hok.1.1, show (9999 : Nat) = 9998 + 1 from rfl]
   exact eqRow_run 9998 cs ds w' _ 0 xs ys q (by rw [hf]; exact hok.2) hq (by simpa using hcs) (by simpa using hds)
  refine ⟨Go.run_eqGuard_agg w' op T x y cs ds hok.1.2, ?_, ?_⟩
  ·rw [Go.run_eql_struct, hrun]; rfl
  ·rw [Go.run_neq_struct, hrun]; rfl
 ·cases hok
end
end Go.Vm
namespace Go.Vm
section
variable {P : Program} {T0 : CS} {B : Nat → Prop} {σ : St} {a : Act} {w : World} {X : Nat → Prop} {h : Nat → Nat → Hd}

theorem sound_move (r : Rel T0 B σ a w X h) {o : Oper} {x : Operand} {v : V} (hop : o.op = .move x ∨ o.op = .assign x) (hs : StepV P σ o.op o.type v) :
  ∃ val, (execOp a.eval o).run P w = .ok (.value val) w ∧ VRel (Tof T0 X) h σ.ob w v val := by
 rcases hop with hop | hop <;>
 ·simp only [hop, StepV] at hs
  subst hs
  exact ⟨a.eval x, by simp [execOp, hop], r.look _ x⟩

theorem sound_pick (r : Rel T0 B σ a w X h) {o : Oper} {c x y : Operand} {v : V} (hop : o.op = .pick c x y) (hs : StepV P σ o.op o.type v) :
  ∃ val, (execOp a.eval o).run P w = .ok (.value val) w ∧ VRel (Tof T0 X) h σ.ob w v val := by
 simp only [hop, StepV] at hs
 obtain ⟨bc, p, q, hg, hc, hp, hq, hgp, hgq, rfl⟩ := hs
 have he := rd_bool (r.arg (P := P) o.type c hc hg)
 cases bc with
 | true =>
  have hx := rd_bool (r.arg (P := P) o.type x (hp rfl) (hgp rfl))
  exact ⟨.bool p, by simp [execOp, hop, he, asBool, hx], .bool _⟩
 | false =>
  have hy := rd_bool (r.arg (P := P) o.type y (hq rfl) (hgq rfl))
  exact ⟨.bool q, by simp [execOp, hop, he, asBool, hy], .bool _⟩

theorem run_eqGuard_plain (op : BinOp) (T : TypeId) (x y : Operand) {v u : Value} (hv : ∀ cs, v ≠ .agg cs) (hn : v ≠ .nilIface) : (eqGuard op T x y v u).run P w = .ok () w := by
 unfold eqGuard
 cases op <;> simp <;> (split <;> first | exact absurd rfl hn | exact absurd rfl (hv _) | simp)

theorem sound_bin (r : Rel T0 B σ a w X h) {o : Oper} {op : BinOp} {T T' : TypeId} {x y : Operand} {v : V} (hop : o.op = .binOp op T x y T') (hs : StepV P σ o.op o.type v) :
  ∃ val, (execOp a.eval o).run P w = .ok (.value val) w ∧ VRel (Tof T0 X) h σ.ob w v val := by
 simp only [hop, StepV] at hs
 obtain ⟨hgx, hgy, hs⟩ := hs
 have hx := r.arg (P := P) T x rfl hgx
 have hy := r.arg (P := P) T y rfl hgy
 unfold binOK at hs
 split at hs
 ·rename_i k m k' n heq heq'
  rw [heq] at hx; rw [heq'] at hy
  have ex := rd_int hx
  have ey := rd_int hy
  obtain ⟨d, rfl, val, hr, hd⟩ := run_binInt (P := P) (t := T) hs.1 hs.2 w
  refine ⟨val, ?_, hd _ _⟩
  simp only [execOp, hop, ex, ey, Sem.run_bind, run_eqGuard_plain op T x y (v := .int k m) (u := .int k' n) (by simp) (by simp), Result.andThen_ok, hr, Sem.run_pure]
 ·rename_i m n heq heq'
  rw [heq] at hx; rw [heq'] at hy
  have ex := rd_str hx
  have ey := rd_str hy
  obtain ⟨d, rfl, val, hr, hd⟩ := run_binStr (P := P) (t := T) hs w
  refine ⟨val, ?_, hd _ _⟩
  simp only [execOp, hop, ex, ey, Sem.run_bind, run_eqGuard_plain op T x y (v := .string m) (u := .string n) (by simp) (by simp), Result.andThen_ok, hr, Sem.run_pure]
 ·rename_i m n heq heq'
  rw [heq] at hx; rw [heq'] at hy
  have ex := rd_bool hx
  have ey := rd_bool hy
  obtain ⟨d, rfl, val, hr, hd⟩ := run_binBool (P := P) (t := T) hs.1 hs.2 w
  refine ⟨val, ?_, hd _ _⟩
  simp only [execOp, hop, ex, ey, Sem.run_bind, run_eqGuard_plain op T x y (v := .bool m) (u := .bool n) (by simp) (by simp), Result.andThen_ok, hr, Sem.run_pure]
 ·rename_i xs ys heq heq'
  rw [heq] at hx; rw [heq'] at hy
  obtain ⟨hok, q, hq, hs⟩ := hs
  obtain ⟨h1, h2, h3⟩ := eqAgg_run (P := P) hok hq hx hy op x y w
  rcases hs with ⟨rfl, rfl⟩ | ⟨rfl, rfl⟩
  ·exact ⟨.bool q, by simp only [execOp, hop, Sem.run_bind, h1, Result.andThen_ok, h2, Sem.run_pure], .bool _⟩
  ·exact ⟨.bool (!q), by simp only [execOp, hop, Sem.run_bind, h1, Result.andThen_ok, h3, Sem.run_pure], .bool _⟩
 ·exact hs.elim

theorem sound_un (r : Rel T0 B σ a w X h) {o : Oper} {op : UnOp} {T : TypeId} {x : Operand} {v : V} (hop : o.op = .unOp op T x) (hs : StepV P σ o.op o.type v) :
  ∃ val, (execOp a.eval o).run P w = .ok (.value val) w ∧ VRel (Tof T0 X) h σ.ob w v val := by
 simp only [hop, StepV] at hs
 obtain ⟨hg, hs⟩ := hs
 have hx := r.arg (P := P) 0 x rfl hg
 split at hs
 ·rename_i b heq
  rw [heq] at hx
  subst hs
  have he := rd_bool hx
  exact ⟨.bool (!b), by simp [execOp, hop, he, Op.unary], .bool _⟩
 ·rename_i k n heq
  rw [heq] at hx
  subst hs
  have he := rd_int hx
  exact ⟨.int k (k.wrap (-n)), by simp [execOp, hop, he, Op.unary, Op.intArith], .int _ _⟩
 ·exact hs.elim

theorem sound_convert (r : Rel T0 B σ a w X h) {o : Oper} {S T : TypeId} {x : Operand} {v : V} (hop : o.op = .convert S T x) (hS : (P.underlying S).isSome = true) (hs : StepV P σ o.op o.type v) :
  ∃ val, (execOp a.eval o).run P w = .ok (.value val) w ∧ VRel (Tof T0 X) h σ.ob w v val := by
 simp only [hop, StepV] at hs
 obtain ⟨hg, _, hs⟩ := hs
 have hx := r.arg (P := P) 0 x rfl hg
 split at hs
 ·rename_i k' n heq
  rw [heq] at hx
  obtain ⟨k, hk, rfl⟩ := hs
  have he := rd_int hx
  obtain ⟨d, hd⟩ := Option.isSome_iff_exists.1 hS
  exact ⟨.int k (k.wrap n), by simp [execOp, hop, he, convert, run_underlying hd, run_underlying (intT_parts hk), Conv.intToInt], .int _ _⟩
 ·exact hs.elim

theorem sound_extract (r : Rel T0 B σ a w X h) {o : Oper} {x : Operand} {i : Nat} {v : V} (hop : o.op = .extract x i) (hs : StepV P σ o.op o.type v) :
  ∃ val, (execOp a.eval o).run P w = .ok (.value val) w ∧ VRel (Tof T0 X) h σ.ob w v val := by
 simp only [hop, StepV] at hs
 obtain ⟨hg, hs⟩ := hs
 have hx := r.arg (P := P) 0 x rfl hg
 split at hs
 ·rename_i xs heq
  rw [heq] at hx
  obtain ⟨vs, he, hal⟩ := hx
  obtain ⟨val, hval, hr⟩ := hal.get i v hs.1
  have : vs[i]? = some val := by simpa using hval
  exact ⟨val, by simp [execOp, hop, he, Instr.extract, this], hr.up⟩
 ·exact hs.elim

theorem sound_callV (r : Rel T0 B σ a w X h) {o : Oper} {c : Call} {v : V} (hop : o.op = .call c) (hs : StepV P σ o.op o.type v) :
  ∃ val, (execOp a.eval o).run P w = .ok (.value val) w ∧ VRel (Tof T0 X) h σ.ob w v val := by
 simp only [hop, StepV] at hs
 obtain ⟨callee, args, argTypes⟩ := c
 simp only at hs
 split at hs
 ·rename_i x t ha ht
  obtain rfl : args = #[x] := by apply Array.toList_inj.1; simpa using ha
  obtain rfl : argTypes = #[t] := by apply Array.toList_inj.1; simpa using ht
  obtain ⟨hg, hs⟩ := hs
  have hx := r.arg (P := P) t x rfl hg
  split at hs
  ·rename_i s heq
   rw [heq] at hx
   obtain ⟨hst, rfl⟩ := hs
   have he := rd_str hx
   exact ⟨.int .i64 s.size, by simp [execOp, hop, resolve, invoke, builtin, he, Builtin.len_, run_underlying (strT_parts hst), goInt], .int _ _⟩
  ·rename_i size rows heq
   rw [heq] at hx
   obtain ⟨hst, rfl⟩ := hs
   obtain ⟨ti, hu, _, _⟩ := sliceT_parts hst
   obtain ⟨base, cap, he, _, _⟩ := rd_len (show Rd _ _ _ _ from hx)
   exact ⟨.int .i64 rows.length, by simp [execOp, hop, resolve, invoke, builtin, he, Builtin.len_, run_underlying hu, goInt], .int _ _⟩
  ·rename_i size heq
   rw [heq] at hx
   obtain ⟨hst, rfl⟩ := hs
   obtain ⟨ti, hu, _, _⟩ := sliceT_parts hst
   have he : a.eval x = .slice none 0 0 := hx
   exact ⟨.int .i64 0, by simp [execOp, hop, resolve, invoke, builtin, he, Builtin.len_, run_underlying hu, goInt], .int _ _⟩
  ·rename_i u j lo len heq
   rw [heq] at hx
   obtain ⟨hst, ho, rfl⟩ := hs
   obtain ⟨ti, hu, _, _⟩ := sliceT_parts hst
   have hhd : ∃ base cap, a.eval x = .slice base len cap := by
    rcases ho with ⟨q, size, rows, ho⟩ | ⟨size, rows, ho⟩
    ·obtain ⟨_, _, base, cap, he, _, _, _, _⟩ := hx.2.1 _ _ _ ho
     exact ⟨base, cap, he⟩
    ·obtain ⟨_, _, base, cap, he, _, _, _, _⟩ := hx.2.2 _ _ ho
     exact ⟨base, cap, he⟩
   obtain ⟨base, cap, he⟩ := hhd
   exact ⟨.int .i64 len, by simp [execOp, hop, resolve, invoke, builtin, he, Builtin.len_, run_underlying hu, goInt], .int _ _⟩
  ·exact hs.elim
 ·rename_i x y ha
  obtain rfl : args = #[x, y] := by apply Array.toList_inj.1; simpa using ha
  obtain ⟨k, m, n, hx, hy, rfl⟩ := hs
  have ex := lkInt_eval r hx
  have ey := lkInt_eval r hy
  exact ⟨.int k (if n > m then n else m), by simp [execOp, hop, resolve, invoke, builtin, ex, ey, Builtin.max_, Builtin.max2], .int _ _⟩
 ·rename_i x y ha
  obtain rfl : args = #[x, y] := by apply Array.toList_inj.1; simpa using ha
  obtain ⟨k, m, n, hx, hy, rfl⟩ := hs
  have ex := lkInt_eval r hx
  have ey := lkInt_eval r hy
  exact ⟨.int k (if n < m then n else m), by simp [execOp, hop, resolve, invoke, builtin, ex, ey, Builtin.min_, Builtin.min2], .int _ _⟩
 ·exact hs.elim

theorem stepV_sound (r : Rel T0 B σ a w X h) {o : Oper} {v : V} (hs : StepV P σ o.op o.type v) :
  ∃ val, (execOp a.eval o).run P w = .ok (.value val) w ∧ VRel (Tof T0 X) h σ.ob w v val := by
 cases hop : o.op with
 | move x => exact sound_move r (.inl hop) hs
 | assign x => exact sound_move r (.inr hop) hs
 | pick c x y => exact sound_pick r hop hs
 | load T x => exact sound_load r hop hs
 | fieldAddr T x f => exact sound_fieldAddr r hop hs
 | indexAddr T x i => exact sound_indexAddr r hop hs
 | index T x i => exact sound_index r hop hs
 | field T x f => exact sound_field r hop hs
 | slice T x lo hi m =>
  cases m with
  | none => exact sound_slice r hop hs
  | some m => rw [hop] at hs; exact hs.elim
 | binOp op T x y T' => exact sound_bin r hop hs
 | unOp op T x => exact sound_un r hop hs
 | convert S T x => rw [hop] at hs; exact sound_convert r hop hs.2.1 (by rw [hop]; exact hs)
 | extract x i => exact sound_extract r hop hs
 | call c => exact sound_callV r hop hs
 | build T ps => exact sound_build r hop hs
 | _ => rw [hop] at hs; exact hs.elim
end
end Go.Vm
namespace Go.Vm

def At.ref (d : Nat) : At → Bool
 | .sref t _ _ _ => t == d
 | .ptr t _ _ _ => t == d
 | .bptr t _ => t == d
 | .fn _ t => t == d
 | .tref t _ _ _ => t == d
 | _ => false
def atsRef (d : Nat) : List At → Bool
 | [] => false
 | x :: xs => x.ref d || atsRef d xs
def V.ref1 (d : Nat) : V → Bool
 | .one x => x.ref d
 | .agg xs => atsRef d xs
 | _ => false
def vsRef (d : Nat) : List V → Bool
 | [] => false
 | x :: xs => x.ref1 d || vsRef d xs
def V.ref (d : Nat) : V → Bool
 | .tup xs => vsRef d xs
 | .cnd _ x => x.ref1 d || (match x with | .tup xs => vsRef d xs | _ => false)
 | .one x => x.ref d
 | .agg xs => atsRef d xs
 | .fix _ x => x.ref1 d || (match x with | .tup xs => vsRef d xs | _ => false)
 | .any => false
def obsRef (d : Nat) : List Ob → Bool
 | [] => false
 | .box cells :: os => atsRef d cells || obsRef d os
 | .lit _ rows :: os => atsRef d rows.flatten || obsRef d os
 | _ :: os => obsRef d os
def freshFrom (d : Nat) : Nat → St → Bool
 | _, [] => true
 | k, e :: σ => (k == d || (!e.1.ref d && !obsRef d e.2)) && freshFrom d (k + 1) σ
def St.fresh (σ : St) (d : Nat) : Bool := decide (d < σ.length) && freshFrom d 0 σ

theorem freshFrom_get {d : Nat} : ∀ {σ : St} {k : Nat}, freshFrom d k σ = true → ∀ t e, σ[t]? = some e → k + t ≠ d → e.1.ref d = false ∧ obsRef d e.2 = false
 | [], _, _, t, e, he, _ => by simp at he
 | e0 :: σ, k, hf, t, e, he, hne => by
  simp only [freshFrom, Bool.and_eq_true, Bool.or_eq_true, beq_iff_eq, Bool.not_eq_true'] at hf
  cases t with
  | zero =>
   simp at he; subst he
   rcases hf.1 with h | h
   ·omega
   ·exact h
  | succ t => exact freshFrom_get hf.2 t e (by simpa using he) (by omega)
theorem St.fresh_get {σ : St} {d : Nat} (hf : σ.fresh d = true) (t : Nat) (hne : t ≠ d) : (σ.get t).ref d = false := by
 simp only [St.fresh, Bool.and_eq_true] at hf
 unfold St.get
 cases he : σ[t]? with
 | none => rfl
 | some e => exact (freshFrom_get hf.2 t e he (by omega)).1
theorem obsRef_in {d : Nat} : ∀ {os : List Ob}, obsRef d os = false → ∀ j cells, obIn os j = .box cells → atsRef d cells = false
 | [], _, j, cells, h => by simp [obIn] at h
 | o :: os, hr, j, cells, h => by
  cases j with
  | zero =>
   simp [obIn] at h; subst h
   simp [obsRef] at hr; exact hr.1
  | succ j =>
   have : obIn os j = .box cells := by simpa [obIn] using h
   refine obsRef_in (os := os) ?_ j cells this
   cases o <;> simp_all [obsRef]
theorem obsRef_lit {d : Nat} : ∀ {os : List Ob}, obsRef d os = false → ∀ j size rows, obIn os j = .lit size rows → atsRef d rows.flatten = false
 | [], _, j, _, _, h => by simp [obIn] at h
 | o :: os, hr, j, size, rows, h => by
  cases j with
  | zero =>
   simp [obIn] at h; subst h
   simp [obsRef] at hr; exact hr.1
  | succ j =>
   have : obIn os j = .lit size rows := by simpa [obIn] using h
   refine obsRef_lit (os := os) ?_ j size rows this
   cases o <;> simp_all [obsRef]
theorem St.fresh_lit {σ : St} {d : Nat} (hf : σ.fresh d = true) (t j : Nat) (hne : t ≠ d) (size : Nat) (rows : List (List At)) (ho : σ.ob t j = .lit size rows) : atsRef d rows.flatten = false := by
 simp only [St.fresh, Bool.and_eq_true] at hf
 unfold St.ob at ho
 cases he : σ[t]? with
 | none => rw [he] at ho; cases ho
 | some e => rw [he] at ho; exact obsRef_lit (freshFrom_get hf.2 t e he (by omega)).2 j size rows ho
theorem St.fresh_ob {σ : St} {d : Nat} (hf : σ.fresh d = true) (t j : Nat) (hne : t ≠ d) (cells : List At) (ho : σ.ob t j = .box cells) : atsRef d cells = false := by
 simp only [St.fresh, Bool.and_eq_true] at hf
 unfold St.ob at ho
 cases he : σ[t]? with
 | none => rw [he] at ho; cases ho
 | some e => rw [he] at ho; exact obsRef_in (freshFrom_get hf.2 t e he (by omega)).2 j cells ho
theorem St.fresh_lt {σ : St} {d : Nat} (hf : σ.fresh d = true) : d < σ.length := by
 simp only [St.fresh, Bool.and_eq_true, decide_eq_true_eq] at hf; exact hf.1

def Cpt (h h' : Nat → Nat → Hd) (ob ob' : Nat → Nat → Ob) (t j : Nat) : Prop :=
 (∀ q size rows, ob' t j = .arr q size rows → h' t j = h t j ∧ ∃ rows0, ob t j = .arr q size rows0 ∧ rows0.length = rows.length) ∧
 (∀ size rows, ob' t j = .lit size rows → h' t j = h t j ∧ ∃ rows0, ob t j = .lit size rows0 ∧ rows0.length = rows.length) ∧
 (∀ cells, ob' t j = .box cells → h' t j = h t j ∧ ∃ cells0, ob t j = .box cells0)
theorem Cpt.same {h h' : Nat → Nat → Hd} {ob ob' : Nat → Nat → Ob} {t j : Nat} (hh : h' t j = h t j) (ho : ob' t j = ob t j) : Cpt h h' ob ob' t j :=
 ⟨fun q size rows e => ⟨hh, rows, by rw [← ho]; exact e, rfl⟩, fun size rows e => ⟨hh, rows, by rw [← ho]; exact e, rfl⟩, fun cells e => ⟨hh, cells, by rw [← ho]; exact e⟩⟩

section
variable {T T' : CS} {h h' : Nat → Nat → Hd} {ob ob' : Nat → Nat → Ob} {w w' : World} {d : Nat}

theorem AtRel.carry (hT : ∀ b k v, T b k → w.cell? ⟨b, k, none⟩ = some v → w'.cell? ⟨b, k, none⟩ = some v ∧ T' b k) (hc : ∀ t j, t ≠ d → Cpt h h' ob ob' t j)
  {x : At} {v : Value} (hx : x.ref d = false) (r : AtRel T h ob w x v) : AtRel T' h' ob' w' x v := by
 cases x with
 | any => exact r
 | d x => exact Rd.mono hT r
 | nil s => exact r
 | sref t j lo len =>
  have ht : t ≠ d := by simpa [At.ref] using hx
  refine ⟨r.1, fun q size rows ho => ?_, fun size rows ho => ?_⟩
  ·obtain ⟨hh, rows0, ho0, hl⟩ := (hc t j ht).1 q size rows ho
   rw [hh, ← hl]; exact r.2.1 q size rows0 ho0
  ·obtain ⟨hh, rows0, ho0, hl⟩ := (hc t j ht).2.1 size rows ho
   rw [hh, ← hl]; exact r.2.2 size rows0 ho0
 | ptr t j i c =>
  have ht : t ≠ d := by simpa [At.ref] using hx
  refine ⟨r.1, fun q size rows ho => ?_⟩
  obtain ⟨hh, rows0, ho0, hl⟩ := (hc t j ht).1 q size rows ho
  rw [hh]; exact r.2 q size rows0 ho0
 | bptr t c =>
  have ht : t ≠ d := by simpa [At.ref] using hx
  refine ⟨r.1, fun cells ho => ?_⟩
  obtain ⟨hh, cells0, ho0⟩ := (hc t 0 ht).2.2 cells ho
  rw [hh]; exact r.2 cells0 ho0
 | fn f t =>
  have ht : t ≠ d := by simpa [At.ref] using hx
  refine ⟨r.1, fun cells ho => ?_⟩
  obtain ⟨hh, cells0, ho0⟩ := (hc t 0 ht).2.2 cells ho
  rw [hh]; exact r.2 cells0 ho0
 | tref t j i c =>
  have ht : t ≠ d := by simpa [At.ref] using hx
  refine ⟨r.1, fun size rows ho => ?_⟩
  obtain ⟨hh, rows0, ho0, hl⟩ := (hc t j ht).1 true size rows ho
  rw [hh]; exact r.2 size rows0 ho0
 | rptr rr c =>
  obtain ⟨b, off, g, e, hk⟩ := r
  exact ⟨b, off, g, e, fun k d hd => ⟨(hT _ _ _ (hk k d hd).2.1 (hk k d hd).1).1, (hT _ _ _ (hk k d hd).2.1 (hk k d hd).1).2, Rd.mono hT (hk k d hd).2.2⟩⟩
theorem ats_carry (hT : ∀ b k v, T b k → w.cell? ⟨b, k, none⟩ = some v → w'.cell? ⟨b, k, none⟩ = some v ∧ T' b k) (hc : ∀ t j, t ≠ d → Cpt h h' ob ob' t j)
  {xs : List At} {vs : List Value} (hx : atsRef d xs = false) (r : All2 (AtRel T h ob w) xs vs) : All2 (AtRel T' h' ob' w') xs vs := by
 induction r with
 | nil => exact .nil
 | cons r _ ih =>
  simp only [atsRef, Bool.or_eq_false_iff] at hx
  exact .cons (AtRel.carry hT hc hx.1 r) (ih hx.2)
theorem V1Rel.carry (hT : ∀ b k v, T b k → w.cell? ⟨b, k, none⟩ = some v → w'.cell? ⟨b, k, none⟩ = some v ∧ T' b k) (hc : ∀ t j, t ≠ d → Cpt h h' ob ob' t j)
  {x : V} {v : Value} (hx : x.ref1 d = false) (r : V1Rel T h ob w x v) : V1Rel T' h' ob' w' x v := by
 cases x with
 | any => exact r
 | one x => exact AtRel.carry hT hc hx r
 | agg xs => obtain ⟨cs, e, r⟩ := r; exact ⟨cs, e, ats_carry hT hc hx r⟩
 | tup xs => exact r.elim
 | cnd g x => exact r.elim
 | fix u x => exact r.elim
theorem VRel.carry (hT : ∀ b k v, T b k → w.cell? ⟨b, k, none⟩ = some v → w'.cell? ⟨b, k, none⟩ = some v ∧ T' b k) (hc : ∀ t j, t ≠ d → Cpt h h' ob ob' t j)
  {x : V} {v : Value} (hx : x.ref d = false) (r : VRel T h ob w x v) : VRel T' h' ob' w' x v := by
 cases x with
 | any => exact r
 | one x => exact AtRel.carry hT hc hx r
 | agg xs => obtain ⟨cs, e, r⟩ := r; exact ⟨cs, e, ats_carry hT hc hx r⟩
 | tup xs =>
  obtain ⟨vs, e, r⟩ := r
  refine ⟨vs, e, ?_⟩
  clear e
  generalize vs.toList = vl at r
  simp only [V.ref] at hx
  induction r with
  | nil => exact .nil
  | cons r _ ih =>
   simp only [vsRef, Bool.or_eq_false_iff] at hx
   exact .cons (V1Rel.carry hT hc hx.1 r) (ih hx.2)
 | cnd g x =>
  simp only [V.ref, Bool.or_eq_false_iff] at hx
  exact ⟨fun hg => V1Rel.carry hT hc hx.1 (r.1 hg), r.2⟩
 | fix u x =>
  simp only [V.ref, Bool.or_eq_false_iff] at hx
  exact ⟨r.1, V1Rel.carry hT hc hx.1 r.2⟩
end

section
variable {P : Program} {T0 : CS} {B : Nat → Prop} {σ : St} {a : Act} {w w' : World} {X X' : Nat → Prop} {h : Nat → Nat → Hd}

theorem Rel.Tlt (r : Rel T0 B σ a w X h) {b k : Nat} (hb : Tof T0 X b k) : b < w.heap.size := by
 rcases hb with hb | hb
 ·exact r.hB b (r.hT b k hb)
 ·exact (r.hX b hb).2

theorem owns_keep {e : TypeId} {size n : Nat} {v : Value} {xs : List Value} (hb : ∀ b, blk v = some b → w'.heap[b]? = w.heap[b]?) (ho : w.ownsRow 0 e size v n xs) : w'.ownsRow 0 e size v n xs := by
 refine ⟨ho.1, ?_⟩
 rcases ho.2 with hn | ⟨g, cap, cur, rfl, h0, hg, rest⟩
 ·exact .inl hn
 ·exact .inr ⟨g, cap, cur, rfl, h0, by rw [hb g rfl]; exact hg, rest⟩
theorem Own.keep {v : Value} {d : D} {S : Nat → Prop} (hb : ∀ b, S b → w'.heap[b]? = w.heap[b]?) (ho : Own w v d S) : Own w' v d S := by
 induction ho with
 | int k n S => exact .int k n S
 | bool b S => exact .bool b S
 | str s S => exact .str s S
 | sl v size rows S e xs Sk ho hz hb' hl hk hs hd ih =>
  exact .sl v size rows S e xs Sk (owns_keep (fun b h => hb b (hb' b h)) ho) hz hb' hl (fun k x d hx hd' => ih k x d hx hd' (fun b h => hb b (hs k b h).1)) hs hd
theorem Own.mono {v : Value} {d : D} {S S' : Nat → Prop} (hS : ∀ b, S b → S' b) (ho : Own w v d S) : Own w v d S' := by
 cases ho with
 | int k n S => exact .int k n S'
 | bool b S => exact .bool b S'
 | str s S => exact .str s S'
 | sl v size rows S e xs Sk ho hz hb' hl hk hs hd => exact .sl v size rows S' e xs Sk ho hz (fun b h => hS b (hb' b h)) hl hk (fun k b h => ⟨hS b (hs k b h).1, (hs k b h).2⟩) hd
theorem OwnC.keep {xs : List Value} {ds : List D} {S : Nat → Prop} (hb : ∀ b, S b → w'.heap[b]? = w.heap[b]?) (ho : OwnC w xs ds S) : OwnC w' xs ds S := by
 obtain ⟨hl, Sk, h1, h2, h3⟩ := ho
 exact ⟨hl, Sk, fun k x d hx hd => (h1 k x d hx hd).keep (fun b h => hb b (h2 k b h)), h2, h3⟩

theorem ObRel.keep {T T' : CS} {h h' : Nat → Nat → Hd} {ob ob' : Nat → Nat → Ob} {d : Nat} {hd : Hd} {o : Ob}
  (hT : ∀ b k v, T b k → w.cell? ⟨b, k, none⟩ = some v → w'.cell? ⟨b, k, none⟩ = some v ∧ T' b k) (hc : ∀ t j, t ≠ d → Cpt h h' ob ob' t j)
  (hub : o ≠ .none → ∀ b, blk hd.v = some b → hd.u b) (hb : o ≠ .none → ∀ b, hd.u b → w'.heap[b]? = w.heap[b]?) (hr : obsRef d [o] = false) (r : ObRel T h ob w hd o) : ObRel T' h' ob' w' hd o := by
 cases o with
 | none => trivial
 | box cells =>
  obtain ⟨b, cs, e, hv, hh, hal⟩ := r
  simp only [obsRef, Bool.or_false] at hr
  exact ⟨b, cs, e, hv, by rw [hb (by simp) b (hub (by simp) b (by rw [hv]; rfl))]; exact hh, ats_carry hT hc hr hal⟩
 | arr q size rows =>
  have hk : ∀ {e : TypeId} {n : Nat} {xs : List Value}, w.ownsRow 0 e size hd.v n xs → w'.ownsRow 0 e size hd.v n xs := fun ho => owns_keep (fun b h => hb (by simp) b (hub (by simp) b h)) ho
  cases q with
  | false =>
   obtain ⟨e, xs, ho, hz, hal⟩ := r
   exact ⟨e, xs, hk ho, hz, hal.imp fun _ _ => Rd.mono hT⟩
  | true =>
   obtain ⟨e, xs, ho, hz, hal, hn⟩ := r
   exact ⟨e, xs, hk ho, hz, hal.keep (fun b h => hb (by simp) b h.1), hn⟩
 | lit size rows =>
  obtain ⟨e, xs, ho, hz, hal⟩ := r
  simp only [obsRef, Bool.or_false] at hr
  exact ⟨e, xs, owns_keep (fun b h => hb (by simp) b (hub (by simp) b h)) ho, hz, ats_carry hT hc hr hal⟩
theorem St.fresh_obs {σ : St} {d : Nat} (hf : σ.fresh d = true) (t j : Nat) (hne : t ≠ d) : obsRef d [σ.ob t j] = false := by
 cases ho : σ.ob t j with
 | none => rfl
 | box cells => simp [obsRef, St.fresh_ob hf t j hne cells ho]
 | arr q size rows => rfl
 | lit size rows => simp only [obsRef, St.fresh_lit hf t j hne size rows ho, Bool.or_false]

theorem Rel.newG (r : Rel T0 B σ a w X h) {d : Nat} (hf : σ.fresh d = true) (M : Nat → Prop) (hsz : w.heap.size ≤ w'.heap.size) (hg : ∀ k, k < w.heap.size → ¬ M k → w'.heap[k]? = w.heap[k]?)
  (hm : ∀ b, M b → ¬ B b ∧ ¬ X b ∧ ∀ t j, t ≠ d → σ.ob t j ≠ .none → ¬ (h t j).u b) (hX : ∀ b, X b → X' b) (hX' : ∀ b, X' b → X b ∨ (w.heap.size ≤ b ∧ b < w'.heap.size))
  (v : V) (val : Value) (os : List Ob) (hd : Nat → Hd)
  (hv : VRel (Tof T0 X') (fun t j => if t = d then hd j else h t j) (σ.new d v os).ob w' v val)
  (hos : ∀ j, ObRel (Tof T0 X') (fun t j => if t = d then hd j else h t j) (σ.new d v os).ob w' (hd j) (obIn os j))
  (hub : ∀ j b, obIn os j ≠ .none → blk (hd j).v = some b → (hd j).u b)
  (hown : ∀ j b, obIn os j ≠ .none → (hd j).u b → (w.heap.size ≤ b ∨ M b) ∧ ¬ X' b ∧ b < w'.heap.size)
  (hinj : ∀ j j' b, obIn os j ≠ .none → obIn os j' ≠ .none → (hd j).u b → (hd j').u b → j = j') :
  Rel T0 B (σ.new d v os) (a.put (some d) val) w' X' (fun t j => if t = d then hd j else h t j) := by
 have hlt := St.fresh_lt hf
 have hTm : ∀ b k, Tof T0 X b k → ¬ M b := by
  intro b k hb hmb
  rcases hb with hb | hb
  ·exact (hm b hmb).1 (r.hT b k hb)
  ·exact (hm b hmb).2.1 hb
 have hT : ∀ b k v, Tof T0 X b k → w.cell? ⟨b, k, none⟩ = some v → w'.cell? ⟨b, k, none⟩ = some v ∧ Tof T0 X' b k := by
  intro b k v hb hcell
  refine ⟨?_, hb.imp id (hX b)⟩
  rw [World.cell?_of_block (hg b (r.Tlt hb) (hTm b k hb))]; exact hcell
 have hc : ∀ t j, t ≠ d → Cpt h (fun t j => if t = d then hd j else h t j) σ.ob (σ.new d v os).ob t j := by
  intro t j hne
  have he : (σ.new d v os).ob t j = σ.ob t j := by rw [St.ob_new, if_neg (fun hh => hne hh.1)]
  exact Cpt.same (by simp [hne]) he
 refine ⟨by simp [Act.put, r.size, St.new_length], r.defers, fun b hb => Nat.lt_of_lt_of_le (r.hB b hb) hsz, fun b hb => ?_, r.hT, fun t ht => ?_, fun t j => ?_, fun t j b ho hb => ?_, fun t j b ho hb => ?_, fun t j t' j' b ho ho' hb hb' => ?_⟩
 ·rcases hX' b hb with hb | hb
  ·have := r.hX b hb; exact ⟨this.1, by omega⟩
  ·exact ⟨fun hbb => by have := r.hB b hbb; omega, hb.2⟩
 ·rw [St.new_length] at ht
  rw [St.get_new]
  by_cases hd' : t = d
  ·subst hd'
   simp only [hlt, and_self, if_true]
   have : (a.tmps.setIfInBounds t val).getD t undef = val := by simp [r.size, hlt]
   simp only [Act.put, this]; exact hv
  ·rw [if_neg (fun hh => hd' hh.1)]
   have : (a.tmps.setIfInBounds d val).getD t undef = a.tmps.getD t undef := by simp [Array.getElem?_setIfInBounds_ne (Ne.symm hd')]
   simp only [Act.put, this]
   exact VRel.carry hT hc (St.fresh_get hf t hd') (r.slot t ht)
 ·rw [St.ob_new]
  by_cases hd' : t = d
  ·subst hd'
   simp only [hlt, and_self, if_true]; exact hos j
  ·have hne : ¬ (t = d ∧ d < σ.length) := fun hh => hd' hh.1
   rw [if_neg hne]
   simp only [if_neg hd']
   exact ObRel.keep hT hc (fun ho b => r.ub t j b ho) (fun ho b hu => hg b (r.own t j b ho hu).2.2 (fun hmb => (hm b hmb).2.2 t j hd' ho hu)) (St.fresh_obs hf t j hd') (r.obj t j)
 ·rw [St.ob_new] at ho
  by_cases hd' : t = d
  ·subst hd'
   simp only [hlt, and_self, if_true] at ho hb ⊢
   exact hub j b ho hb
  ·rw [if_neg (fun hh => hd' hh.1)] at ho
   simp only [hd', if_false] at hb ⊢
   exact r.ub t j b ho hb
 ·rw [St.ob_new] at ho
  by_cases hd' : t = d
  ·subst hd'
   simp only [hlt, and_self, if_true] at ho hb
   have h1 := hown j b ho hb
   refine ⟨?_, h1.2.1, h1.2.2⟩
   rcases h1.1 with h2 | h2
   ·exact fun hbb => by have := r.hB b hbb; omega
   ·exact (hm b h2).1
  ·rw [if_neg (fun hh => hd' hh.1)] at ho
   simp only [hd', if_false] at hb
   have := r.own t j b ho hb
   refine ⟨this.1, fun hx => ?_, by omega⟩
   rcases hX' b hx with hx | hx
   ·exact this.2.1 hx
   ·omega
 ·rw [St.ob_new] at ho ho'
  by_cases hd1 : t = d
  ·by_cases hd2 : t' = d
   ·subst hd1; subst hd2
    simp only [hlt, and_self, if_true] at ho hb ho' hb'
    exact ⟨rfl, hinj j j' b ho ho' hb hb'⟩
   ·subst hd1
    simp only [hlt, and_self, if_true] at ho hb
    rw [if_neg (fun hh => hd2 hh.1)] at ho'
    simp only [hd2, if_false] at hb'
    have h1 := hown j b ho hb
    have h2 := r.own t' j' b ho' hb'
    rcases h1.1 with h3 | h3
    ·omega
    ·exact absurd hb' ((hm b h3).2.2 t' j' hd2 ho')
  ·by_cases hd2 : t' = d
   ·subst hd2
    simp only [hlt, and_self, if_true] at ho' hb'
    rw [if_neg (fun hh => hd1 hh.1)] at ho
    simp only [hd1, if_false] at hb
    have h1 := hown j' b ho' hb'
    have h2 := r.own t j b ho hb
    rcases h1.1 with h3 | h3
    ·omega
    ·exact absurd hb ((hm b h3).2.2 t j hd1 ho)
   ·rw [if_neg (fun hh => hd1 hh.1)] at ho
    rw [if_neg (fun hh => hd2 hh.1)] at ho'
    simp only [hd1, hd2, if_false] at hb hb'
    exact r.inj t j t' j' b ho ho' hb hb'

theorem Rel.new (r : Rel T0 B σ a w X h) {d : Nat} (hf : σ.fresh d = true) (hg : w.grownBy w' none) (hX : ∀ b, X b → X' b) (hX' : ∀ b, X' b → X b ∨ (w.heap.size ≤ b ∧ b < w'.heap.size))
  (v : V) (val : Value) (os : List Ob) (hd : Nat → Hd)
  (hv : VRel (Tof T0 X') (fun t j => if t = d then hd j else h t j) (σ.new d v os).ob w' v val)
  (hos : ∀ j, ObRel (Tof T0 X') (fun t j => if t = d then hd j else h t j) (σ.new d v os).ob w' (hd j) (obIn os j))
  (hub : ∀ j b, obIn os j ≠ .none → blk (hd j).v = some b → (hd j).u b)
  (hown : ∀ j b, obIn os j ≠ .none → (hd j).u b → w.heap.size ≤ b ∧ ¬ X' b ∧ b < w'.heap.size)
  (hinj : ∀ j j' b, obIn os j ≠ .none → obIn os j' ≠ .none → (hd j).u b → (hd j').u b → j = j') :
  Rel T0 B (σ.new d v os) (a.put (some d) val) w' X' (fun t j => if t = d then hd j else h t j) :=
 r.newG hf (fun _ => False) hg.size (fun k hk _ => hg.block k hk (by simp)) (fun _ hh => hh.elim) hX hX' v val os hd hv hos hub (fun j b h1 h2 => ⟨.inl (hown j b h1 h2).1, (hown j b h1 h2).2⟩) hinj
end
end Go.Vm
namespace Go.Vm
open Go.RowKit

def Formed (v : Value) (cs : List Value) : Prop := (∃ c, cs = [c] ∧ v = c ∧ c.oneCell' = true) ∨ (cs.length ≠ 1 ∧ v = .agg cs.toArray)
def retOf : List Value → Value
 | [v] => v
 | vs => .tuple vs.toArray

def CellOwn (T : CS) (w : World) (v : Value) : D → Prop
 | .sl size rows => ∃ e xs, w.ownsRow 0 e size v rows.length xs ∧ (∀ r ∈ rows, r.length = size) ∧ All2 (Rd T w) xs rows.flatten
 | d => Rd T w v d
def CellRel (own : Bool) (T : CS) (w : World) (v : Value) (d : D) : Prop := if own then CellOwn T w v d else Rd T w v d

def fnOk (P : Program) (f : FuncId) : Bool :=
 match P.funcs[f]? with
 | some fn => fn.body.isSome && fn.name != "runtime.NumGoroutine"
 | none => false

def Apart (B N : Nat) (Y : Nat → Prop) (cs : List Value) (ds : List D) : Prop :=
 (∀ (i : Nat) (c : Value) (d : D) (b : Nat), cs[i]? = some c → ds[i]? = some d → d.scalar = false → blk c = some b → B ≤ b ∧ b < N ∧ ¬ Y b) ∧
 (∀ (i j : Nat) (c c' : Value) (d d' : D) (b : Nat), cs[i]? = some c → ds[i]? = some d → cs[j]? = some c' → ds[j]? = some d' → d.scalar = false → d'.scalar = false → blk c = some b → blk c' = some b → i = j)

def Post (own : Bool) (T : CS) (w : World) (res : List (List D)) (e : Ending) (w' : World) : Prop :=
 ∃ (vs : List Value) (css : List (List Value)) (Y : Nat → Prop), e = .returned (retOf vs) ∧ Below w.heap.size w w' ∧ (∀ b, Y b → w.heap.size ≤ b ∧ b < w'.heap.size) ∧
  All2 Formed vs css ∧ All2 (fun cs row => All2 (CellRel own (Tof T Y) w') cs row) css res ∧ (own = true → Apart w.heap.size w'.heap.size Y css.flatten res.flatten)

def SoundAt (P : Program) (f : FuncId) (own : Bool) (args res : List (List D)) : Prop :=
 fnOk P f = true ∧ ∀ (T : CS) (w : World) (vals : List Value), (∀ b k, T b k → b < w.heap.size) → All2 (fun v row => ∃ cs, Formed v cs ∧ All2 (Rd T w) cs row) vals args →
  Calls P f vals.toArray w (Post own T w res)

def vOf : List At → V
 | [x] => .one x
 | xs => .agg xs
def resAts (t : Nat) : Nat → List D → List At
 | _, [] => []
 | k, .sl _ rows :: ds => .sref t k 0 rows.length :: resAts t (k + 1) ds
 | k, d :: ds => .d d :: resAts t (k + 1) ds
def resObs : List D → List Ob
 | [] => []
 | .sl size rows :: ds => .arr false size rows :: resObs ds
 | _ :: ds => .none :: resObs ds
def resVs (t : Nat) : Nat → List (List D) → List V
 | _, [] => []
 | k, r :: rs => vOf (resAts t k r) :: resVs t (k + r.length) rs
def resV (t : Nat) : List (List D) → V
 | [r] => vOf (resAts t 0 r)
 | rs => .tup (resVs t 0 rs)
def resVd : List (List D) → V
 | [r] => vOf (r.map .d)
 | rs => .tup (rs.map fun r => vOf (r.map .d))

def dataOf (σ : St) : At → Option D
 | .d x => some x
 | .nil s => some (.sl s [])
 | .sref t j lo len => (match σ.ob t j with | .arr _ size rows => some (.sl size (cut rows lo len)) | _ => none)
 | _ => none
def rowOf (σ : St) : List At → Option (List D)
 | [] => some []
 | x :: xs => (match dataOf σ x, rowOf σ xs with | some d, some ds => some (d :: ds) | _, _ => none)
def V.flatRow (σ : St) : V → Option (List D)
 | .one x => rowOf σ [x]
 | .agg [_] => none
 | .agg xs => rowOf σ xs
 | _ => none
def argRows (P : Program) (σ : St) : List Operand → List TypeId → List (List D) → Prop
 | [], _, rs => rs = []
 | x :: xs, t :: ts, rs => gOf (look P σ t x) = true ∧ ∃ r rest, (unc (look P σ t x)).flatRow σ = some r ∧ argRows P σ xs ts rest ∧ rs = r :: rest
 | _ :: _, [], _ => False
def At.stable : At → Bool
 | .sref _ _ _ _ => false
 | .tref _ _ _ _ => false
 | _ => true
def atsStable : List At → Bool
 | [] => true
 | x :: xs => x.stable && atsStable xs
def argsStable (P : Program) (σ : St) : List Operand → List TypeId → Bool
 | x :: xs, t :: ts => atsStable (unc (look P σ t x)).cells && argsStable P σ xs ts
 | _, _ => true

section
variable {P : Program} {T0 : CS} {B : Nat → Prop} {σ : St} {a : Act} {w w' : World} {X X' : Nat → Prop} {h : Nat → Nat → Hd}

theorem Rel.grow (r : Rel T0 B σ a w X h) (hg : w.grownBy w' none) (hX : ∀ b, X b → X' b) (hX' : ∀ b, X' b → X b ∨ (w.heap.size ≤ b ∧ b < w'.heap.size)) : Rel T0 B σ a w' X' h := by
 have hT : ∀ b k v, Tof T0 X b k → w.cell? ⟨b, k, none⟩ = some v → w'.cell? ⟨b, k, none⟩ = some v ∧ Tof T0 X' b k := by
  intro b k v hb hcell
  refine ⟨?_, hb.imp id (hX b)⟩
  rw [World.cell?_of_block (hg.block b (r.Tlt hb) (by simp))]; exact hcell
 have hB : w.heap.size ≤ w'.heap.size := hg.size
 refine ⟨r.size, r.defers, fun b hb => Nat.lt_of_lt_of_le (r.hB b hb) hB, fun b hb => ?_, r.hT, fun t ht => VRel.mono hT (r.slot t ht), fun t j => ?_, r.ub, fun t j b ho hb => ?_, r.inj⟩
 ·rcases hX' b hb with hb | hb
  ·have := r.hX b hb; exact ⟨this.1, by omega⟩
  ·exact ⟨fun hbb => by have := r.hB b hbb; omega, hb.2⟩
 ·have h0 := r.obj t j
  have hk : σ.ob t j ≠ .none → ∀ b, (h t j).u b → w'.heap[b]? = w.heap[b]? := fun ho b hu => hg.block b (r.own t j b ho hu).2.2 (by simp)
  have hob := r.ub t j
  cases ho : σ.ob t j with
  | none => trivial
  | box cells =>
   rw [ho] at h0 hk hob
   obtain ⟨b, cs, e, hv, hh, hal⟩ := h0
   exact ⟨b, cs, e, hv, by rw [hk (by simp) b (hob b (by simp) (by rw [hv]; rfl))]; exact hh, hal.imp fun _ _ => AtRel.mono hT⟩
  | arr q size rows =>
   rw [ho] at h0 hk hob
   cases q with
   | false =>
    obtain ⟨e, xs, how, hz, hal⟩ := h0
    exact ⟨e, xs, owns_keep (fun b hb => hk (by simp) b (hob b (by simp) hb)) how, hz, hal.imp fun _ _ => Rd.mono hT⟩
   | true =>
    obtain ⟨e, xs, how, hz, hal, hn⟩ := h0
    exact ⟨e, xs, owns_keep (fun b hb => hk (by simp) b (hob b (by simp) hb)) how, hz, hal.keep (fun b hb => hk (by simp) b hb.1), hn⟩
  | lit size rows =>
   rw [ho] at h0 hk hob
   obtain ⟨e, xs, how, hz, hal⟩ := h0
   exact ⟨e, xs, owns_keep (fun b hb => hk (by simp) b (hob b (by simp) hb)) how, hz, hal.imp fun _ _ => AtRel.mono hT⟩
 ·have := r.own t j b ho hb
  refine ⟨this.1, fun hx => ?_, by omega⟩
  rcases hX' b hx with hx | hx
  ·exact this.2.1 hx
  ·omega

def Tall (T0 : CS) (X : Nat → Prop) (h : Nat → Nat → Hd) (σ : St) : CS := fun b k => Tof T0 X b k ∨ ∃ t j q size rows, σ.ob t j = .arr q size rows ∧ (h t j).u b

theorem Rel.Tall_lt (r : Rel T0 B σ a w X h) {b k : Nat} (hb : Tall T0 X h σ b k) : b < w.heap.size := by
 rcases hb with hb | ⟨t, j, q, size, rows, ho, hb⟩
 ·exact r.Tlt hb
 ·exact (r.own t j b (by rw [ho]; simp) hb).2.2

theorem owns_rd {T : CS} {w : World} {e : TypeId} {size : Nat} {v : Value} {rows : List (List D)} {xs : List Value} (ho : w.ownsRow 0 e size v rows.length xs) (hz : ∀ r ∈ rows, r.length = size) (hT : ∀ b k, blk v = some b → T b k)
  (hal : All2 (Rd T w) xs rows.flatten) : Rd T w v (.sl size rows) := by
 rcases ho.2 with ⟨rfl, hn⟩ | ⟨g, cap, cur, rfl, _, hh, hnc, hmx, hcs, htk⟩
 ·have : rows = [] := List.eq_nil_of_length_eq_zero hn
  subst this; exact .nil _
 ·refine .sl ⟨g, 0, none⟩ _ cap size rows (fun k => (xs[k]?).getD undef) rfl hnc hmx hz (fun _ => rfl) (fun k d hd => ?_) (fun k d hd => ?_)
  ·obtain ⟨u, hu, _⟩ := hal.get' k d hd
   have hlt : k < rows.length * size := by
    have := (List.getElem?_eq_some_iff.1 hd).1
    rw [flatten_length rows size hz] at this; exact this
   rw [hu]
   refine ⟨?_, hT g _ rfl⟩
   simp only [Nat.zero_add]
   refine heap_cell hh _ _ ?_
   rw [← htk, List.getElem?_take, if_pos hlt] at hu
   exact hu
  ·obtain ⟨u, hu, hr⟩ := hal.get' k d hd
   rw [hu]; exact hr
theorem Own.rd {T : CS} {w : World} {v : Value} {d : D} {S : Nat → Prop} (ho : Own w v d S) (hT : ∀ b k, S b → T b k) : Rd T w v d := by
 induction ho with
 | int k n S => exact .int k n
 | bool b S => exact .bool b
 | str s S => exact .str s
 | sl v size rows S e xs Sk ho hz hb' hl hk hs hd ih =>
  exact owns_rd ho hz (fun b k hb => hT b k (hb' b hb)) (All2.of_get hl (fun k x d hx hd' => ih k x d hx hd' (fun b k' hb => hT b k' (hs k b hb).1)))
theorem OwnC.rd {T : CS} {w : World} {xs : List Value} {ds : List D} {S : Nat → Prop} (ho : OwnC w xs ds S) (hT : ∀ b k, S b → T b k) : All2 (Rd T w) xs ds := by
 obtain ⟨hl, Sk, h1, h2, h3⟩ := ho
 exact All2.of_get hl (fun k x d hx hd => (h1 k x d hx hd).rd (fun b k' hb => hT b k' (h2 k b hb)))
theorem Rel.cells (r : Rel T0 B σ a w X h) {t j size : Nat} {q : Bool} {rows : List (List D)} (ho : σ.ob t j = .arr q size rows) :
  ∃ e xs, w.ownsRow 0 e size (h t j).v rows.length xs ∧ (∀ r ∈ rows, r.length = size) ∧ ∀ T : CS, (∀ b k, Tof T0 X b k → T b k) → (∀ b k, (h t j).u b → T b k) → All2 (Rd T w) xs rows.flatten := by
 have h0 := r.obj t j
 rw [ho] at h0
 cases q with
 | false =>
  obtain ⟨e, xs, how, hz, hal⟩ := h0
  exact ⟨e, xs, how, hz, fun T h1 _ => hal.imp fun _ _ => Rd.mono (fun b k v hb hc => ⟨hc, h1 b k hb⟩)⟩
 | true =>
  obtain ⟨e, xs, how, hz, hal, hn⟩ := h0
  exact ⟨e, xs, how, hz, fun T _ h2 => hal.rd (fun b k hb => h2 b k hb.1)⟩

theorem Rel.sref_rd (r : Rel T0 B σ a w X h) {t j lo len size : Nat} {q : Bool} {rows : List (List D)} (ho : σ.ob t j = .arr q size rows) {v : Value} (hv : AtRel (Tof T0 X) h σ.ob w (.sref t j lo len) v)
  (T : CS) (hT1 : ∀ b k, Tof T0 X b k → T b k) (hT2 : ∀ b k, (h t j).u b → T b k) : Rd T w v (.sl size (cut rows lo len)) := by
 obtain ⟨hle, hfull, base, cap, rfl, hcap, hcm, hnn, hb⟩ := hv.2.1 q size rows ho
 obtain ⟨e, xs, ⟨hl, hown⟩, hz, hal0⟩ := r.cells ho
 have hal := hal0 T hT1 hT2
 have hub := r.ub t j
 have hcl : (cut rows lo len).length = len := cut_length _ _ _ hle
 have hz' : ∀ x ∈ cut rows lo len, x.length = size := fun x hx => hz x (List.mem_of_mem_drop (List.mem_of_mem_take hx))
 by_cases hpos : 0 < len
 ·obtain ⟨b, cap0, hh, rfl⟩ := hb hpos
  rcases hown with ⟨hn, _⟩ | ⟨g, cap', cur, hv', _, hgg, hnc, hmx, hcs, htk⟩
  ·rw [hh] at hn; cases hn
  ·rw [hh] at hv'
   cases hv'
   have key : ∀ k d, (cut rows lo len).flatten[k]? = some d → ∃ u, w.cell? ⟨b, lo * size + k, none⟩ = some u ∧ T b (lo * size + k) ∧ Rd T w u d := by
    intro k d hd
    have hd' := cut_flatten rows size lo len hz k d hd
    obtain ⟨u, hu, hr⟩ := hal.get' _ _ hd'
    have hlt : lo * size + k < rows.length * size := by
     have := (List.getElem?_eq_some_iff.1 hd').1
     rw [flatten_length rows size hz] at this; exact this
    refine ⟨u, heap_cell hgg _ _ ?_, hT2 b _ (hub b (by rw [ho]; simp) (by rw [hh]; rfl)), hr⟩
    rw [← htk, List.getElem?_take, if_pos hlt] at hu
    exact hu
   refine .sl ⟨b, lo * size, none⟩ len cap size _ (fun k => (w.cell? ⟨b, lo * size + k, none⟩).getD undef) hcl hcap hcm hz' (fun _ => rfl) (fun k d hd => ?_) (fun k d hd => ?_)
   ·obtain ⟨u, hu, ht, _⟩ := key k d hd
    rw [hu]; exact ⟨rfl, ht⟩
   ·obtain ⟨u, hu, _, hr⟩ := key k d hd
    rw [hu]; exact hr
 ·have h0' : len = 0 := by omega
  subst h0'
  have hnil : cut rows lo 0 = [] := by simp [cut]
  rw [hnil]
  cases base with
  | none => have := hnn rfl; subst this; exact .nil _
  | some ad => exact .sl ad 0 cap size [] (fun _ => undef) rfl hcap hcm (by intro r hr; cases hr) (by simp) (by simp) (by simp)
end
end Go.Vm
namespace Go.Vm
open Go.RowKit

def D.flatSl : D → Prop
 | .sl _ rows => ∀ r ∈ rows, ∀ d ∈ r, d.scalar = true
 | _ => True
def resFlat (own : Bool) (res : List (List D)) : Prop := ∀ r ∈ res, ∀ d ∈ r, if own = true then d.flatSl else d.scalar = true

theorem Rd.scalar {T T' : CS} {w : World} {v : Value} {d : D} (hd : d.scalar = true) (r : Rd T w v d) : Rd T' w v d := by
 cases r with
 | int k n => exact .int k n
 | bool b => exact .bool b
 | str s => exact .str s
 | nil => cases hd
 | sl => cases hd
theorem CellOwn.flat {T T' : CS} {w : World} {v : Value} {d : D} (hd : d.flatSl) (r : CellOwn T w v d) : CellOwn T' w v d := by
 cases d with
 | sl size rows =>
  obtain ⟨e, xs, ho, hz, hal⟩ := r
  refine ⟨e, xs, ho, hz, ?_⟩
  refine All2.of_get hal.length (fun i x d hx hd' => ?_)
  obtain ⟨d2, hd2, hr⟩ := hal.get i x hx
  rw [hd'] at hd2; cases hd2
  have hm : d ∈ rows.flatten := List.mem_of_getElem? hd'
  obtain ⟨r0, hr0, hdr⟩ := List.mem_flatten.1 hm
  exact Rd.scalar (hd r0 hr0 d hdr) hr
 | int k n => exact Rd.scalar rfl r
 | bool b => exact Rd.scalar rfl r
 | str s => exact Rd.scalar rfl r

theorem hd_self {w : World} {e : TypeId} {size : Nat} {v : Value} {n : Nat} {xs : List Value} (ho : w.ownsRow 0 e size v n xs) : HdRel v size n 0 n v := by
 refine ⟨by omega, fun _ _ => rfl, ?_⟩
 rcases ho.2 with ⟨rfl, rfl⟩ | ⟨g, cap, cur, rfl, _, _, hnc, hmx, _, _⟩
 ·exact ⟨none, 0, rfl, by omega, by simp [maxLen], fun _ => rfl, fun hh => by omega⟩
 ·exact ⟨_, cap, rfl, hnc, hmx, (fun hh => by cases hh), fun _ => ⟨g, cap, rfl, by simp⟩⟩
theorem owns_oneCell {w : World} {e : TypeId} {size : Nat} {v : Value} {n : Nat} {xs : List Value} (ho : w.ownsRow 0 e size v n xs) : v.oneCell' = true := by
 rcases ho.2 with ⟨rfl, rfl⟩ | ⟨g, cap, cur, rfl, _⟩ <;> rfl
theorem CellOwn.oneCell {T : CS} {w : World} {v : Value} {d : D} (r : CellOwn T w v d) : v.oneCell' = true := by
 cases d with
 | sl size rows => obtain ⟨e, xs, ho, _⟩ := r; exact owns_oneCell ho
 | int k n => exact Rd.oneCell r
 | bool b => exact Rd.oneCell r
 | str s => exact Rd.oneCell r
theorem CellOwn.rd {T T' : CS} {w : World} {v : Value} {d : D} (r : CellOwn T w v d) (h1 : ∀ b k, T b k → T' b k) (h2 : d.scalar = false → ∀ b k, blk v = some b → T' b k) : Rd T' w v d := by
 cases d with
 | sl size rows =>
  obtain ⟨e, xs, ⟨hl, hown⟩, hz, hal⟩ := r
  rcases hown with ⟨rfl, hn⟩ | ⟨g, cap, cur, rfl, _, hh, hnc, hmx, hcs, htk⟩
  ·have : rows = [] := List.eq_nil_of_length_eq_zero hn
   subst this; exact .nil _
  ·refine .sl ⟨g, 0, none⟩ _ cap size rows (fun k => (xs[k]?).getD undef) rfl hnc hmx hz (fun _ => rfl) (fun k d hd => ?_) (fun k d hd => ?_)
   ·obtain ⟨u, hu, _⟩ := hal.get' k d hd
    have hlt : k < rows.length * size := by
     have := (List.getElem?_eq_some_iff.1 hd).1
     rw [flatten_length rows size hz] at this; exact this
    rw [hu]
    refine ⟨?_, h2 rfl g _ rfl⟩
    simp only [Nat.zero_add]
    refine heap_cell hh _ _ ?_
    rw [← htk, List.getElem?_take, if_pos hlt] at hu
    exact hu
   ·obtain ⟨u, hu, hr⟩ := hal.get' k d hd
    rw [hu]; exact Rd.mono (fun b k v hb hc => ⟨hc, h1 b k hb⟩) hr
 | int k n => exact Rd.scalar rfl r
 | bool b => exact Rd.scalar rfl r
 | str s => exact Rd.scalar rfl r

section
variable {P : Program} {T0 : CS} {B : Nat → Prop} {σ : St} {a : Act} {w w' : World} {X X' : Nat → Prop} {h : Nat → Nat → Hd}

theorem Rel.dataOf (r : Rel T0 B σ a w X h) {x : At} {v : Value} {d : D} (hd : dataOf σ x = some d) (hv : AtRel (Tof T0 X) h σ.ob w x v) (st : Bool) (hst : st = true → x.stable = true) :
  Rd (if st then Tof T0 X else Tall T0 X h σ) w v d := by
 cases x with
 | d x => simp [Vm.dataOf] at hd; subst hd; cases st <;> simp <;> first | exact hv | exact Rd.mono (fun b k v hb hc => ⟨hc, .inl hb⟩) hv
 | nil s => simp [Vm.dataOf] at hd; subst hd; cases hv; exact .nil _
 | sref t j lo len =>
  cases st with
  | true => have := hst rfl; simp [At.stable] at this
  | false =>
   simp only [Vm.dataOf] at hd
   split at hd
   ·rename_i q size rows ho
    cases hd
    exact r.sref_rd ho hv _ (fun b k hb => .inl hb) (fun b k hb => .inr ⟨t, j, _, size, rows, ho, hb⟩)
   ·cases hd
 | any => simp [Vm.dataOf] at hd
 | ptr => simp [Vm.dataOf] at hd
 | bptr => simp [Vm.dataOf] at hd
 | fn => simp [Vm.dataOf] at hd
 | rptr => simp [Vm.dataOf] at hd
 | tref => simp [Vm.dataOf] at hd

theorem Rel.rowOf (r : Rel T0 B σ a w X h) (st : Bool) : ∀ {xs : List At} {vs : List Value} {ds : List D}, rowOf σ xs = some ds → All2 (AtRel (Tof T0 X) h σ.ob w) xs vs → (st = true → atsStable xs = true) →
  All2 (Rd (if st then Tof T0 X else Tall T0 X h σ) w) vs ds
 | [], _, ds, hd, hal, _ => by cases hal; simp [Vm.rowOf] at hd; subst hd; exact .nil
 | x :: xs, _, ds, hd, hal, hst => by
  cases hal with
  | cons hx hal =>
   simp only [Vm.rowOf] at hd
   split at hd
   ·rename_i d ds' h1 h2
    cases hd
    refine .cons (r.dataOf h1 hx st (fun hs => ?_)) (Rel.rowOf r st h2 hal (fun hs => ?_))
    ·have := hst hs; simp [atsStable] at this; exact this.1
    ·have := hst hs; simp [atsStable] at this; exact this.2
   ·cases hd

theorem Rel.flatRow (r : Rel T0 B σ a w X h) (st : Bool) {v : V} {val : Value} {row : List D} (hr : v.flatRow σ = some row) (hv : VRel (Tof T0 X) h σ.ob w v val) (hst : st = true → atsStable v.cells = true) :
  ∃ cs, Formed val cs ∧ All2 (Rd (if st then Tof T0 X else Tall T0 X h σ) w) cs row := by
 cases v with
 | one x => exact ⟨[val], .inl ⟨val, rfl, rfl, AtRel.oneCell (show AtRel _ _ _ _ _ _ from hv)⟩, r.rowOf st (xs := [x]) hr (.cons hv .nil) hst⟩
 | agg xs =>
  obtain ⟨cs, rfl, hal⟩ := hv
  have hl := hal.length
  match xs, hr, hal, hl, hst with
  | [], hr, hal, hl, hst => exact ⟨cs.toList, .inr ⟨by rw [← hl]; simp, by simp⟩, r.rowOf st hr hal hst⟩
  | [_], hr, _, _, _ => simp [V.flatRow] at hr
  | x :: y :: xs, hr, hal, hl, hst => exact ⟨cs.toList, .inr ⟨by rw [← hl]; simp, by simp⟩, r.rowOf st hr hal hst⟩
 | any => simp [V.flatRow] at hr
 | tup xs => simp [V.flatRow] at hr
 | cnd g x => simp [V.flatRow] at hr
 | fix u x => simp [V.flatRow] at hr

theorem Rel.argRows (r : Rel T0 B σ a w X h) (st : Bool) : ∀ {xs : List Operand} {ts : List TypeId} {rs : List (List D)}, argRows P σ xs ts rs → (st = true → argsStable P σ xs ts = true) →
  All2 (fun v row => ∃ cs, Formed v cs ∧ All2 (Rd (if st then Tof T0 X else Tall T0 X h σ) w) cs row) (xs.map a.eval) rs
 | [], _, rs, hr, _ => by cases hr; exact .nil
 | x :: xs, [], rs, hr, _ => hr.elim
 | x :: xs, t :: ts, rs, hr, hst => by
  obtain ⟨hg, row, rest, h1, h2, rfl⟩ := hr
  refine .cons (r.flatRow st h1 (r.arg t x rfl hg) (fun hs => ?_)) (Rel.argRows r st h2 (fun hs => ?_))
  ·have := hst hs; simp [argsStable] at this; exact this.1
  ·have := hst hs; simp [argsStable] at this; exact this.2

theorem run_callOp {o : Oper} {c : Call} {f : FuncId} (hop : o.op = .call c) (hc : c.callee = .value (.func f)) (hf : fnOk P f = true) : (execOp a.eval o).run P w = .ok (.enter f (c.args.toList.map a.eval).toArray) w := by
 unfold fnOk at hf
 split at hf
 ·rename_i fn hfn
  simp only [Bool.and_eq_true, bne_iff_ne, ne_eq] at hf
  obtain ⟨cd, hb⟩ := Option.isSome_iff_exists.1 hf.1
  obtain ⟨callee, args, ats⟩ := c
  simp only at hc; subst hc
  have hm : (args.toList.map a.eval).toArray = args.map a.eval := by apply Array.toList_inj.1; simp
  rw [hm]
  simp [execOp, hop, resolve, Act.eval, Deferred.ofValue, invoke, callFunc, hfn, hf.2, hb]
 ·cases hf
end
end Go.Vm
namespace Go.Vm
open Go.RowKit
section
variable {P : Program} {T0 : CS} {B : Nat → Prop} {σ : St} {a : Act} {w w' : World} {X X' : Nat → Prop} {h : Nat → Nat → Hd}

theorem Below.grownBy (hb : Below w.heap.size w w') : w.grownBy w' none := ⟨hb.os, hb.tape, hb.output, hb.size, fun k hk _ => hb.block k hk⟩

theorem vOf_rel {T : CS} {ob : Nat → Nat → Ob} {xs : List At} {v : Value} {cs : List Value} (hf : Formed v cs) (hal : All2 (AtRel T h ob w) xs cs) : V1Rel T h ob w (vOf xs) v := by
 have hl := hal.length
 rcases hf with ⟨c, rfl, rfl, h1⟩ | ⟨hne, rfl⟩
 ·cases hal with
  | cons hx hal => cases hal; exact hx
 ·match xs, hal, hl with
  | [], hal, _ => exact ⟨_, rfl, by simpa using hal⟩
  | [x], hal, hl => exact absurd hl.symm (by simpa using hne)
  | x :: y :: xs, hal, _ => exact ⟨_, rfl, by simpa using hal⟩

theorem map_d_rel {T : CS} {ob : Nat → Nat → Ob} {cs : List Value} {row : List D} (hal : All2 (Rd T w) cs row) : All2 (AtRel T h ob w) (row.map .d) cs := by
 induction hal with
 | nil => exact .nil
 | cons r _ ih => exact .cons r ih

theorem resVd_list {T : CS} {ob : Nat → Nat → Ob} {res : List (List D)} {vs : List Value} {css : List (List Value)} (hf : All2 Formed vs css) (hal : All2 (fun cs row => All2 (Rd T w) cs row) css res) :
  All2 (V1Rel T h ob w) (res.map fun r => vOf (r.map .d)) vs := by
 induction hf generalizing res with
 | nil => cases hal; exact .nil
 | cons f _ ih => cases hal with
  | cons r hal => exact .cons (vOf_rel f (map_d_rel r)) (ih hal)

theorem resVd_rel {T : CS} {ob : Nat → Nat → Ob} {res : List (List D)} {vs : List Value} {css : List (List Value)} (hf : All2 Formed vs css) (hal : All2 (fun cs row => All2 (Rd T w) cs row) css res) :
  VRel T h ob w (resVd res) (retOf vs) := by
 have hl := resVd_list (h := h) (ob := ob) hf hal
 have h1 := hl.length
 match res, vs, hl, h1 with
 | [r], [v], hl, _ => cases hl with | cons x _ => exact x.up
 | [], [], hl, _ => exact ⟨_, rfl, by simpa using hl⟩
 | r :: r' :: rs, v :: v' :: vs, hl, _ => exact ⟨_, rfl, by simpa using hl⟩
 | [], v :: vs, _, h1 => simp at h1
 | [r], [], _, h1 => simp at h1
 | [r], v :: v' :: vs, _, h1 => simp at h1
 | r :: r' :: rs, [], _, h1 => simp at h1
 | r :: r' :: rs, [v], _, h1 => simp at h1

theorem all2_all2 {α β : Type} {R S : α → β → Prop} {l : List (List α)} {m : List (List β)} (hrs : ∀ (a : α) (b : β) (row : List β), row ∈ m → b ∈ row → R a b → S a b) (hal : All2 (fun x y => All2 R x y) l m) : All2 (fun x y => All2 S x y) l m := by
 induction hal with
 | nil => exact .nil
 | @cons x y _ _ hxy _ ih =>
  refine .cons ?_ (ih (fun a b row hr => hrs a b row (by simp [hr])))
  have hmem : ∀ b ∈ y, ∀ a, R a b → S a b := fun b hb a hr => hrs a b y (by simp) hb hr
  clear ih hrs
  induction hxy with
  | nil => exact .nil
  | cons r _ ih2 => exact .cons (hmem _ (by simp) _ r) (ih2 (fun b hb => hmem b (by simp [hb])))

theorem sound_callRd (r : Rel T0 B σ a w X h) {o : Oper} {c : Call} {f : FuncId} {d : Nat} {own : Bool} {rows res : List (List D)} (hop : o.op = .call c) (hc : c.callee = .value (.func f)) (hd : o.dst = some d)
  (hargs : argRows P σ c.args.toList c.argTypes.toList rows) (st : Bool) (hst : st = true → argsStable P σ c.args.toList c.argTypes.toList = true) (hfl : st = false → resFlat own res) (hs : SoundAt P f own rows res)
  {K : Act → World → Prop} {Q : Exit → Act → World → Prop} (hK : ∀ a' w', RelE T0 B (σ.put d (resVd res)) a' w' → Keep B w w' → K a' w') : o.wp P a w K Q := by
 unfold Oper.wp
 rw [run_callOp hop hc hs.1, Oper.upon_enter]
 refine (hs.2 (if st then Tof T0 X else Tall T0 X h σ) w _ (fun b k hb => ?_) (r.argRows st hargs hst)).mono ?_
 ·cases st
  ·exact r.Tall_lt hb
  ·exact r.Tlt hb
 ·rintro e w' ⟨vs, css, Y, rfl, hbel, hY, hform, hcells, hap⟩
  have hX' : ∀ b, (X b ∨ (w.heap.size ≤ b ∧ b < w'.heap.size)) → X b ∨ (w.heap.size ≤ b ∧ b < w'.heap.size) := fun b hb => hb
  have r2 := r.grow (X' := fun b => X b ∨ (w.heap.size ≤ b ∧ b < w'.heap.size)) (Below.grownBy hbel) (fun b hb => .inl hb) hX'
  have hcells2 : All2 (fun cs row => All2 (Rd (Tof T0 fun b => X b ∨ (w.heap.size ≤ b ∧ b < w'.heap.size)) w') cs row) css res := by
   -- index by index, with the blocks' bounds at hand
   have hmem : ∀ (i : Nat) (c : Value) (d : D), css.flatten[i]? = some c → res.flatten[i]? = some d → own = true → d.scalar = false → ∀ b, blk c = some b → w.heap.size ≤ b ∧ b < w'.heap.size := by
    intro i c d h1 h2 ho hsc b hb
    have := (hap ho).1 i c d b h1 h2 hsc hb
    exact ⟨this.1, this.2.1⟩
   have conv : ∀ (c : Value) (d : D), (∀ b, own = true → d.scalar = false → blk c = some b → w.heap.size ≤ b ∧ b < w'.heap.size) → (st = false → if own = true then d.flatSl else d.scalar = true) →
     CellRel own (Tof (if st then Tof T0 X else Tall T0 X h σ) Y) w' c d → Rd (Tof T0 fun b => X b ∨ (w.heap.size ≤ b ∧ b < w'.heap.size)) w' c d := by
    intro c d hblk hfl' hr
    cases own with
    | true =>
     have hr' : CellOwn (Tof (if st then Tof T0 X else Tall T0 X h σ) Y) w' c d := by simpa [CellRel] using hr
     cases st with
     | true =>
      refine CellOwn.rd hr' (fun b k hb => ?_) (fun hsc b k hb => .inr (.inr (hblk b rfl hsc hb)))
      rcases hb with hb | hb
      ·rcases (show Tof T0 X b k from by simpa using hb) with hb | hb
       ·exact .inl hb
       ·exact .inr (.inl hb)
      ·exact .inr (.inr (hY b hb))
     | false =>
      exact CellOwn.rd (CellOwn.flat (T' := fun _ _ => False) (by simpa using hfl' rfl) hr') (fun b k hb => hb.elim) (fun hsc b k hb => .inr (.inr (hblk b rfl hsc hb)))
    | false =>
     have hr' : Rd (Tof (if st then Tof T0 X else Tall T0 X h σ) Y) w' c d := by simpa [CellRel] using hr
     cases st with
     | true =>
      refine Rd.mono (fun b k v hb hc => ⟨hc, ?_⟩) hr'
      rcases hb with hb | hb
      ·rcases (show Tof T0 X b k from by simpa using hb) with hb | hb
       ·exact .inl hb
       ·exact .inr (.inl hb)
      ·exact .inr (.inr (hY b hb))
     | false => exact Rd.scalar (by simpa using hfl' rfl) hr'
   -- carry 'conv' through the two lists
   have go : ∀ (css : List (List Value)) (res : List (List D)), All2 (fun cs row => All2 (CellRel own (Tof (if st then Tof T0 X else Tall T0 X h σ) Y) w') cs row) css res →
     (∀ (i : Nat) (c : Value) (d : D), css.flatten[i]? = some c → res.flatten[i]? = some d → own = true → d.scalar = false → ∀ b, blk c = some b → w.heap.size ≤ b ∧ b < w'.heap.size) →
     (st = false → resFlat own res) → All2 (fun cs row => All2 (Rd (Tof T0 fun b => X b ∨ (w.heap.size ≤ b ∧ b < w'.heap.size)) w') cs row) css res := by
    intro css res hal
    induction hal with
    | nil => intro _ _; exact .nil
    | @cons cs row css' res' hrow _ ih =>
     intro hm hf
     have hlen := hrow.length
     refine .cons (All2.of_get hlen (fun i c d hc hd' => ?_)) (ih (fun i c d h1 h2 => ?_) (fun hs r hr => hf hs r (by simp [hr])))
     ·obtain ⟨d2, hd2, hr⟩ := hrow.get i c hc
      rw [hd'] at hd2; cases hd2
      refine conv c d (fun b ho hsc hb => hm i c d ?_ ?_ ho hsc b hb) (fun hs => hf hs row (by simp) d (List.mem_of_getElem? hd')) hr
      ·rw [List.flatten_cons, List.getElem?_append_left (List.getElem?_eq_some_iff.1 hc).1]; exact hc
      ·rw [List.flatten_cons, List.getElem?_append_left (List.getElem?_eq_some_iff.1 hd').1]; exact hd'
     ·refine hm (cs.length + i) c d ?_ ?_
      ·rw [List.flatten_cons, List.getElem?_append_right (by omega)]; simpa using h1
      ·rw [List.flatten_cons, List.getElem?_append_right (by omega), hlen]; simpa using h2
   exact go css res hcells hmem hfl
  rw [hd]
  exact hK _ _ ⟨_, _, r2.put d _ _ (resVd_rel hform hcells2)⟩ (Keep.of_below hbel r.hB)
end
end Go.Vm
namespace Go.Vm
open Go.RowKit
section
variable {P : Program} {T0 : CS} {B : Nat → Prop} {σ : St} {a : Act} {w w' : World} {X X' : Nat → Prop} {h : Nat → Nat → Hd}

theorem resObs_get : ∀ (ds : List D) (k : Nat), obIn (resObs ds) k = (match ds[k]? with | some (.sl size rows) => .arr false size rows | _ => .none)
 | [], k => by simp [resObs, obIn]
 | d :: ds, 0 => by cases d <;> simp [resObs, obIn]
 | d :: ds, k + 1 => by
  have := resObs_get ds k
  cases d <;> simpa [resObs, obIn] using this

def CellTop (T : CS) (w : World) (v : Value) : D → Prop
 | .sl size rows => ∃ e xs, w.ownsRow 0 e size v rows.length xs
 | d => Rd T w v d
theorem CellOwn.top {T : CS} {v : Value} {d : D} (r : CellOwn T w v d) : CellTop T w v d := by
 cases d with
 | sl size rows => obtain ⟨e, xs, ho, _⟩ := r; exact ⟨e, xs, ho⟩
 | int k n => exact r
 | bool b => exact r
 | str s => exact r
theorem CellTop.oneCell {T : CS} {v : Value} {d : D} (r : CellTop T w v d) : v.oneCell' = true := by
 cases d with
 | sl size rows => obtain ⟨e, xs, ho⟩ := r; exact owns_oneCell ho
 | int k n => exact Rd.oneCell r
 | bool b => exact Rd.oneCell r
 | str s => exact Rd.oneCell r

theorem resAts_rel {T : CS} {ob : Nat → Nat → Ob} {t : Nat} : ∀ {ds : List D} {cs : List Value} {k : Nat}, All2 (CellTop T w) cs ds →
  (∀ i size rows, ds[i]? = some (.sl size rows) → ∃ q, ob t (k + i) = .arr q size rows) → (∀ i c, cs[i]? = some c → (h t (k + i)).v = c) → All2 (AtRel T h ob w) (resAts t k ds) cs
 | [], _, k, hal, _, _ => by cases hal; exact .nil
 | d :: ds, _, k, hal, ho, hh => by
  cases hal with
  | @cons c _ cs _ hc hal =>
   have ih := resAts_rel (k := k + 1) hal (fun i size rows hi => by have := ho (i + 1) size rows (by simpa using hi); rw [show k + 1 + i = k + (i + 1) by omega]; exact this)
    (fun i c' hc' => by have := hh (i + 1) c' (by simpa using hc'); rw [show k + 1 + i = k + (i + 1) by omega]; exact this)
   cases d with
   | sl size rows =>
    obtain ⟨q0, h0⟩ := ho 0 size rows (by simp)
    have h1 := hh 0 c (by simp)
    rw [Nat.add_zero] at h0 h1
    refine .cons ⟨CellTop.oneCell hc, fun q' size' rows' ho' => ?_, fun size' rows' ho' => by rw [h0] at ho'; cases ho'⟩ ih
    rw [h0] at ho'; cases ho'
    obtain ⟨e, xs, hown⟩ := hc
    rw [h1]; exact hd_self hown
   | int k' n => exact .cons hc ih
   | bool b => exact .cons hc ih
   | str s => exact .cons hc ih

theorem resVs_rel {T : CS} {ob : Nat → Nat → Ob} {t : Nat} {vs : List Value} {css : List (List Value)} (hf : All2 Formed vs css) : ∀ {res : List (List D)} {k : Nat}, All2 (fun cs row => All2 (CellTop T w) cs row) css res →
  (∀ i size rows, res.flatten[i]? = some (.sl size rows) → ∃ q, ob t (k + i) = .arr q size rows) → (∀ i c, css.flatten[i]? = some c → (h t (k + i)).v = c) → All2 (V1Rel T h ob w) (resVs t k res) vs := by
 induction hf with
 | nil => intro res k hal _ _; cases hal; exact .nil
 | @cons v cs vs' css' f _ ih =>
  intro res k hal ho hh
  cases hal with
  | @cons _ row _ res' r hal =>
   have hlen := r.length
   refine .cons (vOf_rel f (resAts_rel r (fun i size rows hi => ho i size rows ?_) (fun i c hc => hh i c ?_))) (ih hal (fun i size rows hi => ?_) (fun i c hc => ?_))
   ·rw [List.flatten_cons, List.getElem?_append_left (List.getElem?_eq_some_iff.1 hi).1]; exact hi
   ·rw [List.flatten_cons, List.getElem?_append_left (List.getElem?_eq_some_iff.1 hc).1]; exact hc
   ·have := ho (row.length + i) size rows (by rw [List.flatten_cons, List.getElem?_append_right (by omega)]; simpa using hi)
    rw [Nat.add_assoc]; exact this
   ·have := hh (row.length + i) c (by rw [List.flatten_cons, List.getElem?_append_right (by omega), ← hlen]; simpa using hc)
    rw [Nat.add_assoc]; exact this

theorem resV_rel {T : CS} {ob : Nat → Nat → Ob} {t : Nat} {vs : List Value} {css : List (List Value)} {res : List (List D)} (hf : All2 Formed vs css) (hal : All2 (fun cs row => All2 (CellTop T w) cs row) css res)
  (ho : ∀ i size rows, res.flatten[i]? = some (.sl size rows) → ∃ q, ob t i = .arr q size rows) (hh : ∀ i c, css.flatten[i]? = some c → (h t i).v = c) : VRel T h ob w (resV t res) (retOf vs) := by
 have hl := resVs_rel (k := 0) hf hal (by simpa using ho) (by simpa using hh)
 have h1 : res.length = vs.length := by rw [hf.length, hal.length]
 match res, vs, hl, h1 with
 | [r], [v], hl, _ => cases hl with | cons x _ => exact x.up
 | [], [], hl, _ => exact ⟨_, rfl, by simpa using hl⟩
 | r :: r' :: rs, v :: v' :: vs, hl, _ => exact ⟨_, rfl, by simpa using hl⟩
 | [], v :: vs, _, h1 => simp at h1
 | [r], [], _, h1 => simp at h1
 | [r], v :: v' :: vs, _, h1 => simp at h1
 | r :: r' :: rs, [], _, h1 => simp at h1
 | r :: r' :: rs, [v], _, h1 => simp at h1

theorem all2_flatten {α β : Type} {R : α → β → Prop} {l : List (List α)} {m : List (List β)} (hal : All2 (fun x y => All2 R x y) l m) : All2 R l.flatten m.flatten := by
 induction hal with
 | nil => exact .nil
 | cons r _ ih => rw [List.flatten_cons, List.flatten_cons]; exact r.append ih

theorem sound_callOwn (r : Rel T0 B σ a w X h) {o : Oper} {c : Call} {f : FuncId} {d : Nat} {rows res : List (List D)} (hop : o.op = .call c) (hc : c.callee = .value (.func f)) (hd : o.dst = some d) (hfr : σ.fresh d = true)
  (hargs : argRows P σ c.args.toList c.argTypes.toList rows) (st : Bool) (hst : st = true → argsStable P σ c.args.toList c.argTypes.toList = true) (hfl : st = false → resFlat true res) (hs : SoundAt P f true rows res)
  {K : Act → World → Prop} {Q : Exit → Act → World → Prop} (hK : ∀ a' w', RelE T0 B (σ.new d (resV d res) (resObs res.flatten)) a' w' → Keep B w w' → K a' w') : o.wp P a w K Q := by
 have hlt := St.fresh_lt hfr
 unfold Oper.wp
 rw [run_callOp hop hc hs.1, Oper.upon_enter]
 refine (hs.2 (if st then Tof T0 X else Tall T0 X h σ) w _ (fun b k hb => ?_) (r.argRows st hargs hst)).mono ?_
 ·cases st
  ·exact r.Tall_lt hb
  ·exact r.Tlt hb
 ·rintro e w' ⟨vs, css, Y, rfl, hbel, hY, hform, hcells, hap⟩
  have hap := hap rfl
  have hcells2 : All2 (fun cs row => All2 (CellOwn (Tof T0 fun b => X b ∨ Y b) w') cs row) css res := by
   refine all2_all2 (fun c d row hrow hdr hr => ?_) hcells
   have hr' : CellOwn (Tof (if st then Tof T0 X else Tall T0 X h σ) Y) w' c d := by simpa [CellRel] using hr
   cases st with
   | true =>
    have hT : ∀ b k, Tof (if true = true then Tof T0 X else Tall T0 X h σ) Y b k → Tof T0 (fun b => X b ∨ Y b) b k := by
     intro b k hb
     rcases hb with hb | hb
     ·rcases (show Tof T0 X b k from by simpa using hb) with hb | hb
      ·exact .inl hb
      ·exact .inr (.inl hb)
     ·exact .inr (.inr hb)
    cases d with
    | sl size rows =>
     obtain ⟨e, xs, ho, hz, hal⟩ := hr'
     exact ⟨e, xs, ho, hz, hal.imp fun _ _ => Rd.mono (fun b k v hb hc => ⟨hc, hT b k hb⟩)⟩
    | int k n => exact Rd.scalar rfl hr'
    | bool b => exact Rd.scalar rfl hr'
    | str s => exact Rd.scalar rfl hr'
   | false => exact CellOwn.flat (by simpa using hfl rfl row hrow d hdr) hr'
  have hflat := all2_flatten hcells2
  rw [hd]
  refine hK _ _ ⟨fun b => X b ∨ Y b, fun t j => if t = d then Hd.of ((css.flatten[j]?).getD undef) else h t j, ?_⟩ (Keep.of_below hbel r.hB)
  have hcell : ∀ (j size : Nat) (rows : List (List D)), res.flatten[j]? = some (D.sl size rows) → ∃ c, css.flatten[j]? = some c ∧ CellOwn (Tof T0 fun b => X b ∨ Y b) w' c (D.sl size rows) := fun j size rows hj => hflat.get' j _ hj
  have hob : ∀ j, (σ.new d (resV d res) (resObs res.flatten)).ob d j = obIn (resObs res.flatten) j := fun j => by rw [St.ob_new]; simp [hlt]
  have hsl : ∀ j, obIn (resObs res.flatten) j ≠ .none → ∃ size rows, res.flatten[j]? = some (D.sl size rows) := by
   intro j hne
   rw [resObs_get] at hne
   split at hne
   ·rename_i size rows hj; exact ⟨size, rows, hj⟩
   ·exact absurd rfl hne
  refine r.new hfr (Below.grownBy hbel) (fun b hb => .inl hb) (fun b hb => hb.imp id (fun hy => hY b hy)) (resV d res) (retOf vs) (resObs res.flatten) (fun j => Hd.of ((css.flatten[j]?).getD undef)) ?_ (fun j => ?_) (fun j b _ hb => hb) (fun j b hne hb => ?_) (fun j j' b hne hne' hb hb' => ?_)
  ·refine resV_rel hform (all2_all2 (fun _ _ _ _ _ hr => CellOwn.top hr) hcells2) (fun i size rows hi => ⟨false, ?_⟩) (fun i c hi => by simp [hi, Hd.of])
   rw [hob, resObs_get, hi]
  ·rw [resObs_get]
   split
   ·rename_i size rows hj
    obtain ⟨c, hc', hown⟩ := hcell j size rows hj
    obtain ⟨e, xs, ho, hz, hal⟩ := hown
    exact ⟨e, xs, by rw [hc']; exact ho, hz, hal⟩
   ·trivial
  ·obtain ⟨size, rows, hj⟩ := hsl j hne
   obtain ⟨c, hc', _⟩ := hcell j size rows hj
   have hb' : blk c = some b := by simpa [Hd.of, hc'] using hb
   have := hap.1 j c _ b hc' hj rfl hb'
   refine ⟨this.1, ?_, this.2.1⟩
   rintro (hx | hy)
   ·have := r.hX b hx; omega
   ·exact this.2.2 hy
  ·obtain ⟨size, rows, hj⟩ := hsl j hne
   obtain ⟨size', rows', hj'⟩ := hsl j' hne'
   obtain ⟨c, hc', _⟩ := hcell j size rows hj
   obtain ⟨c2, hc2, _⟩ := hcell j' size' rows' hj'
   exact hap.2 j j' c c2 _ _ b hc' hj hc2 hj' rfl rfl (by simpa [Hd.of, hc'] using hb) (by simpa [Hd.of, hc2] using hb')
end
end Go.Vm
namespace Go.Vm
open Go.RowKit
section
variable {P : Program} {T0 : CS} {B : Nat → Prop} {σ : St} {a : Act} {w w' : World} {X X' : Nat → Prop} {h : Nat → Nat → Hd}

theorem Keep.of_grown {B : Nat → Prop} (hg : w.grownBy w' none) (hB : ∀ b, B b → b < w.heap.size) : Keep B w w' := ⟨hg.os, hg.tape, hg.output, hg.size, fun k hk => hg.block k (hB k hk) (by simp)⟩

theorem Rel.newBox (r : Rel T0 B σ a w X h) {d : Nat} (hf : σ.fresh d = true) (cs : Array Value) (T : TypeId) (xs : List At) (hx : atsRef d xs = false) (hal : All2 (AtRel (Tof T0 X) h σ.ob w) xs cs.toList) :
  RelE T0 B (σ.new d (.one (.bptr d 0)) [.box xs]) (a.put (some d) (.pointer (some ⟨w.heap.size, 0, none⟩))) (w.alloc (.cells cs T)) ∧ Keep B w (w.alloc (.cells cs T)) := by
 have hg := World.grownBy_alloc w (.cells cs T) none
 have hlt := St.fresh_lt hf
 have hT : ∀ b k v, Tof T0 X b k → w.cell? ⟨b, k, none⟩ = some v → (w.alloc (.cells cs T)).cell? ⟨b, k, none⟩ = some v ∧ Tof T0 X b k := by
  intro b k v hb hcell
  refine ⟨?_, hb⟩
  rw [World.cell?_of_block (hg.block b (r.Tlt hb) (by simp))]; exact hcell
 refine ⟨⟨X, fun t j => if t = d then Hd.of (.pointer (some ⟨w.heap.size, 0, none⟩)) else h t j, ?_⟩, Keep.of_grown hg r.hB⟩
 have hob0 : (σ.new d (.one (.bptr d 0)) [.box xs]).ob d 0 = .box xs := by rw [St.ob_new]; simp [hlt, obIn]
 have hc : ∀ t j, t ≠ d → Cpt h (fun t j => if t = d then Hd.of (.pointer (some ⟨w.heap.size, 0, none⟩)) else h t j) σ.ob (σ.new d (.one (.bptr d 0)) [.box xs]).ob t j := by
  intro t j hne
  have he : (σ.new d (.one (.bptr d 0)) [.box xs]).ob t j = σ.ob t j := by rw [St.ob_new, if_neg (fun hh => hne hh.1)]
  exact Cpt.same (by simp [hne]) he
 refine r.new hf hg (fun _ hb => hb) (fun _ hb => .inl hb) _ _ [.box xs] (fun _ => Hd.of (.pointer (some ⟨w.heap.size, 0, none⟩))) ?_ (fun j => ?_) (fun j b _ hb => hb) (fun j b _ hb => ?_) (fun j j' b hne hne' _ _ => ?_)
 ·exact ⟨rfl, fun cells _ => ⟨w.heap.size, by simp [Hd.of], rfl⟩⟩
 ·cases j with
  | zero =>
   refine ⟨w.heap.size, cs, T, rfl, ?_, ats_carry hT hc hx hal⟩
   exact heap_alloc_new w _
  | succ j => simp [obIn, ObRel]
 ·simp [Hd.of, blk] at hb; subst hb
  refine ⟨Nat.le_refl _, fun hx' => ?_, by simp⟩
  have := (r.hX _ hx').2; omega
 ·have : ∀ j, obIn [Ob.box xs] j ≠ .none → j = 0 := by
   intro j hj
   cases j with
   | zero => rfl
   | succ j => simp [obIn] at hj
  rw [this j hne, this j' hne']

theorem Rel.newArr (r : Rel T0 B σ a w X h) {d : Nat} (hf : σ.fresh d = true) (hg : w.grownBy w' none) (v : Value) {size : Nat} {rows : List (List D)}
  (ho : CellOwn (Tof T0 X) w' v (.sl size rows)) (hb : ∀ b, blk v = some b → w.heap.size ≤ b ∧ b < w'.heap.size) :
  RelE T0 B (σ.new d (.one (.sref d 0 0 rows.length)) [.arr false size rows]) (a.put (some d) v) w' ∧ Keep B w w' := by
 have hlt := St.fresh_lt hf
 refine ⟨⟨X, fun t j => if t = d then Hd.of v else h t j, ?_⟩, Keep.of_grown hg r.hB⟩
 have hob0 : (σ.new d (.one (.sref d 0 0 rows.length)) [.arr false size rows]).ob d 0 = .arr false size rows := by rw [St.ob_new]; simp [hlt, obIn]
 obtain ⟨e, xs, hown, hz, hal⟩ := ho
 refine r.new hf hg (fun _ hb => hb) (fun _ hb => .inl hb) _ _ [.arr false size rows] (fun _ => Hd.of v) ?_ (fun j => ?_) (fun j b _ hb => hb) (fun j b _ hb' => ?_) (fun j j' b hne hne' _ _ => ?_)
 ·refine ⟨owns_oneCell hown, fun q' size' rows' ho' => ?_, fun size' rows' ho' => by rw [hob0] at ho'; cases ho'⟩
  rw [hob0] at ho'; cases ho'
  simp only [if_true]
  exact hd_self hown
 ·cases j with
  | zero => exact ⟨e, xs, hown, hz, hal⟩
  | succ j => simp [obIn, ObRel]
 ·have := hb b hb'
  refine ⟨this.1, fun hx' => ?_, this.2⟩
  have := (r.hX _ hx').2; omega
 ·have : ∀ j, obIn [Ob.arr false size rows] j ≠ .none → j = 0 := by
   intro j hj
   cases j with
   | zero => rfl
   | succ j => simp [obIn] at hj
  rw [this j hne, this j' hne']
theorem Rel.newDeep (r : Rel T0 B σ a w X h) {d : Nat} (hf : σ.fresh d = true) (hg : w.grownBy w' none) (v : Value) {e : TypeId} {size : Nat} {rows : List (List D)} {xs : List Value}
  (hown : w'.ownsRow 0 e size v rows.length xs) (hz : ∀ r ∈ rows, r.length = size) (hal : OwnC w' xs rows.flatten (fun _ => False)) (hb : ∀ b, blk v = some b → w.heap.size ≤ b ∧ b < w'.heap.size) :
  RelE T0 B (σ.new d (.one (.sref d 0 0 rows.length)) [.arr true size rows]) (a.put (some d) v) w' ∧ Keep B w w' := by
 have hlt := St.fresh_lt hf
 refine ⟨⟨X, fun t j => if t = d then ⟨v, fun k => (xs[k]?).getD undef, fun b => blk v = some b⟩ else h t j, ?_⟩, Keep.of_grown hg r.hB⟩
 have hob0 : (σ.new d (.one (.sref d 0 0 rows.length)) [.arr true size rows]).ob d 0 = .arr true size rows := by rw [St.ob_new]; simp [hlt, obIn]
 refine r.new hf hg (fun _ hb => hb) (fun _ hb => .inl hb) _ _ [.arr true size rows] (fun _ => ⟨v, fun k => (xs[k]?).getD undef, fun b => blk v = some b⟩) ?_ (fun j => ?_) (fun j b _ hb => hb) (fun j b _ hb' => ?_) (fun j j' b hne hne' _ _ => ?_)
 ·refine ⟨owns_oneCell hown, fun q' size' rows' ho' => ?_, fun size' rows' ho' => by rw [hob0] at ho'; cases ho'⟩
  rw [hob0] at ho'; cases ho'
  simp only [if_true]
  exact hd_self hown
 ·cases j with
  | zero =>
   obtain ⟨hl, Sk, h1, h2, h3⟩ := hal
   exact ⟨e, xs, hown, hz, ⟨hl, Sk, h1, fun k b hk => (h2 k b hk).elim, h3⟩, fun k x d hx _ _ => by simp [hx]⟩
  | succ j => simp [obIn, ObRel]
 ·have := hb b hb'
  refine ⟨this.1, fun hx' => ?_, this.2⟩
  have := (r.hX _ hx').2; omega
 ·have : ∀ j, obIn [Ob.arr true size rows] j ≠ .none → j = 0 := by
   intro j hj
   cases j with
   | zero => rfl
   | succ j => simp [obIn] at hj
  rw [this j hne, this j' hne']

theorem sound_alloc (r : Rel T0 B σ a w X h) {o : Oper} {T : TypeId} {d : Nat} {row : List At} (hop : o.op = .alloc T) (hd : o.dst = some d) (hf : σ.fresh d = true) (hz : zeroOk P T = true) (hzr : zrow P 12 T = some row) (hrow : atsRef d row = false)
  {K : Act → World → Prop} {Q : Exit → Act → World → Prop} (hK : ∀ a' w', RelE T0 B (σ.new d (.one (.bptr d 0)) [.box row]) a' w' → Keep B w w' → K a' w') : o.wp P a w K Q := by
 obtain ⟨i, z, hi, hzv, hsz, hal⟩ := zero_run hz hzr
 have hrun : (execOp a.eval o).run P w = .ok (.value (.pointer (some ⟨w.heap.size, 0, none⟩))) (w.alloc (.cells z.cells T)) := by
  simp [execOp, hop, Instr.alloc, zeroValue, typeInfo, hi, hzv, newVar, newRow]
 unfold Oper.wp
 rw [hrun, Oper.upon_value, hd]
 have := r.newBox hf z.cells T row hrow (hal _ _ _ _)
 exact hK _ _ this.1 this.2

theorem sound_box (r : Rel T0 B σ a w X h) {o : Oper} {T : TypeId} {x : Operand} {d : Nat} (hop : o.op = .box T x) (hd : o.dst = some d) (hf : σ.fresh d = true) (hg : gOf (look P σ T x) = true) (hfl : (unc (look P σ T x)).flat = true) (hrow : atsRef d (unc (look P σ T x)).cells = false)
  {K : Act → World → Prop} {Q : Exit → Act → World → Prop} (hK : ∀ a' w', RelE T0 B (σ.new d (.one (.bptr d 0)) [.box (unc (look P σ T x)).cells]) a' w' → Keep B w w' → K a' w') : o.wp P a w K Q := by
 have hal := flat_rel hfl (r.arg (P := P) T x rfl hg)
 have hrun : (execOp a.eval o).run P w = .ok (.value (.pointer (some ⟨w.heap.size, 0, none⟩))) (w.alloc (.cells (a.eval x).cells T)) := by
  simp [execOp, hop, Instr.box, newVar, newRow]
 unfold Oper.wp
 rw [hrun, Oper.upon_value, hd]
 have := r.newBox hf (a.eval x).cells T _ hrow hal
 exact hK _ _ this.1 this.2
end
end Go.Vm
