/- An abstract machine SD the model of Go, by value, and that it is sound: part Va. No condition. -/
import Derived.WalkKit
import Derived.Below
namespace Go.Vm
inductive D where
 | int (k : IntKind) (n : Int)
 | bool (b : Bool)
 | str (s : ByteArray)
 | sl (size : Nat) (rows : List (List D))
 deriving Inhabited
def D.scalar : D → Bool
 | .sl _ _ => false
 | _ => true
abbrev CS := Nat → Nat → Prop
inductive Rd (T : CS) (w : World) : Value → D → Prop
 | int (k : IntKind) (n : Int) : Rd T w (.int k n) (.int k n)
 | bool (b : Bool) : Rd T w (.bool b) (.bool b)
 | str (s : ByteArray) : Rd T w (.string s) (.str s)
 | nil (size : Nat) : Rd T w (.slice none 0 0) (.sl size [])
 | sl (a : Addr) (len cap size : Nat) (rows : List (List D)) (g : Nat → Value)
   (hl : rows.length = len) (hc : len ≤ cap) (hm : cap ≤ maxLen) (hz : ∀ r ∈ rows, r.length = size) (hs : rows.flatten ≠ [] → a.spot = none)
   (hg : ∀ k d, rows.flatten[k]? = some d → w.cell? ⟨a.block, a.off + k, none⟩ = some (g k) ∧ T a.block (a.off + k))
   (hr : ∀ k d, rows.flatten[k]? = some d → Rd T w (g k) d) : Rd T w (.slice (some a) len cap) (.sl size rows)
theorem Rd.mono {T T' : CS} {w w' : World} (hT : ∀ b k v, T b k → w.cell? ⟨b, k, none⟩ = some v → w'.cell? ⟨b, k, none⟩ = some v ∧ T' b k)
  {v : Value} {d : D} (h : Rd T w v d) : Rd T' w' v d := by
 induction h with
 | int k n => exact .int k n
 | bool b => exact .bool b
 | str s => exact .str s
 | nil s => exact .nil s
 | sl a len cap size rows g hl hc hm hz hs hg hr ih =>
  exact .sl a len cap size rows g hl hc hm hz hs (fun k d hk => hT _ _ _ (hg k d hk).2 (hg k d hk).1) (fun k d hk => ih k d hk)
theorem Rd.X4 {T : CS} {w : World} {v : Value} {d : D} (h : Rd T w v d) : v.oneCell' = true := by
 cases h <;> rfl
inductive At where
 | any
 | d (x : D)
 | nil (size : Nat)
 | sref (t j lo len : Nat)
 | ptr (t j i c : Nat)
 | bptr (t c : Nat)
 | fn (f t : Nat)
 | rptr (r : List D) (c : Nat)
 | tref (t j i c : Nat)
 deriving Inhabited
inductive V where
 | any
 | one (x : At)
 | agg (xs : List At)
 | tup (xs : List V)
 | cnd (g : Bool) (x : V)
 | fix (v : Value) (x : V)
 deriving Inhabited
inductive Ob where
 | none
 | box (cells : List At)
 | arr (q : Bool) (size : Nat) (rows : List (List D))
 | lit (size : Nat) (rows : List (List At))
 deriving Inhabited
structure Hd where
 v : Value
 n : Nat → Value
 u : Nat → Prop
abbrev Ent := V × List Ob
abbrev St := List Ent
def St.get (σ : St) (t : Nat) : V := match σ[t]? with | some e => e.1 | none => .any
def Yb (os : List Ob) (j : Nat) : Ob := match os[j]? with | some o => o | none => .none
def St.ob (σ : St) (t j : Nat) : Ob := match σ[t]? with | some e => Yb e.2 j | none => .none
def St.put : St → Nat → V → St
 | [], _, _ => []
 | e :: σ, 0, v => (v, e.2) :: σ
 | e :: σ, t + 1, v => e :: St.put σ t v
def St.YQ : St → Nat → Nat → Ob → St
 | [], _, _, _ => []
 | e :: σ, 0, j, o => (e.1, e.2.set j o) :: σ
 | e :: σ, t + 1, j, o => e :: St.YQ σ t j o
def St.new : St → Nat → V → List Ob → St
 | [], _, _, _ => []
 | _ :: σ, 0, v, os => (v, os) :: σ
 | e :: σ, t + 1, v, os => e :: St.new σ t v os
theorem St.J9 (σ : St) (t : Nat) (v : V) : (σ.put t v).length = σ.length := by
 induction σ generalizing t with
 | nil => rfl
 | cons e σ ih => cases t <;> simp [St.put, ih]
theorem St.QG (σ : St) (t j : Nat) (o : Ob) : (σ.YQ t j o).length = σ.length := by
 induction σ generalizing t with
 | nil => rfl
 | cons e σ ih => cases t <;> simp [St.YQ, ih]
theorem St.UX (σ : St) (t : Nat) (v : V) (os : List Ob) : (σ.new t v os).length = σ.length := by
 induction σ generalizing t with
 | nil => rfl
 | cons e σ ih => cases t <;> simp [St.new, ih]
theorem St.qW (σ : St) (t : Nat) (v : V) (u : Nat) : (σ.put t v).get u = if u = t ∧ t < σ.length then v else σ.get u := by
 induction σ generalizing t u with
 | nil => simp [St.put, St.get]
 | cons e σ ih =>
  cases t with
  | zero => cases u <;> simp [St.put, St.get]
  | succ t => cases u with
   | zero => simp [St.put, St.get]
   | succ u => have := ih t u; simp only [St.get, St.put] at this ⊢; simpa using this
theorem St.JX (σ : St) (t : Nat) (v : V) : (σ.put t v).ob = σ.ob := by
 funext u j
 induction σ generalizing t u with
 | nil => simp [St.put, St.ob]
 | cons e σ ih =>
  cases t with
  | zero => cases u <;> simp [St.put, St.ob]
  | succ t => cases u with
   | zero => simp [St.put, St.ob]
   | succ u => have := ih t u; simp only [St.ob, St.put] at this ⊢; simpa using this
theorem St.Q8 (σ : St) (t j : Nat) (o : Ob) (u : Nat) : (σ.YQ t j o).get u = σ.get u := by
 induction σ generalizing t u with
 | nil => simp [St.YQ, St.get]
 | cons e σ ih =>
  cases t with
  | zero => cases u <;> simp [St.YQ, St.get]
  | succ t => cases u with
   | zero => simp [St.YQ, St.get]
   | succ u => have := ih t u; simp only [St.get, St.YQ] at this ⊢; simpa using this
theorem He (os : List Ob) (j : Nat) (o : Ob) (i : Nat) : Yb (os.set j o) i = if i = j ∧ j < os.length then o else Yb os i := by
 unfold Yb
 rw [List.getElem?_set]
 by_cases h : j = i
 ·subst h
  by_cases h2 : j < os.length
  ·simp [h2]
  ·simp [h2]
 ·simp [h, Ne.symm h]
theorem St.KC (σ : St) (t j : Nat) (o : Ob) (u i : Nat) (hl : σ.ob t j ≠ .none) : (σ.YQ t j o).ob u i = if u = t ∧ i = j then o else σ.ob u i := by
 induction σ generalizing t u with
 | nil => simp [St.ob] at hl
 | cons e σ ih =>
  cases t with
  | zero =>
   have hj : j < e.2.length := by
    simp only [St.ob, List.getElem?_cons_zero, Yb] at hl
    rcases Nat.lt_or_ge j e.2.length with h | h
    ·exact h
    ·simp [List.getElem?_eq_none h] at hl
   cases u with
   | zero => simp [St.YQ, St.ob, He, hj]
   | succ u => simp [St.YQ, St.ob]
  | succ t => cases u with
   | zero => simp [St.YQ, St.ob]
   | succ u =>
    have := ih t u (by simpa [St.ob] using hl)
    simp only [St.ob, St.YQ] at this ⊢; simpa using this
theorem St.Tt (σ : St) (t : Nat) (v : V) (os : List Ob) (u : Nat) : (σ.new t v os).get u = if u = t ∧ t < σ.length then v else σ.get u := by
 induction σ generalizing t u with
 | nil => simp [St.new, St.get]
 | cons e σ ih =>
  cases t with
  | zero => cases u <;> simp [St.new, St.get]
  | succ t => cases u with
   | zero => simp [St.new, St.get]
   | succ u => have := ih t u; simp only [St.get, St.new] at this ⊢; simpa using this
theorem St.KO (σ : St) (t : Nat) (v : V) (os : List Ob) (u j : Nat) : (σ.new t v os).ob u j = if u = t ∧ t < σ.length then Yb os j else σ.ob u j := by
 induction σ generalizing t u with
 | nil => simp [St.new, St.ob]
 | cons e σ ih =>
  cases t with
  | zero => cases u <;> simp [St.new, St.ob]
  | succ t => cases u with
   | zero => simp [St.new, St.ob]
   | succ u => have := ih t u; simp only [St.ob, St.new] at this ⊢; simpa using this
def E9 (h : Value) (size n lo len : Nat) (v : Value) : Prop :=
 lo + len ≤ n ∧ (len = n → lo = 0 → v = h) ∧ ∃ base cap, v = .slice base len cap ∧ len ≤ cap ∧ cap ≤ maxLen ∧ (base = none → cap = 0) ∧ (0 < len → ∃ b cap0, h = .slice (some ⟨b, 0, none⟩) n cap0 ∧ base = some ⟨b, lo * size, none⟩)
def Z8 (T : CS) (h : Nat → Nat → Hd) (ob : Nat → Nat → Ob) (w : World) : At → Value → Prop
 | .any, v => v.oneCell' = true
 | .d x, v => Rd T w v x
 | .nil _, v => v = .slice none 0 0
 | .sref t j lo len, v => v.oneCell' = true ∧ (∀ q size rows, ob t j = .arr q size rows → E9 (h t j).v size rows.length lo len v) ∧ (∀ size rows, ob t j = .lit size rows → E9 (h t j).v size rows.length lo len v)
 | .ptr t j i c, v => v.oneCell' = true ∧ (∀ q size rows, ob t j = .arr q size rows → ∃ b n cap, (h t j).v = .slice (some ⟨b, 0, none⟩) n cap ∧ v = .pointer (some ⟨b, i * size + c, none⟩))
 | .bptr t c, v => v.oneCell' = true ∧ ∀ cells, ob t 0 = .box cells → ∃ b, (h t 0).v = .pointer (some ⟨b, 0, none⟩) ∧ v = .pointer (some ⟨b, c, none⟩)
 | .fn f t, v => v.oneCell' = true ∧ ∀ cells, ob t 0 = .box cells → ∃ b, (h t 0).v = .pointer (some ⟨b, 0, none⟩) ∧ v = .func (.func f) #[] #[.pointer (some ⟨b, 0, none⟩)]
 | .rptr r c, v => ∃ b off, ∃ g : Nat → Value, v = .pointer (some ⟨b, off + c, none⟩) ∧ ∀ k d, r[k]? = some d → w.cell? ⟨b, off + k, none⟩ = some (g k) ∧ T b (off + k) ∧ Rd T w (g k) d
 | .tref t j i c, v => v.oneCell' = true ∧ ∀ size rows, ob t j = .arr true size rows → v = (h t j).n (i * size + c)
theorem Z8.X4 {T : CS} {h : Nat → Nat → Hd} {ob : Nat → Nat → Ob} {w : World} {x : At} {v : Value} (r : Z8 T h ob w x v) : v.oneCell' = true := by
 cases x with
 | any => exact r
 | d x => exact Rd.X4 r
 | nil s => cases r; rfl
 | sref => exact r.1
 | ptr => exact r.1
 | bptr => exact r.1
 | fn => exact r.1
 | tref => exact r.1
 | rptr r' c => obtain ⟨b, off, g, rfl, _⟩ := r; rfl
inductive Zt {α β : Type} (R : α → β → Prop) : List α → List β → Prop
 | nil : Zt R [] []
 | cons {a b l m} : R a b → Zt R l m → Zt R (a :: l) (b :: m)
theorem Zt.imp {α β : Type} {R S : α → β → Prop} (h : ∀ a b, R a b → S a b) {l : List α} {m : List β} (x : Zt R l m) : Zt S l m := by
 induction x with
 | nil => exact .nil
 | cons r _ ih => exact .cons (h _ _ r) ih
theorem Zt.length {α β : Type} {R : α → β → Prop} {l : List α} {m : List β} (x : Zt R l m) : l.length = m.length := by
 induction x with
 | nil => rfl
 | cons r _ ih => simp [ih]
theorem Zt.get {α β : Type} {R : α → β → Prop} {l : List α} {m : List β} (x : Zt R l m) : ∀ (i : Nat) (a : α), l[i]? = some a → ∃ b, m[i]? = some b ∧ R a b := by
 induction x with
 | nil => intro i a h; simp at h
 | cons r _ ih =>
  intro i a h
  cases i with
  | zero => simp at h; subst h; exact ⟨_, by simp, r⟩
  | succ i => simpa using ih i a (by simpa using h)
theorem Zt.get' {α β : Type} {R : α → β → Prop} {l : List α} {m : List β} (x : Zt R l m) : ∀ (i : Nat) (b : β), m[i]? = some b → ∃ a, l[i]? = some a ∧ R a b := by
 induction x with
 | nil => intro i a h; simp at h
 | cons r _ ih =>
  intro i a h
  cases i with
  | zero => simp at h; subst h; exact ⟨_, by simp, r⟩
  | succ i => simpa using ih i a (by simpa using h)
theorem Zt.yi {α β : Type} {R : α → β → Prop} {l : List α} {m : List β} (hl : l.length = m.length) (h : ∀ (i : Nat) (a : α) (b : β), l[i]? = some a → m[i]? = some b → R a b) : Zt R l m := by
 induction l generalizing m with
 | nil => cases m with
  | nil => exact .nil
  | cons b m => simp at hl
 | cons a l ih => cases m with
  | nil => simp at hl
  | cons b m => exact .cons (h 0 a b (by simp) (by simp)) (ih (by simpa using hl) (fun i a b ha hb => h (i + 1) a b (by simpa using ha) (by simpa using hb)))
theorem Zt.append {α β : Type} {R : α → β → Prop} {l l' : List α} {m m' : List β} (x : Zt R l m) (y : Zt R l' m') : Zt R (l ++ l') (m ++ m') := by
 induction x with
 | nil => exact y
 | cons r _ ih => exact .cons r ih
theorem Zt.take {α β : Type} {R : α → β → Prop} {l : List α} {m : List β} (x : Zt R l m) (n : Nat) : Zt R (l.take n) (m.take n) := by
 induction x generalizing n with
 | nil => simpa using Zt.nil
 | cons r _ ih => cases n with
  | zero => simpa using Zt.nil
  | succ n => simpa using Zt.cons r (ih n)
theorem Zt.drop {α β : Type} {R : α → β → Prop} {l : List α} {m : List β} (x : Zt R l m) (n : Nat) : Zt R (l.drop n) (m.drop n) := by
 induction x generalizing n with
 | nil => simpa using Zt.nil
 | cons r x ih => cases n with
  | zero => simpa using Zt.cons r x
  | succ n => simpa using ih n
theorem Zt.set {α β : Type} {R : α → β → Prop} {l : List α} {m : List β} (x : Zt R l m) (i : Nat) {a : α} {b : β} (r : R a b) : Zt R (l.set i a) (m.set i b) := by
 induction x generalizing i with
 | nil => simpa using Zt.nil
 | cons r' x ih => cases i with
  | zero => simpa using Zt.cons r x
  | succ i => simpa using Zt.cons r' (ih i)
theorem Zt.mem {α β : Type} {R : α → β → Prop} {l : List α} {m : List β} (x : Zt R l m) {b : β} (h : b ∈ m) : ∃ a, a ∈ l ∧ R a b := by
 obtain ⟨i, hi⟩ := List.mem_iff_getElem?.1 h
 obtain ⟨a, ha, r⟩ := x.get' i b hi
 exact ⟨a, List.mem_of_getElem? ha, r⟩
def Qt (T : CS) (h : Nat → Nat → Hd) (ob : Nat → Nat → Ob) (w : World) : V → Value → Prop
 | .any, _ => True
 | .one x, v => Z8 T h ob w x v
 | .agg xs, v => ∃ cs : Array Value, v = .agg cs ∧ Zt (Z8 T h ob w) xs cs.toList
 | .tup _, _ => False
 | .cnd _ _, _ => False
 | .fix _ _, _ => False
def X0 (T : CS) (h : Nat → Nat → Hd) (ob : Nat → Nat → Ob) (w : World) : V → Value → Prop
 | .tup xs, v => ∃ vs : Array Value, v = .tuple vs ∧ Zt (Qt T h ob w) xs vs.toList
 | .cnd g x, v => (g = true → Qt T h ob w x v) ∧ (g = false → v = undef)
 | .any, _ => True
 | .one x, v => Z8 T h ob w x v
 | .agg xs, v => Qt T h ob w (.agg xs) v
 | .fix u x, v => v = u ∧ Qt T h ob w x v
theorem Qt.up {T : CS} {h : Nat → Nat → Hd} {ob : Nat → Nat → Ob} {w : World} {x : V} {v : Value} (r : Qt T h ob w x v) : X0 T h ob w x v := by
 cases x <;> first | exact r | exact r.elim
def blk : Value → Option Nat
 | .slice (some a) _ _ => some a.block
 | .pointer (some a) => some a.block
 | _ => none
def Hd.of (v : Value) : Hd := ⟨v, fun _ => undef, fun b => blk v = some b⟩
inductive Own (w : World) : Value → D → (Nat → Prop) → Prop
 | int (k : IntKind) (n : Int) (S : Nat → Prop) : Own w (.int k n) (.int k n) S
 | bool (b : Bool) (S : Nat → Prop) : Own w (.bool b) (.bool b) S
 | str (s : ByteArray) (S : Nat → Prop) : Own w (.string s) (.str s) S
 | sl (v : Value) (size : Nat) (rows : List (List D)) (S : Nat → Prop) (e : TypeId) (xs : List Value) (Sk : Nat → Nat → Prop) (ho : w.ownsRow 0 e size v rows.length xs) (hz : ∀ r ∈ rows, r.length = size)
   (hb : ∀ b, blk v = some b → S b) (hl : xs.length = rows.flatten.length) (hk : ∀ k x d, xs[k]? = some x → rows.flatten[k]? = some d → Own w x d (Sk k))
   (hs : ∀ k b, Sk k b → S b ∧ blk v ≠ some b) (hd : ∀ i j b, Sk i b → Sk j b → i = j) : Own w v (.sl size rows) S
def KA (w : World) (xs : List Value) (ds : List D) (S : Nat → Prop) : Prop :=
 xs.length = ds.length ∧ ∃ Sk : Nat → Nat → Prop, (∀ k x d, xs[k]? = some x → ds[k]? = some d → Own w x d (Sk k)) ∧ (∀ k b, Sk k b → S b) ∧ (∀ i j b, Sk i b → Sk j b → i = j)
def J1 (T : CS) (h : Nat → Nat → Hd) (ob : Nat → Nat → Ob) (w : World) (hd : Hd) : Ob → Prop
 | .none => True
 | .box cells => ∃ b cs e, hd.v = .pointer (some ⟨b, 0, none⟩) ∧ w.heap[b]? = some (.cells cs e (0, 0)) ∧ Zt (Z8 T h ob w) cells cs.toList
 | .arr false size rows => ∃ e xs, w.ownsRow 0 e size hd.v rows.length xs ∧ (∀ r ∈ rows, r.length = size) ∧ Zt (Rd T w) xs rows.flatten
 | .arr true size rows => ∃ e xs, w.ownsRow 0 e size hd.v rows.length xs ∧ (∀ r ∈ rows, r.length = size) ∧ KA w xs rows.flatten (fun b => hd.u b ∧ blk hd.v ≠ some b) ∧ (∀ k x d, xs[k]? = some x → rows.flatten[k]? = some d → d.scalar = false → hd.n k = x)
 | .lit size rows => ∃ e xs, w.ownsRow 0 e size hd.v rows.length xs ∧ (∀ r ∈ rows, r.length = size) ∧ Zt (Z8 T h ob w) rows.flatten xs
def Tof (T0 : CS) (X : Nat → Prop) : CS := fun b k => T0 b k ∨ X b
structure Y8 (B : Nat → Prop) (w w' : World) : Prop where
 os : w'.os = w.os
 tape : w'.tape = w.tape
 output : w'.output = w.output
 size : w.heap.size ≤ w'.heap.size
 block : ∀ k, B k → w'.heap[k]? = w.heap[k]?
theorem Y8.refl (B : Nat → Prop) (w : World) : Y8 B w w := ⟨rfl, rfl, rfl, Nat.le_refl _, fun _ _ => rfl⟩
theorem Y8.trans {B : Nat → Prop} {a b c : World} (h : Y8 B a b) (k : Y8 B b c) : Y8 B a c :=
 ⟨k.os.trans h.os, k.tape.trans h.tape, k.output.trans h.output, Nat.le_trans h.size k.size, fun i hi => (k.block i hi).trans (h.block i hi)⟩
theorem Y8.Pt {B : Nat → Prop} {w w' : World} (h : RowKit.Below w.heap.size w w') (hB : ∀ b, B b → b < w.heap.size) : Y8 B w w' := ⟨h.os, h.tape, h.output, h.size, fun k hk => h.block k (hB k hk)⟩
structure Rel (T0 : CS) (B : Nat → Prop) (σ : St) (a : Act) (w : World) (X : Nat → Prop) (h : Nat → Nat → Hd) : Prop where
 size : a.tmps.size = σ.length
 defers : a.defers = []
 hB : ∀ b, B b → b < w.heap.size
 hX : ∀ b, X b → ¬ B b ∧ b < w.heap.size
 hT : ∀ b k, T0 b k → B b
 slot : ∀ t, t < σ.length → X0 (Tof T0 X) h σ.ob w (σ.get t) (a.tmps.getD t undef)
 obj : ∀ t j, J1 (Tof T0 X) h σ.ob w (h t j) (σ.ob t j)
 ub : ∀ t j b, σ.ob t j ≠ .none → blk (h t j).v = some b → (h t j).u b
 own : ∀ t j b, σ.ob t j ≠ .none → (h t j).u b → ¬ B b ∧ ¬ X b ∧ b < w.heap.size
 inj : ∀ t j t' j' b, σ.ob t j ≠ .none → σ.ob t' j' ≠ .none → (h t j).u b → (h t' j').u b → t = t' ∧ j = j'
def JV (T0 : CS) (B : Nat → Prop) (σ : St) (a : Act) (w : World) : Prop := ∃ X h, Rel T0 B σ a w X h
theorem Rel.DL {T0 : CS} {B : Nat → Prop} {σ : St} {a : Act} {w : World} {X : Nat → Prop} {h : Nat → Nat → Hd} (r : Rel T0 B σ a w X h) {t j b : Nat} (ho : σ.ob t j ≠ .none) (hb : blk (h t j).v = some b) : ¬ B b ∧ ¬ X b ∧ b < w.heap.size :=
 r.own t j b ho (r.ub t j b ho hb)
section
variable {T T' : CS} {h h' : Nat → Nat → Hd} {ob ob' : Nat → Nat → Ob} {w w' : World}
theorem Z8.mono (hT : ∀ b k v, T b k → w.cell? ⟨b, k, none⟩ = some v → w'.cell? ⟨b, k, none⟩ = some v ∧ T' b k) {x : At} {v : Value}
  (r : Z8 T h ob w x v) : Z8 T' h ob w' x v := by
 cases x with
 | any => exact r
 | d x => exact Rd.mono hT r
 | nil s => exact r
 | sref t j lo len => exact r
 | ptr t j i c => exact r
 | bptr t c => exact r
 | fn f t => exact r
 | tref t j i c => exact r
 | rptr rr c =>
  obtain ⟨b, off, g, e, hk⟩ := r
  exact ⟨b, off, g, e, fun k d hd => ⟨(hT _ _ _ (hk k d hd).2.1 (hk k d hd).1).1, (hT _ _ _ (hk k d hd).2.1 (hk k d hd).1).2, Rd.mono hT (hk k d hd).2.2⟩⟩
theorem Qt.mono (hT : ∀ b k v, T b k → w.cell? ⟨b, k, none⟩ = some v → w'.cell? ⟨b, k, none⟩ = some v ∧ T' b k) {x : V} {v : Value}
  (r : Qt T h ob w x v) : Qt T' h ob w' x v := by
 cases x with
 | any => exact r
 | one x => exact Z8.mono hT r
 | agg xs => obtain ⟨cs, e, r⟩ := r; exact ⟨cs, e, r.imp fun _ _ => Z8.mono hT⟩
 | tup xs => exact r.elim
 | cnd g x => exact r.elim
 | fix u x => exact r.elim
theorem X0.mono (hT : ∀ b k v, T b k → w.cell? ⟨b, k, none⟩ = some v → w'.cell? ⟨b, k, none⟩ = some v ∧ T' b k) {x : V} {v : Value}
  (r : X0 T h ob w x v) : X0 T' h ob w' x v := by
 cases x with
 | any => exact r
 | one x => exact Z8.mono hT r
 | agg xs => exact Qt.mono (x := .agg xs) hT r
 | tup xs => obtain ⟨vs, e, r⟩ := r; exact ⟨vs, e, r.imp fun _ _ => Qt.mono hT⟩
 | cnd g x => exact ⟨fun hg => Qt.mono hT (r.1 hg), r.2⟩
 | fix u x => exact ⟨r.1, Qt.mono hT r.2⟩
end
end Go.Vm
namespace Go.Vm
def unc : V → V
 | .cnd _ x => x
 | .fix _ x => x
 | x => x
def gOf : V → Bool
 | .cnd g _ => g
 | _ => true
def ZT (P : Program) (t : TypeId) : TypeId :=
 match P.underlying t with
 | some (.slice e) => e
 | some (.array _ e) => e
 | _ => 0
def YY (P : Program) (t : TypeId) : Bool :=
 match P.underlying t with
 | some (.slice e) => (P.info? e).isSome
 | _ => false
def FF (P : Program) (t : TypeId) : Option Nat :=
 match P.underlying t with
 | some (.array n e) => if (P.info? e).isSome then some n else none
 | _ => none
def XD (P : Program) (t : TypeId) : Bool :=
 match P.underlying t with
 | some (.struct _) | some (.array _ _) => true
 | _ => false
def Y5 (P : Program) (t : TypeId) : Bool :=
 (P.underlying t).isSome && (P.info? t).isSome && (XD P t || P.cellsOf t == 1)
def ZK (P : Program) (t : TypeId) (f : Nat) : Nat :=
 match P.underlying t with
 | some (.struct fs) => (match fs[f]? with | some fd => fd.offset | none => 0)
 | _ => 0
def ZP (P : Program) (t : TypeId) (f : Nat) : TypeId :=
 match P.underlying t with
 | some (.struct fs) => (match fs[f]? with | some fd => fd.type | none => 0)
 | _ => 0
def ZS (P : Program) (t : TypeId) (f : Nat) : Bool :=
 match P.underlying t with
 | some (.struct fs) => (match fs[f]? with | some fd => (P.info? fd.type).isSome && decide (P.cellsOf fd.type ≠ 0) | none => false)
 | _ => false
def XT (P : Program) (t : TypeId) : Option IntKind :=
 match P.underlying t with
 | some (.int k) => some k
 | _ => none
def Jh (P : Program) (t : TypeId) : Bool :=
 match P.underlying t with
 | some .string => true
 | _ => false
def S0 (P : Program) (t : TypeId) : Bool :=
 match P.underlying t with
 | some .bool => true
 | _ => false
def cst (P : Program) (ty : TypeId) : Value → V
 | .int k n => .one (.d (.int k n))
 | .bool b => .one (.d (.bool b))
 | .string s => .one (.d (.str s))
 | .slice none 0 0 => .one (.nil (P.cellsOf (ZT P ty)))
 | _ => .any
def look (P : Program) (σ : St) (ty : TypeId) : Operand → V
 | .tmp t => σ.get t
 | .const v => cst P ty v
 | _ => .any
section
variable {P : Program} {T0 : CS} {B : Nat → Prop} {σ : St} {a : Act} {w : World} {X : Nat → Prop} {h : Nat → Nat → Hd}
theorem Rel.get (r : Rel T0 B σ a w X h) (t : Nat) : X0 (Tof T0 X) h σ.ob w (σ.get t) (a.tmps.getD t undef) := by
 rcases Nat.lt_or_ge t σ.length with hl | hl
 ·exact r.slot t hl
 ·simp [St.get, List.getElem?_eq_none hl, X0]
theorem CM (T : CS) (h : Nat → Nat → Hd) (ob : Nat → Nat → Ob) (w : World) (ty : TypeId) (v : Value) : X0 T h ob w (cst P ty v) v := by
 unfold cst
 split
 ·exact .int _ _
 ·exact .bool _
 ·exact .str _
 ·rfl
 ·trivial
theorem Rel.look (r : Rel T0 B σ a w X h) (ty : TypeId) (x : Operand) : X0 (Tof T0 X) h σ.ob w (look P σ ty x) (a.eval x) := by
 cases x with
 | tmp t => exact r.get t
 | const v => exact CM _ _ _ _ _ _
 | global g => trivial
 | func f => trivial
theorem X0.unc {T : CS} {h : Nat → Nat → Hd} {ob : Nat → Nat → Ob} {w : World} {x : V} {v : Value} (r : X0 T h ob w x v) (hg : gOf x = true) : X0 T h ob w (unc x) v := by
 cases x with
 | cnd g x => exact Qt.up (r.1 hg)
 | fix u x => exact Qt.up r.2
 | _ => exact r
theorem Rel.arg (r : Rel T0 B σ a w X h) (ty : TypeId) (x : Operand) {v : V} (he : Vm.unc (Vm.look P σ ty x) = v) (hg : gOf (Vm.look P σ ty x) = true) : X0 (Tof T0 X) h σ.ob w v (a.eval x) := by
 subst he
 exact (r.look ty x).unc hg
theorem Rel.put (r : Rel T0 B σ a w X h) (d : Nat) (v : V) (val : Value) (hv : X0 (Tof T0 X) h σ.ob w v val) : Rel T0 B (σ.put d v) (a.put (some d) val) w X h := by
 refine ⟨by simp [Act.put, r.size, St.J9], r.defers, r.hB, r.hX, r.hT, fun t ht => ?_, fun t j => ?_, fun t j b => ?_, fun t j b => ?_, fun t j t' j' b => ?_⟩
 ·rw [St.JX, St.qW]
  rw [St.J9] at ht
  by_cases hd : t = d ∧ d < σ.length
  ·obtain ⟨rfl, hl⟩ := hd
   simp only [hl, and_self, if_true]
   have : (a.tmps.setIfInBounds t val).getD t undef = val := by simp [r.size, hl]
   simp only [Act.put, this]; exact hv
  ·rw [if_neg hd]
   have hne : d ≠ t := fun e => hd ⟨e.symm, e ▸ ht⟩
   have : (a.tmps.setIfInBounds d val).getD t undef = a.tmps.getD t undef := by simp [Array.getElem?_setIfInBounds_ne hne]
   simp only [Act.put, this]; exact r.slot t ht
 ·rw [St.JX]; exact r.obj t j
 ·rw [St.JX]; exact r.ub t j b
 ·rw [St.JX]; exact r.own t j b
 ·rw [St.JX]; exact r.inj t j t' j' b
end
def ldV (P : Program) (T : TypeId) (xs : List At) : V := if XD P T then .agg xs else (match xs with | [x] => .one x | _ => .any)
def Pg (op : BinOp) (k : IntKind) (x y : Int) (v : V) : Prop :=
 match op with
 | .eql => v = .one (.d (.bool (x == y)))
 | .neq => v = .one (.d (.bool (x != y)))
 | .lss => v = .one (.d (.bool (decide (x < y))))
 | .leq => v = .one (.d (.bool (decide (x ≤ y))))
 | .gtr => v = .one (.d (.bool (decide (x > y))))
 | .geq => v = .one (.d (.bool (decide (x ≥ y))))
 | .add => v = .one (.d (.int k (k.wrap (x + y))))
 | .sub => v = .one (.d (.int k (k.wrap (x - y))))
 | .mul => v = .one (.d (.int k (k.wrap (x * y))))
 | .quo => y ≠ 0 ∧ v = .one (.d (.int k (k.wrap (x.tdiv y))))
 | .rem => y ≠ 0 ∧ v = .one (.d (.int k (x.tmod y)))
 | .and => v = .one (.d (.int k (k.wrap (BitVec.ofInt k.bits x &&& BitVec.ofInt k.bits y).toNat)))
 | .or => v = .one (.d (.int k (k.wrap (BitVec.ofInt k.bits x ||| BitVec.ofInt k.bits y).toNat)))
 | .shl => 0 ≤ y ∧ v = .one (.d (.int k (k.wrap (x * 2 ^ (min y.toNat k.bits)))))
 | .shr => 0 ≤ y ∧ v = .one (.d (.int k (x.fdiv (2 ^ (min y.toNat k.bits)))))
 | _ => False
def OJ (op : BinOp) (x y : ByteArray) (v : V) : Prop :=
 match op with
 | .add => ((x.size + y.size : Nat) : Int) ≤ 9223372036854775807 ∧ v = .one (.d (.str (x ++ y)))
 | .eql => v = .one (.d (.bool (decide (x = y))))
 | .neq => v = .one (.d (.bool (!decide (x = y))))
 | _ => False
def TR (op : BinOp) (x y : Bool) (v : V) : Prop :=
 match op with
 | .eql => v = .one (.d (.bool (x == y)))
 | .neq => v = .one (.d (.bool (!(x == y))))
 | _ => False
theorem Gy {P : Program} {op : BinOp} {k : IntKind} {x y : Int} {v : V} {t : TypeId} {kk : IntKind} (hk : (op = .shl ∨ op = .shr) ∨ kk = k) (hb : Pg op k x y v) (w : World) :
  ∃ d, v = .one (.d d) ∧ ∃ val, (binOp op t (.int k x) (.int kk y)).run P w = .ok val w ∧ ∀ T w', Rd T w' val d := by
 cases op <;> simp only [Pg] at hb
 case shl => obtain ⟨h0, rfl⟩ := hb; exact ⟨_, rfl, _, by simp [binOp, Op.shift, Int.not_lt.2 h0], fun _ _ => .int _ _⟩
 case shr => obtain ⟨h0, rfl⟩ := hb; exact ⟨_, rfl, _, by simp [binOp, Op.shift, Int.not_lt.2 h0], fun _ _ => .int _ _⟩
 all_goals (have hkk : kk = k := by rcases hk with (hk | hk) | hk <;> first | exact hk | cases hk)
 all_goals subst hkk
 case quo => obtain ⟨h0, rfl⟩ := hb; exact ⟨_, rfl, _, by simp [binOp, Op.intDiv, h0], fun _ _ => .int _ _⟩
 case rem => obtain ⟨h0, rfl⟩ := hb; exact ⟨_, rfl, _, by simp [binOp, Op.intDiv, h0], fun _ _ => .int _ _⟩
 case add => subst hb; exact ⟨_, rfl, _, by simp [binOp, Op.intArith], fun _ _ => .int _ _⟩
 case sub => subst hb; exact ⟨_, rfl, _, by simp [binOp, Op.intArith], fun _ _ => .int _ _⟩
 case mul => subst hb; exact ⟨_, rfl, _, by simp [binOp, Op.intArith], fun _ _ => .int _ _⟩
 case and => subst hb; exact ⟨_, rfl, _, by simp [binOp, Op.intBits], fun _ _ => .int _ _⟩
 case or => subst hb; exact ⟨_, rfl, _, by simp [binOp, Op.intBits], fun _ _ => .int _ _⟩
 all_goals (subst hb; exact ⟨_, rfl, .bool _, by simp only [binOp, Op.intCmp, ne_eq, not_true_eq_false, if_false]; rfl, fun _ _ => .bool _⟩)
theorem Gw (x y : ByteArray) : (x.toList == y.toList) = decide (x = y) := by
 rw [ByteArray.toList_eq, ByteArray.toList_eq, Bool.eq_iff_iff]
 simp only [beq_iff_eq, decide_eq_true_eq]
 constructor
 ·intro hh; cases x; cases y; simp_all
 ·rintro rfl; rfl
theorem G6 {P : Program} {op : BinOp} {x y : ByteArray} {v : V} {t : TypeId} (hb : OJ op x y v) (w : World) :
  ∃ d, v = .one (.d d) ∧ ∃ val, (binOp op t (.string x) (.string y)).run P w = .ok val w ∧ ∀ T w', Rd T w' val d := by
 cases op <;> simp only [OJ] at hb
 case add => obtain ⟨h0, rfl⟩ := hb; exact ⟨_, rfl, _, by simp only [binOp, Op.stringOp]; rw [if_neg (by simp [IntKind.max, IntKind.signed, IntKind.bits]; omega)]; rfl, fun _ _ => .str _⟩
 case eql => subst hb; exact ⟨_, rfl, .bool _, by simp only [binOp, Op.stringOp, Gw]; rfl, fun _ _ => .bool _⟩
 case neq => subst hb; exact ⟨_, rfl, .bool _, by simp only [binOp, Op.stringOp, Gw]; rfl, fun _ _ => .bool _⟩
theorem run_equalIn_bool {P : Program} {t : TypeId} (hu : P.underlying t = some .bool) (d : Nat) (x y : Bool) (w : World) : (Op.equalIn (d + 1) t (.bool x) (.bool y)).run P w = .ok (x == y) w := by
 simp [Op.equalIn, run_underlying hu]
theorem GQ {P : Program} {op : BinOp} {x y : Bool} {v : V} {t : TypeId} (ht : S0 P t = true) (hb : TR op x y v) (w : World) :
  ∃ d, v = .one (.d d) ∧ ∃ val, (binOp op t (.bool x) (.bool y)).run P w = .ok val w ∧ ∀ T w', Rd T w' val d := by
 have hu : P.underlying t = some .bool := by
  unfold S0 at ht; split at ht <;> first | assumption | cases ht
 cases op <;> simp only [TR] at hb
 case eql => subst hb; exact ⟨_, rfl, _, by simp only [binOp, Op.equal, Op.maxDepth, Sem.run_bind, run_equalIn_bool hu 9999, Result.andThen_ok, Sem.run_pure], fun _ _ => .bool _⟩
 case neq => subst hb; exact ⟨_, rfl, _, by simp only [binOp, Op.equal, Op.maxDepth, Sem.run_bind, run_equalIn_bool hu 9999, Result.andThen_ok, Sem.run_pure], fun _ _ => .bool _⟩
end Go.Vm
namespace Go.Vm
def ql (P : Program) (σ : St) (x : Operand) (k : IntKind) (n : Int) : Prop := gOf (look P σ 0 x) = true ∧ unc (look P σ 0 x) = .one (.d (.int k n))
def bnd (P : Program) (σ : St) (dflt : Nat) : Option Operand → Nat → Prop
 | none, n => n = dflt
 | some x, n => ∃ k i, gOf (look P σ 0 x) = true ∧ unc (look P σ 0 x) = .one (.d (.int k i)) ∧ 0 ≤ i ∧ n = i.toNat
def cut {α : Type} (xs : List α) (off n : Nat) : List α := (xs.drop off).take n
def Y0 (P : Program) : Nat → TypeId → Option (List At)
 | 0, _ => none
 | n + 1, t =>
  match P.underlying t with
  | some .bool => some [.d (.bool false)]
  | some (.int k) => some [.d (.int k 0)]
  | some .string => some [.d (.str ⟨#[]⟩)]
  | some (.slice e) => some [.nil (P.cellsOf e)]
  | some (.struct fs) => (fs.toList.mapM (fun f => Y0 P n f.type)).map List.flatten
  | some (.array m e) => (Y0 P n e).map (fun r => (List.replicate m r).flatten)
  | _ => none
def zAt : At → Value → Bool
 | .d (.bool b), .bool b' => b == b'
 | .d (.int k n), .int k' n' => k == k' && n == n'
 | .d (.str s), .string s' => s.data.toList == s'.data.toList
 | .nil _, .slice none 0 0 => true
 | _, _ => false
def Eb : List At → List Value → Bool
 | [], [] => true
 | x :: xs, v :: vs => zAt x v && Eb xs vs
 | _, _ => false
def Zq (P : Program) (t : TypeId) : Bool :=
 match Y0 P 12 t, P.info? t with
 | some row, some i => (match i.zero with | some z => Eb row z.cells.toList && i.size == row.length | none => false)
 | _, _ => false
theorem D6 {x : At} {v : Value} (hz : zAt x v = true) (T : CS) (h : Nat → Nat → Hd) (ob : Nat → Nat → Ob) (w : World) : Z8 T h ob w x v := by
 unfold zAt at hz
 split at hz
 ·simp at hz; subst hz; exact .bool _
 ·simp at hz; obtain ⟨rfl, rfl⟩ := hz; exact .int _ _
 ·rename_i s s'
  simp at hz
  have : s = s' := by cases s; cases s'; simp_all
  subst this; exact .str _
 ·rfl
 ·cases hz
theorem DA {xs : List At} {vs : List Value} (hz : Eb xs vs = true) (T : CS) (h : Nat → Nat → Hd) (ob : Nat → Nat → Ob) (w : World) : Zt (Z8 T h ob w) xs vs := by
 induction xs generalizing vs with
 | nil => cases vs with
  | nil => exact .nil
  | cons v vs => simp [Eb] at hz
 | cons x xs ih => cases vs with
  | nil => simp [Eb] at hz
  | cons v vs => simp [Eb] at hz; exact .cons (D6 hz.1 _ _ _ _) (ih hz.2)
theorem O2 {P : Program} {t : TypeId} {row : List At} (hz : Zq P t = true) (hr : Y0 P 12 t = some row) :
  ∃ i z, P.info? t = some i ∧ i.zero = some z ∧ i.size = row.length ∧ (∀ T h ob w, Zt (Z8 T h ob w) row z.cells.toList) := by
 unfold Zq at hz
 rw [hr] at hz
 split at hz
 ·rename_i row' i hr' hi
  cases hr'
  split at hz
  ·rename_i z hzz
   simp at hz
   exact ⟨i, z, hi, hzz, hz.2, fun T h ob w => DA hz.1 T h ob w⟩
  ·cases hz
 ·cases hz
def V.cells : V → List At
 | .one c => [c]
 | .agg xs => xs
 | _ => []
def V.flat : V → Bool
 | .one _ => true
 | .agg _ => true
 | _ => false
def place {α : Type} (r : List α) (off : Nat) (xs : List α) : List α := r.take off ++ xs ++ r.drop (off + xs.length)
def Z6 (P : Program) (T : TypeId) (i : Nat) : Nat := match P.underlying T with | some (.array _ e) => i * P.cellsOf e | _ => ZK P T i
def bTy (P : Program) (T : TypeId) (i : Nat) : TypeId := match P.underlying T with | some (.array _ e) => e | _ => ZP P T i
def bOk (P : Program) (T : TypeId) (i : Nat) : Bool := match P.underlying T with
 | some (.array _ e) => (P.info? e).isSome
 | some (.struct fs) => fs.all (fun f => (P.info? f.type).isSome) && decide (i < fs.size)
 | _ => false
def j9 (P : Program) (σ : St) (T : TypeId) : List (Nat × Operand) → List At → List At → Prop
 | [], r, out => out = r
 | (i, x) :: ps, r, out => bOk P T i = true ∧ gOf (look P σ (bTy P T i) x) = true ∧ (unc (look P σ (bTy P T i) x)).flat = true ∧
   (unc (look P σ (bTy P T i) x)).cells.length = P.cellsOf (bTy P T i) ∧ Z6 P T i + P.cellsOf (bTy P T i) ≤ r.length ∧
   j9 P σ T ps (place r (Z6 P T i) (unc (look P σ (bTy P T i) x)).cells) out
def Iv (P : Program) (t : TypeId) : Bool := match P.underlying t with | some .bool => true | some (.int _) => true | some .string => true | _ => false
def kz (P : Program) : List Field → Nat → Bool
 | [], _ => true
 | f :: fs, i => decide (f.name ≠ "_") && f.offset == i && Iv P f.type && kz P fs (i + 1)
def kV (P : Program) (t : TypeId) : Bool := match P.underlying t with
 | some (.struct fs) => !P.stoodInHeld t && !P.eqGuardType P.depth t && kz P fs.toList 0
 | _ => false
def Es (P : Program) (t : TypeId) : At → At → Option Bool
 | .d (.int k a), .d (.int k' b) => if k = k' ∧ (XT P t).isSome then some (a == b) else none
 | .d (.bool a), .d (.bool b) => if S0 P t then some (a == b) else none
 | .d (.str a), .d (.str b) => if Jh P t then some (decide (a = b)) else none
 | _, _ => none
def ym (P : Program) : List Field → List At → List At → Option Bool
 | [], _, _ => some true
 | f :: fs, x :: xs, y :: ys => (match Es P f.type x y, ym P fs xs ys with | some p, some q => some (p && q) | _, _ => none)
 | _, _, _ => none
def GA (P : Program) (op : BinOp) (T : TypeId) (x y v : V) : Prop :=
 match x, y with
 | .one (.d (.int k m)), .one (.d (.int k' n)) => ((op = .shl ∨ op = .shr) ∨ k' = k) ∧ Pg op k m n v
 | .one (.d (.str m)), .one (.d (.str n)) => OJ op m n v
 | .one (.d (.bool m)), .one (.d (.bool n)) => S0 P T = true ∧ TR op m n v
 | .agg xs, .agg ys => kV P T = true ∧ ∃ q, ym P (P.fieldsOf T).toList xs ys = some q ∧ ((op = .eql ∧ v = .one (.d (.bool q))) ∨ (op = .neq ∧ v = .one (.d (.bool (!q)))))
 | _, _ => False
def qC (t j i : Nat) : Nat → List D → List At
 | _, [] => []
 | c, x :: xs => (match x with | .sl _ _ => .tref t j i c | x => .d x) :: qC t j i (c + 1) xs
def Wb (q : Bool) (t j i c : Nat) (xs : List D) : List At := match q with | true => qC t j i c xs | false => xs.map .d
def YX (P : Program) (σ : St) (op : Op) (ty : TypeId) (v : V) : Prop :=
 match op with
 | .move x => v = look P σ ty x
 | .assign x => v = look P σ ty x
 | .pick c a b => ∃ bc p q, gOf (look P σ ty c) = true ∧ unc (look P σ ty c) = .one (.d (.bool bc)) ∧ (bc = true → unc (look P σ ty a) = .one (.d (.bool p))) ∧ (bc = false → unc (look P σ ty b) = .one (.d (.bool q))) ∧
   (bc = true → gOf (look P σ ty a) = true) ∧ (bc = false → gOf (look P σ ty b) = true) ∧ v = .one (.d (.bool (cond bc p q)))
 | .load T x => gOf (look P σ 0 x) = true ∧ Y5 P T = true ∧
   (match unc (look P σ 0 x) with
   | .one (.bptr t c) => ∃ cells, σ.ob t 0 = .box cells ∧ c + P.cellsOf T ≤ cells.length ∧ v = ldV P T (cut cells c (P.cellsOf T))
   | .one (.ptr t j i c) => ∃ q size rows, σ.ob t j = .arr q size rows ∧ i < rows.length ∧ c + P.cellsOf T ≤ size ∧ v = ldV P T (Wb q t j i c (cut (rows.getD i []) c (P.cellsOf T)))
   | .one (.rptr r c) => c + P.cellsOf T ≤ r.length ∧ v = ldV P T ((cut r c (P.cellsOf T)).map .d)
   | _ => False)
 | .fieldAddr T x f => gOf (look P σ 0 x) = true ∧ ZS P T f = true ∧
   (match unc (look P σ 0 x) with
   | .one (.bptr t c) => (∃ cells, σ.ob t 0 = .box cells) ∧ v = .one (.bptr t (c + ZK P T f))
   | .one (.ptr t j i c) => (∃ q size rows, σ.ob t j = .arr q size rows) ∧ v = .one (.ptr t j i (c + ZK P T f))
   | .one (.rptr r c) => v = .one (.rptr r (c + ZK P T f))
   | _ => False)
 | .indexAddr T x ix => ∃ k i, ql P σ ix k i ∧ 0 ≤ i ∧ gOf (look P σ 0 x) = true ∧
   (match unc (look P σ 0 x) with
   | .one (.d (.sl size rows)) => YY P T = true ∧ size = P.cellsOf (ZT P T) ∧ 0 < size ∧ i < (rows.length : Int) ∧ v = .one (.rptr (rows.getD i.toNat []) 0)
   | .one (.sref t j lo len) => YY P T = true ∧ 0 < P.cellsOf (ZT P T) ∧ (∃ q rows, σ.ob t j = .arr q (P.cellsOf (ZT P T)) rows) ∧ i < (len : Int) ∧ v = .one (.ptr t j (lo + i.toNat) 0)
   | .one (.bptr t c) => (∃ cells, σ.ob t 0 = .box cells) ∧ (∃ n, FF P T = some n ∧ 1 < n ∧ i < (n : Int)) ∧ v = .one (.bptr t (c + i.toNat * P.cellsOf (ZT P T)))
   | _ => False)
 | .index T x ix => ∃ k i, ql P σ ix k i ∧ 0 ≤ i ∧ gOf (look P σ 0 x) = true ∧
   (match unc (look P σ 0 x) with
   | .one (.d (.str s)) => Jh P T = true ∧ i < (s.size : Int) ∧ v = .one (.d (.int .u8 (s.data.toList.getD i.toNat 0).toNat))
   | .agg xs => (∃ n, FF P T = some n ∧ i < (n : Int)) ∧ Y5 P (ZT P T) = true ∧ i.toNat * P.cellsOf (ZT P T) + P.cellsOf (ZT P T) ≤ xs.length ∧ v = ldV P (ZT P T) (cut xs (i.toNat * P.cellsOf (ZT P T)) (P.cellsOf (ZT P T)))
   | _ => False)
 | .slice T x lo hi none => gOf (look P σ 0 x) = true ∧
   (match unc (look P σ 0 x) with
   | .one (.d (.str s)) => Jh P T = true ∧ ∃ l h, bnd P σ 0 lo l ∧ bnd P σ s.size hi h ∧ l ≤ h ∧ h ≤ s.size ∧ v = .one (.d (.str (s.extract l h)))
   | .one (.d (.sl size rows)) => YY P T = true ∧ size = P.cellsOf (ZT P T) ∧ ∃ l h, bnd P σ 0 lo l ∧ bnd P σ rows.length hi h ∧ l ≤ h ∧ h ≤ rows.length ∧ v = .one (.d (.sl size (cut rows l (h - l))))
   | .one (.sref t j o len) => YY P T = true ∧ (∃ q rows, σ.ob t j = .arr q (P.cellsOf (ZT P T)) rows) ∧ ∃ l h, bnd P σ 0 lo l ∧ bnd P σ len hi h ∧ l ≤ h ∧ h ≤ len ∧ v = .one (.sref t j (o + l) (h - l))
   | _ => False)
 | .binOp op T x y _ => gOf (look P σ T x) = true ∧ gOf (look P σ T y) = true ∧
   GA P op T (unc (look P σ T x)) (unc (look P σ T y)) v
 | .unOp op _ x => gOf (look P σ 0 x) = true ∧
   (match op, unc (look P σ 0 x) with
   | .not, .one (.d (.bool b)) => v = .one (.d (.bool (!b)))
   | .neg, .one (.d (.int k n)) => v = .one (.d (.int k (k.wrap (-n))))
   | _, _ => False)
 | .convert S T x => gOf (look P σ 0 x) = true ∧ (P.underlying S).isSome = true ∧
   (match unc (look P σ 0 x) with
   | .one (.d (.int _ n)) => ∃ k, XT P T = some k ∧ v = .one (.d (.int k (k.wrap n)))
   | _ => False)
 | .extract x i => gOf (look P σ 0 x) = true ∧
   (match unc (look P σ 0 x) with
   | .tup xs => xs[i]? = some v ∧ v.flat = true
   | _ => False)
 | .field T x f => gOf (look P σ 0 x) = true ∧ ZS P T f = true ∧ Y5 P (ZP P T f) = true ∧
   (match unc (look P σ 0 x) with
   | .agg xs => ZK P T f + P.cellsOf (ZP P T f) ≤ xs.length ∧ v = ldV P (ZP P T f) (cut xs (ZK P T f) (P.cellsOf (ZP P T f)))
   | _ => False)
 | .build T parts => Zq P T = true ∧ XD P T = true ∧ ∃ z out, Y0 P 12 T = some z ∧ j9 P σ T parts.toList z out ∧ v = .agg out
 | .call c =>
   (match c.callee, c.args.toList, c.argTypes.toList with
   | .builtin .len, [x], [t] => gOf (look P σ t x) = true ∧
     (match unc (look P σ t x) with
     | .one (.d (.str s)) => Jh P t = true ∧ v = .one (.d (.int .i64 s.size))
     | .one (.d (.sl _ rows)) => YY P t = true ∧ v = .one (.d (.int .i64 rows.length))
     | .one (.nil _) => YY P t = true ∧ v = .one (.d (.int .i64 0))
     | .one (.sref u j _ len) => YY P t = true ∧ ((∃ q size rows, σ.ob u j = .arr q size rows) ∨ ∃ size rows, σ.ob u j = .lit size rows) ∧ v = .one (.d (.int .i64 len))
     | _ => False)
   | .builtin .max, [x, y], _ => ∃ k m n, ql P σ x k m ∧ ql P σ y k n ∧ v = .one (.d (.int k (if n > m then n else m)))
   | .builtin .min, [x, y], _ => ∃ k m n, ql P σ x k m ∧ ql P σ y k n ∧ v = .one (.d (.int k (if n < m then n else m)))
   | _, _, _ => False)
 | _ => False
end Go.Vm
namespace Go.Vm
section
variable {P : Program} {T0 : CS} {B : Nat → Prop} {σ : St} {a : Act} {w : World} {X : Nat → Prop} {h : Nat → Nat → Hd}
theorem yk (b off n : Nat) : (⟨b, off, none⟩ : Addr).add n = ⟨b, off + n, none⟩ := by
 unfold Addr.add; split <;> simp_all
theorem jQ {T : TypeId} (ht : Y5 P T = true) : ∃ d i, P.underlying T = some d ∧ P.info? T = some i ∧ i.size = P.cellsOf T ∧ (XD P T = true ∨ P.cellsOf T = 1) := by
 simp only [Y5, Bool.and_eq_true, Bool.or_eq_true, beq_iff_eq] at ht
 obtain ⟨⟨h1, h2⟩, h3⟩ := ht
 obtain ⟨d, hd⟩ := Option.isSome_iff_exists.1 h1
 obtain ⟨i, hi⟩ := Option.isSome_iff_exists.1 h2
 exact ⟨d, i, hd, hi, by simp [Program.cellsOf, hi], h3⟩
theorem V3 {T : TypeId} {d : TypeDesc} (hd : P.underlying T = some d) (w : World) : (isAgg T).run P w = .ok (XD P T) w := by
 unfold isAgg XD
 rw [hd]
 simp only [Sem.run_bind, run_underlying hd, Result.andThen_ok]
 cases d <;> simp
theorem Qu {T : TypeId} {i : TypeInfo} (hi : P.info? T = some i) (w : World) : (sizeOf T).run P w = .ok (P.cellsOf T) w := by
 simp [sizeOf, typeInfo, hi, Program.cellsOf]
theorem DH {T : TypeId} (ht : Y5 P T = true) {b off : Nat} {cs : List Value} (hl : cs.length = P.cellsOf T) (hc : ∀ j v, cs[j]? = some v → w.cell? ⟨b, off + j, none⟩ = some v) :
  ∃ val, (Instr.loadAt T (.pointer (some ⟨b, off, none⟩))).run P w = .ok val w ∧ (XD P T = true → val = .agg cs.toArray) ∧ (XD P T = false → cs = [val]) := by
 obtain ⟨d, i, hd, hi, hsz, hor⟩ := jQ ht
 cases hag : XD P T with
 | true =>
  refine ⟨.agg cs.toArray, ?_, fun _ => rfl, (fun hh => by cases hh)⟩
  have := run_loadCells_list (P := P) w ⟨b, off, none⟩ cs (fun j v hv => by rw [yk]; exact hc j v hv)
  simp only [Instr.loadAt, Instr.sureAddr, loadVar, Sem.run_bind, Sem.run_pure, Result.andThen_ok, V3 hd, hag, if_true, Qu hi, ← hl, this]
 | false =>
  rcases hor with hor | hor
  ·rw [hag] at hor; cases hor
  ·rw [hor] at hl
   obtain ⟨val, rfl⟩ := List.length_eq_one_iff.1 hl
   refine ⟨val, ?_, (fun hh => by cases hh), fun _ => rfl⟩
   have hc0 := hc 0 val (by simp)
   simp only [Nat.add_zero] at hc0
   simp [Instr.loadAt, Instr.sureAddr, loadVar, V3 hd, hag, load, Sem.run, hc0]
theorem Fm {T : TypeId} (_ht : Y5 P T = true) {T' : CS} {ob : Nat → Nat → Ob} {xs : List At} {cs : List Value} {val : Value} (hx : Zt (Z8 T' h ob w) xs cs)
  (h1 : XD P T = true → val = .agg cs.toArray) (h2 : XD P T = false → cs = [val]) : X0 T' h ob w (ldV P T xs) val := by
 unfold ldV
 cases hag : XD P T with
 | true => simp only [if_true]; exact ⟨_, h1 hag, by simpa using hx⟩
 | false =>
  simp only [Bool.false_eq_true, if_false]
  rw [h2 hag] at hx
  cases hx with
  | cons r hx => cases hx; exact r
theorem Zt.cut {α β : Type} {R : α → β → Prop} {l : List α} {m : List β} (x : Zt R l m) (o n : Nat) : Zt R (Vm.cut l o n) (Vm.cut m o n) := (x.drop o).take n
theorem QX {α : Type} (l : List α) (o n : Nat) (hl : o + n ≤ l.length) : (cut l o n).length = n := by simp [cut]; omega
theorem jr {α : Type} (l : List α) (o n j : Nat) (v : α) (hv : (cut l o n)[j]? = some v) : l[o + j]? = some v := by
 simp only [cut, List.getElem?_take, List.getElem?_drop] at hv
 split at hv
 ·exact hv
 ·cases hv
theorem jh {α : Type} : ∀ (rows : List (List α)) (size : Nat), (∀ r ∈ rows, r.length = size) → ∀ (i : Nat) (r : List α), rows[i]? = some r → ∀ (j : Nat) (d : α), r[j]? = some d → rows.flatten[i * size + j]? = some d
 | [], _, _, i, r, hr, _, _, _ => by simp at hr
 | r0 :: rows, size, hz, 0, r, hr, j, d, hd => by
  simp at hr; subst hr
  have hj : j < r0.length := (List.getElem?_eq_some_iff.1 hd).1
  simp [List.getElem?_append_left hj, hd]
 | r0 :: rows, size, hz, i + 1, r, hr, j, d, hd => by
  have ih := jh rows size (fun r hr => hz r (by simp [hr])) i r (by simpa using hr) j d hd
  have h0 : r0.length = size := hz r0 (by simp)
  rw [List.flatten_cons, List.getElem?_append_right (by rw [h0, Nat.add_mul]; omega), h0]
  have : (i + 1) * size + j - size = i * size + j := by rw [Nat.add_mul]; omega
  rw [this]; exact ih
theorem YO {α : Type} (rows : List (List α)) (size : Nat) (hz : ∀ r ∈ rows, r.length = size) : rows.flatten.length = rows.length * size := by
 induction rows with
 | nil => simp
 | cons r rows ih => rw [List.flatten_cons, List.length_append, ih (fun r hr => hz r (by simp [hr])), hz r (by simp), List.length_cons, Nat.add_mul]; omega
theorem Rd.row {T : CS} {v : Value} {size : Nat} {rows : List (List D)} (r : Rd T w v (.sl size rows)) (i : Nat) (hi : i < rows.length) (hsz : 0 < size) :
  ∃ a len cap, v = .slice (some a) len cap ∧ len = rows.length ∧ a.spot = none ∧
   ∃ g : Nat → Value, ∀ k d, (rows.getD i [])[k]? = some d → w.cell? ⟨a.block, a.off + i * size + k, none⟩ = some (g k) ∧ T a.block (a.off + i * size + k) ∧ Rd T w (g k) d := by
 cases r with
 | nil => simp at hi
 | sl a len cap size rows g hl hc hm hz hs hg hr =>
  have hrow : rows[i]? = some (rows.getD i []) := by simp [List.getD_eq_getElem?_getD, List.getElem?_eq_getElem hi]
  have hne : rows.flatten ≠ [] := by
   have hlen := YO rows size hz
   have hp : 0 < rows.length * size := Nat.mul_pos (by omega) hsz
   intro he
   have h0 : rows.flatten.length = 0 := by rw [he]; rfl
   omega
  refine ⟨a, len, cap, rfl, hl.symm, hs hne, fun k => g (i * size + k), fun k d hd => ?_⟩
  have hf := jh rows size hz i _ hrow k d hd
  have h1 := hg _ _ hf
  rw [Nat.add_assoc]
  exact ⟨h1.1, h1.2, hr _ _ hf⟩
theorem N7 {T : CS} {v : Value} {size : Nat} {rows : List (List D)} (r : Rd T w v (.sl size rows)) : ∀ x ∈ rows, x.length = size := by
 cases r with
 | nil => intro x hx; cases hx
 | sl a len cap size rows g hl hc hm hz hs hg hr => exact hz
theorem Gm {T : CS} {v : Value} {size : Nat} {rows : List (List D)} (r : Rd T w v (.sl size rows)) : ∃ base cap, v = .slice base rows.length cap ∧ rows.length ≤ cap ∧ cap ≤ maxLen := by
 cases r with
 | nil => exact ⟨none, 0, rfl, by simp, by simp [maxLen]⟩
 | sl a len cap size rows g hl hc hm hz hs hg hr => exact ⟨some a, cap, by rw [hl], by omega, hm⟩
theorem Xt {t : TypeId} (ht : YY P t = true) : ∃ i, P.underlying t = some (.slice (ZT P t)) ∧ P.info? (ZT P t) = some i ∧ i.size = P.cellsOf (ZT P t) := by
 unfold YY at ht
 split at ht
 ·rename_i e he
  obtain ⟨i, hi⟩ := Option.isSome_iff_exists.1 ht
  have : ZT P t = e := by simp [ZT, he]
  rw [this]
  exact ⟨i, he, hi, by simp [Program.cellsOf, hi]⟩
 ·cases ht
theorem OK {t : TypeId} {n : Nat} (ht : FF P t = some n) : ∃ i, P.underlying t = some (.array n (ZT P t)) ∧ P.info? (ZT P t) = some i ∧ i.size = P.cellsOf (ZT P t) := by
 unfold FF at ht
 split at ht
 ·rename_i m e he
  split at ht
  ·rename_i hh
   cases ht
   obtain ⟨i, hi⟩ := Option.isSome_iff_exists.1 hh
   have : ZT P t = e := by simp [ZT, he]
   rw [this]
   exact ⟨i, he, hi, by simp [Program.cellsOf, hi]⟩
  ·cases ht
 ·cases ht
theorem UJ {t : TypeId} {f : Nat} (ht : ZS P t f = true) : ∃ fs fd i, P.underlying t = some (.struct fs) ∧ fs[f]? = some fd ∧ fd.offset = ZK P t f ∧ fd.type = ZP P t f ∧ P.info? fd.type = some i ∧ i.size ≠ 0 := by
 unfold ZS at ht
 split at ht
 ·rename_i fs he
  split at ht
  ·rename_i fd hf
   simp at ht
   obtain ⟨i, hi⟩ := Option.isSome_iff_exists.1 ht.1
   exact ⟨fs, fd, i, he, hf, by simp [ZK, he, hf], by simp [ZP, he, hf], hi, by simpa [Program.cellsOf, hi] using ht.2⟩
  ·cases ht
 ·cases ht
theorem zg {t : TypeId} (ht : Jh P t = true) : P.underlying t = some .string := by
 unfold Jh at ht; split at ht <;> first | assumption | cases ht
theorem P0 {t : TypeId} {k : IntKind} (ht : XT P t = some k) : P.underlying t = some (.int k) := by
 unfold XT at ht
 split at ht
 ·cases ht; assumption
 ·cases ht
theorem WU {T : CS} {v : Value} {k : IntKind} {n : Int} (r : Rd T w v (.int k n)) : v = .int k n := by cases r; rfl
theorem yf {T : CS} {v : Value} {b : Bool} (r : Rd T w v (.bool b)) : v = .bool b := by cases r; rfl
theorem Vi {T : CS} {v : Value} {s : ByteArray} (r : Rd T w v (.str s)) : v = .string s := by cases r; rfl
theorem Kf (r : Rel T0 B σ a w X h) {x : Operand} {k : IntKind} {n : Int} (hx : ql P σ x k n) : a.eval x = .int k n :=
 WU (r.arg 0 x hx.2 hx.1)
end
end Go.Vm
namespace Go.Vm
section
variable {P : Program} {T0 : CS} {B : Nat → Prop} {σ : St} {a : Act} {w : World} {X : Nat → Prop} {h : Nat → Nat → Hd}
theorem Own.X4 {v : Value} {d : D} {S : Nat → Prop} (h : Own w v d S) : v.oneCell' = true := by
 cases h with
 | int => rfl
 | bool => rfl
 | str => rfl
 | sl v size rows S e xs Sk ho hz hb hl hk hs hd => rcases ho.2 with ⟨rfl, _⟩ | ⟨g, cap, cur, rfl, _⟩ <;> rfl
theorem OX {t j i : Nat} : ∀ {xs : List D} {c k : Nat} {x : At}, (qC t j i c xs)[k]? = some x → ∃ d, xs[k]? = some d ∧ x = (match d with | .sl _ _ => .tref t j i (c + k) | d => .d d)
 | [], c, k, x, hx => by simp [qC] at hx
 | d :: xs, c, 0, x, hx => by
  simp only [qC, List.getElem?_cons_zero] at hx
  cases hx
  exact ⟨d, by simp, by cases d <;> simp⟩
 | d :: xs, c, k + 1, x, hx => by
  simp only [qC, List.getElem?_cons_succ] at hx
  obtain ⟨d', hd', rfl⟩ := OX hx
  exact ⟨d', by simpa using hd', by cases d' <;> simp; omega⟩
theorem UG {t j i : Nat} : ∀ (c : Nat) (xs : List D), (qC t j i c xs).length = xs.length
 | _, [] => rfl
 | c, d :: xs => by simp [qC, UG (c + 1) xs]
theorem Ny (q : Bool) (t j i c : Nat) (xs : List D) : (Wb q t j i c xs).length = xs.length := by
 cases q <;> simp [Wb, UG]
theorem Rel.box (r : Rel T0 B σ a w X h) {t : Nat} {cells : List At} (ho : σ.ob t 0 = .box cells) {c : Nat} {v : Value} (hv : Z8 (Tof T0 X) h σ.ob w (.bptr t c) v) :
  ∃ b cs e, (h t 0).v = .pointer (some ⟨b, 0, none⟩) ∧ v = .pointer (some ⟨b, c, none⟩) ∧ w.heap[b]? = some (.cells cs e (0, 0)) ∧ Zt (Z8 (Tof T0 X) h σ.ob w) cells cs.toList := by
 obtain ⟨b, hb, rfl⟩ := hv.2 cells ho
 have hob := r.obj t 0
 rw [ho] at hob
 obtain ⟨b', cs, e, hb', hh, hal⟩ := hob
 rw [hb] at hb'
 cases hb'
 exact ⟨b, cs, e, hb, rfl, hh, hal⟩
theorem Kt {b : Nat} {cs : Array Value} {e : TypeId} {f : Nat × Nat} (hh : w.heap[b]? = some (.cells cs e f)) (k : Nat) (v : Value) (hv : cs.toList[k]? = some v) : w.cell? ⟨b, k, none⟩ = some v := by
 simp only [World.cell?, hh]
 simpa using hv
theorem Rel.arr (r : Rel T0 B σ a w X h) {t j : Nat} {q : Bool} {size : Nat} {rows : List (List D)} (ho : σ.ob t j = .arr q size rows) {i c : Nat} {v : Value} (hv : Z8 (Tof T0 X) h σ.ob w (.ptr t j i c) v) :
  ∃ b cap cur e xs, (h t j).v = .slice (some ⟨b, 0, none⟩) rows.length cap ∧ v = .pointer (some ⟨b, i * size + c, none⟩) ∧ w.heap[b]? = some (.cells cur e (0, 0)) ∧ rows.length ≤ cap ∧ cap ≤ maxLen ∧ cur.size = cap * size ∧
   cur.toList.take (rows.length * size) = xs ∧ (∀ r ∈ rows, r.length = size) ∧ xs.length = rows.flatten.length ∧ (q = false → Zt (Rd (Tof T0 X) w) xs rows.flatten) ∧
   (q = true → KA w xs rows.flatten (fun b => (h t j).u b ∧ blk (h t j).v ≠ some b) ∧ ∀ k x d, xs[k]? = some x → rows.flatten[k]? = some d → d.scalar = false → (h t j).n k = x) := by
 obtain ⟨b, n, cap, hb, rfl⟩ := hv.2 q size rows ho
 have hob := r.obj t j
 rw [ho] at hob
 cases q with
 | false =>
  obtain ⟨e, xs, hown, hz, hal⟩ := hob
  rcases hown.2 with ⟨h0, _⟩ | ⟨g, cap', cur, hg, _, hh, hle, hmx, hcs, htk⟩
  ·rw [hb] at h0; cases h0
  ·rw [hb] at hg
   cases hg
   exact ⟨b, cap, cur, e, xs, hb, rfl, hh, hle, hmx, hcs, htk, hz, hal.length, fun _ => hal, fun hh => by cases hh⟩
 | true =>
  obtain ⟨e, xs, hown, hz, hal, hn⟩ := hob
  rcases hown.2 with ⟨h0, _⟩ | ⟨g, cap', cur, hg, _, hh, hle, hmx, hcs, htk⟩
  ·rw [hb] at h0; cases h0
  ·rw [hb] at hg
   cases hg
   exact ⟨b, cap, cur, e, xs, hb, rfl, hh, hle, hmx, hcs, htk, hz, hal.1, (fun hh => by cases hh), fun _ => ⟨hal, hn⟩⟩
theorem FG (r : Rel T0 B σ a w X h) {o : Oper} {T : TypeId} {x : Operand} {v : V} (hop : o.op = .load T x) (hs : YX P σ o.op o.type v) :
  ∃ val, (execOp a.eval o).run P w = .ok (.value val) w ∧ X0 (Tof T0 X) h σ.ob w v val := by
 simp only [hop, YX] at hs
 obtain ⟨hg, hty, hs⟩ := hs
 have hx := r.arg (P := P) 0 x rfl hg
 have key : ∀ (b off : Nat) (xs : List At) (cs : List Value), a.eval x = .pointer (some ⟨b, off, none⟩) → v = ldV P T xs → cs.length = P.cellsOf T →
   (∀ j u, cs[j]? = some u → w.cell? ⟨b, off + j, none⟩ = some u) → Zt (Z8 (Tof T0 X) h σ.ob w) xs cs → ∃ val, (execOp a.eval o).run P w = .ok (.value val) w ∧ X0 (Tof T0 X) h σ.ob w v val := by
  intro b off xs cs he hv hl hc hal
  obtain ⟨val, hr, h1, h2⟩ := DH (P := P) hty hl hc
  refine ⟨val, ?_, ?_⟩
  ·simp only [execOp, hop, he, Sem.run_bind, hr, Result.andThen_ok, Sem.run_pure]
  ·rw [hv]; exact Fm hty hal h1 h2
 split at hs
 ·rename_i t c heq
  rw [heq] at hx
  obtain ⟨cells, ho, hle, hv⟩ := hs
  obtain ⟨b, cs, e, hb, he, hh, hal⟩ := r.box ho hx
  have hlen := hal.length
  refine key b c _ (cut cs.toList c (P.cellsOf T)) he hv (QX _ _ _ (by omega)) (fun j u hu => Kt hh _ _ (jr _ _ _ _ _ hu)) (hal.cut _ _)
 ·rename_i t j i c heq
  rw [heq] at hx
  obtain ⟨q, size, rows, ho, hi, hle, hv⟩ := hs
  obtain ⟨b, cap, cur, e, xs, hb, he, hh, hcap, hmx, hcs, htk, hz, hxl, hal, hown⟩ := r.arr ho hx
  have hrow : rows[i]? = some (rows.getD i []) := by simp [List.getD_eq_getElem?_getD, List.getElem?_eq_getElem hi]
  have hrl : (rows.getD i []).length = size := hz _ (List.mem_of_getElem? hrow)
  have hfl := YO rows size hz
  have hmul : i * size + size ≤ rows.length * size := by rw [← Nat.succ_mul]; exact Nat.mul_le_mul_right _ hi
  have hdat : ∀ k d', (cut (rows.getD i []) c (P.cellsOf T))[k]? = some d' → rows.flatten[i * size + c + k]? = some d' := by
   intro k d' hd'
   have h2 := jh rows size hz i _ hrow (c + k) d' (jr _ _ _ _ _ hd')
   rw [show i * size + c + k = i * size + (c + k) by omega]; exact h2
  refine key b (i * size + c) _ (cut xs (i * size + c) (P.cellsOf T)) he hv (QX _ _ _ (by omega)) (fun j u hu => ?_) ?_
  ·have h1 := jr _ _ _ _ _ hu
   refine Kt hh _ _ ?_
   rw [← htk, List.getElem?_take] at h1
   split at h1
   ·exact h1
   ·cases h1
  ·refine Zt.yi (by rw [QX _ _ _ (by omega), Ny, QX _ _ _ (by omega)]) (fun k x u hx hu => ?_)
   have h1 := jr _ _ _ _ _ hu
   cases q with
   | false =>
    obtain ⟨d, hd, hr⟩ := (hal rfl).get _ _ h1
    simp only [Wb] at hx
    rw [List.getElem?_map] at hx
    cases hd' : (cut (rows.getD i []) c (P.cellsOf T))[k]? with
    | none => rw [hd'] at hx; cases hx
    | some d' =>
     rw [hd'] at hx
     cases hx
     rw [hdat k d' hd'] at hd
     cases hd
     exact hr
   | true =>
    obtain ⟨⟨_, Sk, hown, _, _⟩, hn⟩ := hown rfl
    simp only [Wb] at hx
    obtain ⟨d', hd', rfl⟩ := OX hx
    have ho' := hown _ _ _ h1 (hdat k d' hd')
    cases d' with
    | sl s rs =>
     refine ⟨ho'.X4, fun size' rows' ho2 => ?_⟩
     rw [ho] at ho2; cases ho2
     rw [← hn _ _ _ h1 (hdat k _ hd') rfl, Nat.add_assoc]
    | int k n => cases ho'; exact .int _ _
    | bool b => cases ho'; exact .bool _
    | str s => cases ho'; exact .str _
 ·rename_i rr c heq
  rw [heq] at hx
  obtain ⟨hle, hv⟩ := hs
  obtain ⟨b, off, g, he, hk⟩ := hx
  refine key b (off + c) _ ((List.range (P.cellsOf T)).map fun j => g (c + j)) he hv (by simp) (fun j u hu => ?_) ?_
  ·rw [List.getElem?_map] at hu
   rcases Nat.lt_or_ge j (P.cellsOf T) with hj | hj
   ·rw [List.getElem?_range hj] at hu
    cases hu
    have hd := hk (c + j) (rr[c + j]'(by omega)) (List.getElem?_eq_getElem _)
    rw [Nat.add_assoc]; exact hd.1
   ·rw [List.getElem?_eq_none (by simpa using hj)] at hu; cases hu
  ·refine Zt.yi (by rw [List.length_map, QX _ _ _ (by omega)]; simp) (fun k x u hx hu => ?_)
   rw [List.getElem?_map] at hx hu
   cases hd' : (cut rr c (P.cellsOf T))[k]? with
   | none => rw [hd'] at hx; cases hx
   | some d' =>
    rw [hd'] at hx
    cases hx
    have hkl : k < P.cellsOf T := by have := (List.getElem?_eq_some_iff.1 hd').1; rw [QX _ _ _ (by omega)] at this; exact this
    rw [List.getElem?_range hkl] at hu
    cases hu
    exact (hk (c + k) d' (jr _ _ _ _ _ hd')).2.2
 ·exact hs.elim
theorem Wv {T : TypeId} {f : Nat} (hf : ZS P T f = true) (b off : Nat) : (Instr.fieldAt T (.pointer (some ⟨b, off, none⟩)) f).run P w = .ok (.pointer (some ⟨b, off + ZK P T f, none⟩)) w := by
 obtain ⟨fs, fd, i, hu, hfd, hoff, hty, hi, hne⟩ := UJ hf
 have hne' : P.cellsOf fd.type ≠ 0 := by simpa [Program.cellsOf, hi] using hne
 simp [Instr.fieldAt, run_underlying hu, hfd, Instr.sureAddr, fieldPlace, Qu hi, hne', yk, hoff]
theorem Rc (r : Rel T0 B σ a w X h) {o : Oper} {T : TypeId} {x : Operand} {f : Nat} {v : V} (hop : o.op = .fieldAddr T x f) (hs : YX P σ o.op o.type v) :
  ∃ val, (execOp a.eval o).run P w = .ok (.value val) w ∧ X0 (Tof T0 X) h σ.ob w v val := by
 simp only [hop, YX] at hs
 obtain ⟨hg, hf, hs⟩ := hs
 have hx := r.arg (P := P) 0 x rfl hg
 split at hs
 ·rename_i t c heq
  rw [heq] at hx
  obtain ⟨⟨cells, ho⟩, rfl⟩ := hs
  obtain ⟨b, hb, he⟩ := hx.2 cells ho
  refine ⟨.pointer (some ⟨b, c + ZK P T f, none⟩), by simp only [execOp, hop, he, Sem.run_bind, Wv hf, Result.andThen_ok, Sem.run_pure], rfl, fun cells' _ => ⟨b, hb, rfl⟩⟩
 ·rename_i t j i c heq
  rw [heq] at hx
  obtain ⟨⟨q, size, rows, ho⟩, rfl⟩ := hs
  obtain ⟨b, n, cap, hb, he⟩ := hx.2 q size rows ho
  refine ⟨.pointer (some ⟨b, i * size + c + ZK P T f, none⟩), by simp only [execOp, hop, he, Sem.run_bind, Wv hf, Result.andThen_ok, Sem.run_pure], rfl, fun q' size' rows' ho' => ?_⟩
  rw [ho] at ho'
  cases ho'
  exact ⟨b, n, cap, hb, by rw [Nat.add_assoc]⟩
 ·rename_i rr c heq
  rw [heq] at hx
  subst hs
  obtain ⟨b, off, g, he, hk⟩ := hx
  exact ⟨.pointer (some ⟨b, off + c + ZK P T f, none⟩), by simp only [execOp, hop, he, Sem.run_bind, Wv hf, Result.andThen_ok, Sem.run_pure], b, off, g, by rw [Nat.add_assoc], hk⟩
 ·exact hs.elim
theorem RK {T : TypeId} (ht : YY P T = true) (ad : Addr) (hsp : ad.spot = none) (len cap : Nat) (k : IntKind) (i : Int) (h0 : 0 ≤ i) (hl : i < (len : Int)) :
  (Instr.indexAt T (.slice (some ad) len cap) (.int k i)).run P w = .ok (.pointer (some ⟨ad.block, ad.off + i.toNat * P.cellsOf (ZT P T), none⟩)) w := by
 obtain ⟨ti, hu, hi, hsz⟩ := Xt ht
 obtain ⟨b, off, sp⟩ := ad
 simp at hsp; subst hsp
 simp [Instr.indexAt, asIntOf, run_underlying hu, h0, hl, Qu hi, yk]
theorem Lj {T : TypeId} {n : Nat} (ht : FF P T = some n) (_h1 : 1 < n) (b off : Nat) (k : IntKind) (i : Int) (h0 : 0 ≤ i) (hl : i < (n : Int)) :
  (Instr.indexAt T (.pointer (some ⟨b, off, none⟩)) (.int k i)).run P w = .ok (.pointer (some ⟨b, off + i.toNat * P.cellsOf (ZT P T), none⟩)) w := by
 obtain ⟨ti, hu, hi, hsz⟩ := OK ht
 simp [Instr.indexAt, Instr.sureAddr, asIntOf, run_underlying hu, h0, hl, Qu hi, yk]
theorem PF (r : Rel T0 B σ a w X h) {o : Oper} {T : TypeId} {x ix : Operand} {v : V} (hop : o.op = .indexAddr T x ix) (hs : YX P σ o.op o.type v) :
  ∃ val, (execOp a.eval o).run P w = .ok (.value val) w ∧ X0 (Tof T0 X) h σ.ob w v val := by
 simp only [hop, YX] at hs
 obtain ⟨k, i, hix, h0, hg, hs⟩ := hs
 have hx := r.arg (P := P) 0 x rfl hg
 have hie := Kf r hix
 split at hs
 ·rename_i size rows heq
  rw [heq] at hx
  obtain ⟨ht, rfl, hpos, hlt, rfl⟩ := hs
  have hil : i.toNat < rows.length := by omega
  obtain ⟨ad, len, cap, he, hlen, hsp, g, hk⟩ := Rd.row (show Rd _ _ _ _ from hx) i.toNat hil hpos
  refine ⟨.pointer (some ⟨ad.block, ad.off + i.toNat * P.cellsOf (ZT P T), none⟩), by simp only [execOp, hop, he, hie, Sem.run_bind, RK ht ad hsp len cap k i h0 (by omega), Result.andThen_ok, Sem.run_pure], ad.block, ad.off + i.toNat * P.cellsOf (ZT P T), g, by simp, hk⟩
 ·rename_i t j lo len heq
  rw [heq] at hx
  obtain ⟨ht, hpos, ⟨q, rows, ho⟩, hlt, rfl⟩ := hs
  obtain ⟨hle, _, base, cap, he, hcap, _, _, hb⟩ := hx.2.1 _ _ rows ho
  obtain ⟨b, cap0, hh, hbase⟩ := hb (by omega)
  rw [hbase] at he
  refine ⟨.pointer (some ⟨b, lo * P.cellsOf (ZT P T) + i.toNat * P.cellsOf (ZT P T), none⟩), by simp only [execOp, hop, he, hie, Sem.run_bind, RK ht ⟨b, lo * P.cellsOf (ZT P T), none⟩ rfl len cap k i h0 hlt, Result.andThen_ok, Sem.run_pure], rfl, fun q' size' rows' ho' => ?_⟩
  rw [ho] at ho'
  cases ho'
  exact ⟨b, rows.length, cap0, hh, by simp [Nat.add_mul]⟩
 ·rename_i t c heq
  rw [heq] at hx
  obtain ⟨⟨cells, ho⟩, ⟨n, hn, h1, hlt⟩, rfl⟩ := hs
  obtain ⟨b, hb, he⟩ := hx.2 cells ho
  exact ⟨.pointer (some ⟨b, c + i.toNat * P.cellsOf (ZT P T), none⟩), by simp only [execOp, hop, he, hie, Sem.run_bind, Lj hn h1 b c k i h0 hlt, Result.andThen_ok, Sem.run_pure], rfl, fun cells' _ => ⟨b, hb, rfl⟩⟩
 ·exact hs.elim
end
end Go.Vm
namespace Go.Vm
section
variable {P : Program} {T0 : CS} {B : Nat → Prop} {σ : St} {a : Act} {w : World} {X : Nat → Prop} {h : Nat → Nat → Hd}
theorem Dj {T : TypeId} (ht : Y5 P T = true) {cs : Array Value} {off : Nat} (hl : off + P.cellsOf T ≤ cs.size) :
  ∃ val, (part T cs off).run P w = .ok val w ∧ (XD P T = true → val = .agg (cut cs.toList off (P.cellsOf T)).toArray) ∧ (XD P T = false → cut cs.toList off (P.cellsOf T) = [val]) := by
 obtain ⟨d, i, hd, hi, hsz, hor⟩ := jQ ht
 cases hag : XD P T with
 | true =>
  refine ⟨.agg (cs.extract off (off + P.cellsOf T)), ?_, fun _ => ?_, (fun hh => by cases hh)⟩
  ·simp only [part, Sem.run_bind, V3 hd, hag, Result.andThen_ok, if_true, Qu hi, Sem.run_pure]
  ·congr 1
   apply Array.toList_inj.1
   simp [cut, Array.toList_extract, List.extract_eq_take_drop]
 | false =>
  rcases hor with hor | hor
  ·rw [hag] at hor; cases hor
  ·rw [hor] at hl ⊢
   have hlt : off < cs.size := by omega
   refine ⟨cs[off], ?_, (fun hh => by cases hh), fun _ => ?_⟩
   ·simp [part, V3 hd, hag, Array.getElem?_eq_getElem hlt]
   ·have : cut cs.toList off 1 = [cs.toList[off]'(by simpa using hlt)] := by
     simp only [cut]
     rw [List.drop_eq_getElem_cons (by simpa using hlt)]
     simp
    rw [this]
    simp
theorem GS {T : TypeId} (ht : Y5 P T = true) {xs : List At} {x : Value} {off : Nat} (hx : X0 (Tof T0 X) h σ.ob w (.agg xs) x) (hl : off + P.cellsOf T ≤ xs.length) :
  ∃ cs : Array Value, x = .agg cs ∧ ∃ val, (part T cs off).run P w = .ok val w ∧ X0 (Tof T0 X) h σ.ob w (ldV P T (cut xs off (P.cellsOf T))) val := by
 obtain ⟨cs, rfl, hal⟩ := hx
 obtain ⟨val, hr, h1, h2⟩ := Dj (P := P) (w := w) ht (cs := cs) (off := off) (by have := hal.length; simp at this; omega)
 exact ⟨cs, rfl, val, hr, Fm ht (hal.cut _ _) h1 h2⟩
theorem H0 (r : Rel T0 B σ a w X h) {o : Oper} {T : TypeId} {x ix : Operand} {v : V} (hop : o.op = .index T x ix) (hs : YX P σ o.op o.type v) :
  ∃ val, (execOp a.eval o).run P w = .ok (.value val) w ∧ X0 (Tof T0 X) h σ.ob w v val := by
 simp only [hop, YX] at hs
 obtain ⟨k, i, hix, h0, hg, hs⟩ := hs
 have hx := r.arg (P := P) 0 x rfl hg
 have hie := Kf r hix
 split at hs
 ·rename_i s heq
  rw [heq] at hx
  obtain ⟨ht, hlt, rfl⟩ := hs
  have he := Vi hx
  have hil : i.toNat < s.size := by omega
  refine ⟨.int .u8 (s.data.toList.getD i.toNat 0).toNat, ?_, .int _ _⟩
  have hget : s[i.toNat]? = some (s.data.toList.getD i.toNat 0) := by
   rw [List.getD_eq_getElem?_getD]
   have h1 : s.data.toList[i.toNat]? = some (s.data[i.toNat]'hil) := by
    rw [List.getElem?_eq_getElem (by simpa using hil)]; simp
   rw [h1, getElem?_pos s i.toNat hil]
   rfl
  simp [execOp, hop, he, hie, Instr.index, asIntOf, run_underlying (zg ht), h0, hget]
 ·rename_i xs heq
  rw [heq] at hx
  obtain ⟨⟨n, hn, hlt⟩, ht, hl, rfl⟩ := hs
  obtain ⟨ti, hu, hi, hsz⟩ := OK hn
  obtain ⟨cs, he, val, hr, hv⟩ := GS ht hx hl
  refine ⟨val, ?_, hv⟩
  simp [execOp, hop, he, hie, Instr.index, asIntOf, run_underlying hu, h0, hlt, Qu hi, hr]
 ·exact hs.elim
theorem GZ (r : Rel T0 B σ a w X h) {o : Oper} {T : TypeId} {x : Operand} {f : Nat} {v : V} (hop : o.op = .field T x f) (hs : YX P σ o.op o.type v) :
  ∃ val, (execOp a.eval o).run P w = .ok (.value val) w ∧ X0 (Tof T0 X) h σ.ob w v val := by
 simp only [hop, YX] at hs
 obtain ⟨hg, hf, ht, hs⟩ := hs
 have hx := r.arg (P := P) 0 x rfl hg
 split at hs
 ·rename_i xs heq
  rw [heq] at hx
  obtain ⟨hl, rfl⟩ := hs
  obtain ⟨fs, fd, i, hu, hfd, hoff, hty, hi, hne⟩ := UJ hf
  obtain ⟨cs, he, val, hr, hv⟩ := GS ht hx hl
  refine ⟨val, ?_, hv⟩
  rw [← hoff, ← hty] at hr
  simp [execOp, hop, he, Instr.field, run_underlying hu, hfd, asAgg, hr]
 ·exact hs.elim
theorem L2 (r : Rel T0 B σ a w X h) {dflt n y : Nat} {x : Option Operand} {code : BoundsCode} (hb : bnd P σ dflt x n) (hy : n ≤ y) (hne : x ≠ none) :
  (Instr.sliceBound ((x.map a.eval).getD undef) y code).run P w = .ok n w := by
 cases x with
 | none => exact absurd rfl hne
 | some x =>
  obtain ⟨k, i, hg, hx, h0, rfl⟩ := hb
  have he := WU (r.arg (P := P) 0 x hx hg)
  have : i ≤ (y : Int) := by omega
  simp [he, Instr.sliceBound, asIntOf, h0, this]
theorem Ui (r : Rel T0 B σ a w X h) {sl : Bool} {len cap l hh : Nat} {lo hi : Option Operand} (hlo : bnd P σ 0 lo l) (hhi : bnd P σ len hi hh) (h1 : l ≤ hh) (h2 : hh ≤ cap) :
  (Instr.sliceBounds sl len cap (lo.map a.eval) (hi.map a.eval) none).run P w = .ok (l, hh, cap) w := by
 unfold Instr.sliceBounds
 cases hi with
 | none =>
  cases hhi
  cases lo with
  | none => cases hlo; simp
  | some x =>
   have := L2 (w := w) r (code := .sliceB) hlo h1 (by simp)
   simp at this
   simp [this]
 | some y =>
  have hb := L2 (w := w) r (code := if sl then .sliceAcap else .sliceAlen) hhi h2 (by simp)
  simp at hb
  cases lo with
  | none => cases hlo; simp [hb]
  | some x =>
   have := L2 (w := w) r (code := .sliceB) hlo h1 (by simp)
   simp at this
   simp [this, hb]
theorem yA {α : Type} (rows : List (List α)) (size l n : Nat) (hz : ∀ r ∈ rows, r.length = size) (k : Nat) (d : α) (hd : (cut rows l n).flatten[k]? = some d) : rows.flatten[l * size + k]? = some d := by
 induction rows generalizing l with
 | nil => simp [cut] at hd
 | cons r rows ih =>
  have hr : r.length = size := hz r (by simp)
  cases l with
  | zero =>
   simp only [cut, List.drop_zero, Nat.zero_mul, Nat.zero_add] at hd ⊢
   have hsplit : (r :: rows).flatten = ((r :: rows).take n).flatten ++ ((r :: rows).drop n).flatten := by rw [← List.flatten_append, List.take_append_drop]
   rw [hsplit, List.getElem?_append_left (List.getElem?_eq_some_iff.1 hd).1]; exact hd
  | succ l =>
   have := ih l (fun r hr => hz r (by simp [hr])) (by simpa [cut] using hd)
   rw [List.flatten_cons, List.getElem?_append_right (by rw [hr, Nat.add_mul]; omega), hr]
   rw [show (l + 1) * size + k - size = l * size + k by rw [Nat.add_mul]; omega]; exact this
theorem Rd.cut {T : CS} {v : Value} {size : Nat} {rows : List (List D)} {base : Option Addr} {len cap : Nat} (hv : v = .slice base len cap) (r : Rd T w v (.sl size rows)) (l hh : Nat) (h1 : l ≤ hh) (h2 : hh ≤ rows.length) (_hsz : 0 < size ∨ True) :
  Rd T w (.slice (if cap = l then base else base.map (·.add (l * size))) (hh - l) (cap - l)) (.sl size (Vm.cut rows l (hh - l))) := by
 subst hv
 cases r with
 | nil =>
  simp at h2; subst h2
  have : l = 0 := by omega
  subst this
  simp [Vm.cut]; exact .nil _
 | sl a len cap size rows g hl hc hm hz hs hg hr =>
  have hlen : (Vm.cut rows l (hh - l)).length = hh - l := QX _ _ _ (by omega)
  have hz' : ∀ r ∈ Vm.cut rows l (hh - l), r.length = size := fun r hr => hz r (List.mem_of_mem_drop (List.mem_of_mem_take hr))
  by_cases hcl : cap = l
  ·have h0 : hh - l = 0 := by omega
   have hnil : Vm.cut rows l (hh - l) = [] := List.eq_nil_of_length_eq_zero (by omega)
   rw [if_pos hcl, hnil, h0]
   exact .sl a 0 (cap - l) size [] g rfl (Nat.zero_le _) (by omega) (by intro r hr; cases hr) (by simp) (by simp) (by simp)
  ·rw [if_neg hcl]
   refine .sl (a.add (l * size)) (hh - l) (cap - l) size _ (fun k => g (l * size + k)) hlen (by omega) (by omega) hz' (fun hne => ?_) (fun k d hd => ?_) (fun k d hd => hr _ _ (yA rows size l _ hz k d hd))
   ·have : rows.flatten ≠ [] := by
     intro he
     apply hne
     cases hc' : (Vm.cut rows l (hh - l)).flatten with
     | nil => rfl
     | cons d ds =>
      have := yA rows size l (hh - l) hz 0 d (by rw [hc']; rfl)
      rw [he] at this; simp at this
    have hsp := hs this
    unfold Addr.add; split <;> simp [hsp]
   ·have hsp : a.spot = none := hs (by
     intro he
     have := yA rows size l (hh - l) hz k d hd
     rw [he] at this; simp at this)
    have := hg _ _ (yA rows size l (hh - l) hz k d hd)
    obtain ⟨b, off, sp⟩ := a
    simp at hsp; subst hsp
    rw [yk]
    simp only [Nat.add_assoc] at this ⊢
    exact this
theorem HL (r : Rel T0 B σ a w X h) {o : Oper} {T : TypeId} {x : Operand} {lo hi : Option Operand} {v : V} (hop : o.op = .slice T x lo hi none) (hs : YX P σ o.op o.type v) :
  ∃ val, (execOp a.eval o).run P w = .ok (.value val) w ∧ X0 (Tof T0 X) h σ.ob w v val := by
 simp only [hop, YX] at hs
 obtain ⟨hg, hs⟩ := hs
 have hx := r.arg (P := P) 0 x rfl hg
 split at hs
 ·rename_i s heq
  rw [heq] at hx
  obtain ⟨ht, l, hh, hlo, hhi, h1, h2, rfl⟩ := hs
  have he := Vi hx
  have hb := Ui (w := w) r (sl := false) hlo hhi h1 h2
  refine ⟨.string (s.extract l hh), ?_, .str _⟩
  simp [execOp, hop, he, Instr.sliceAt, Instr.slice, run_underlying (zg ht), hb]
 ·rename_i size rows heq
  rw [heq] at hx
  obtain ⟨ht, rfl, l, hh, hlo, hhi, h1, h2, rfl⟩ := hs
  obtain ⟨ti, hu, hi', hsz⟩ := Xt ht
  obtain ⟨base, cap, he, hcap, hmx⟩ := Gm (show Rd _ _ _ _ from hx)
  have hb := Ui (w := w) r (sl := true) (cap := cap) hlo hhi h1 (by omega)
  refine ⟨_, ?_, Rd.cut he hx l hh h1 h2 (.inr trivial)⟩
  simp [execOp, hop, he, Instr.sliceAt, Instr.slice, run_underlying hu, hb, Qu hi']
 ·rename_i t j lo0 len heq
  rw [heq] at hx
  obtain ⟨ht, ⟨q, rows, ho⟩, l, hh, hlo, hhi, h1, h2, rfl⟩ := hs
  obtain ⟨ti, hu, hi', hsz⟩ := Xt ht
  obtain ⟨hle, hfull, base, cap, he, hcap, hmx, hnn, hbs⟩ := hx.2.1 _ _ rows ho
  have hb := Ui (w := w) r (sl := true) (cap := cap) hlo hhi h1 (by omega)
  refine ⟨.slice (if cap = l then base else base.map (·.add (l * P.cellsOf (ZT P T)))) (hh - l) (cap - l), ?_, rfl, fun q' size' rows' ho' => ?_, fun size' rows' ho' => by rw [ho] at ho'; cases ho'⟩
  ·simp [execOp, hop, he, Instr.sliceAt, Instr.slice, run_underlying hu, hb, Qu hi']
  ·rw [ho] at ho'
   cases ho'
   refine ⟨by omega, fun hl0 hl1 => ?_, _, cap - l, rfl, by omega, by omega, fun hn => ?_, fun hpos => ?_⟩
   ·have hl : l = 0 := by omega
    subst hl
    have : len = rows.length := by omega
    have hv := hfull this (by omega)
    rw [← hv, he]
    simp only [Nat.sub_zero, Nat.zero_mul]
    have h3 : hh = len := by omega
    rw [h3]
    congr 1
    split
    ·rfl
    ·cases base <;> simp [Addr.add]
   ·have hb0 : base = none := by
     by_cases hcl : cap = l
     ·rw [if_pos hcl] at hn; exact hn
     ·rw [if_neg hcl] at hn; simpa using hn
    have := hnn hb0; omega
   ·obtain ⟨b, cap0, hhd, hbase⟩ := hbs (by omega)
    refine ⟨b, cap0, hhd, ?_⟩
    rw [if_neg (by omega), hbase]
    simp [yk, Nat.add_mul]
 ·exact hs.elim
end
end Go.Vm
namespace Go.Vm
section
variable {P : Program} {T0 : CS} {B : Nat → Prop} {σ : St} {a : Act} {w : World} {X : Nat → Prop} {h : Nat → Nat → Hd}
theorem G5 {α : Type} (l : List α) (k : Nat) (v : α) (vs : List α) (hk : k + (vs.length + 1) ≤ l.length) : place (l.set k v) (k + 1) vs = place l k (v :: vs) := by
 unfold place
 have h1 : (l.set k v).take (k + 1) = l.take k ++ [v] := by
  rw [List.take_set, List.take_succ_eq_append_getElem (by omega)]
  rw [List.set_append_right _ _ (by simp; omega)]
  simp [Nat.min_eq_left (show k ≤ l.length by omega)]
 have h2 : (l.set k v).drop (k + 1 + vs.length) = l.drop (k + (vs.length + 1)) := by
  rw [List.drop_set_of_lt (by omega)]; congr 1; omega
 rw [h1, h2]; simp
theorem RQ (off : Nat) : ∀ (vs : List Value) (j : Nat) (cs : Array Value), off + j + vs.length ≤ cs.size →
  ((vs.zipIdx j).foldl (fun cs x => cs.setIfInBounds (off + x.2) x.1) cs).toList = place cs.toList (off + j) vs
 | [], j, cs, _ => by simp [place]
 | v :: vs, j, cs, hl => by
  rw [List.zipIdx_cons, List.foldl_cons, RQ off vs (j + 1) _ (by simp at hl ⊢; omega)]
  rw [Array.toList_setIfInBounds, show off + (j + 1) = off + j + 1 by omega, G5 _ _ _ _ (by simp at hl ⊢; omega)]
theorem Wa (off : Nat) (vs cs : Array Value) (hl : off + vs.size ≤ cs.size) :
  (vs.zipIdx.foldl (fun cs x => cs.setIfInBounds (off + x.2) x.1) cs).toList = place cs.toList off vs.toList := by
 rw [← Array.foldl_toList, Array.toList_zipIdx, RQ off vs.toList 0 cs (by simpa using hl)]
 rfl
theorem Xc {α : Type} (r : List α) (off : Nat) (xs : List α) (hl : off + xs.length ≤ r.length) : (place r off xs).length = r.length := by
 simp [place]; omega
theorem Zt.place {α β : Type} {R : α → β → Prop} {l : List α} {m : List β} (x : Zt R l m) (off : Nat) {l' : List α} {m' : List β} (y : Zt R l' m') : Zt R (Vm.place l off l') (Vm.place m off m') := by
 unfold Vm.place
 rw [y.length]
 exact ((x.take _).append y).append (x.drop _)
theorem qu {T' : CS} {ob : Nat → Nat → Ob} {x : V} {v : Value} (hf : x.flat = true) (hv : X0 T' h ob w x v) : Zt (Z8 T' h ob w) x.cells v.cells.toList := by
 cases x with
 | one c =>
  have h1 := Z8.X4 (show Z8 _ _ _ _ _ _ from hv)
  have : v.cells = #[v] := by cases v <;> first | rfl | (simp [Value.oneCell'] at h1)
  rw [this]
  exact .cons hv .nil
 | agg xs => obtain ⟨cs, rfl, hal⟩ := hv; exact hal
 | any => cases hf
 | tup xs => cases hf
 | cnd g x => cases hf
 | fix u x => cases hf
theorem OD (r : Rel T0 B σ a w X h) (T : TypeId) (pl : Nat → Option (Nat × Nat)) (hpl : ∀ i, bOk P T i = true → pl i = some (Z6 P T i, P.cellsOf (bTy P T i))) :
  ∀ (ps : List (Nat × Operand)) (row out : List At) (cells : Array Value), Zt (Z8 (Tof T0 X) h σ.ob w) row cells.toList → j9 P σ T ps row out →
   ∃ cells', Instr.fill pl cells (ps.map fun x => (x.1, a.eval x.2)) = some cells' ∧ Zt (Z8 (Tof T0 X) h σ.ob w) out cells'.toList
 | [], row, out, cells, hal, hb => by cases hb; exact ⟨cells, rfl, hal⟩
 | (i, x) :: ps, row, out, cells, hal, hb => by
  obtain ⟨hok, hg, hf, hlen, hle, hb⟩ := hb
  have hx := qu hf (r.arg (P := P) (bTy P T i) x rfl hg)
  have hl2 := hx.length
  have hl1 := hal.length
  have e1 : cells.toList.length = cells.size := Array.length_toList
  have e2 : (a.eval x).cells.toList.length = (a.eval x).cells.size := Array.length_toList
  have hstep := hal.place (Z6 P T i) hx
  have heq := Wa (Z6 P T i) (a.eval x).cells cells (by omega)
  rw [← heq] at hstep
  obtain ⟨cells', h1, h2⟩ := OD r T pl hpl ps _ out _ hstep hb
  refine ⟨cells', ?_, h2⟩
  have hsz : (a.eval x).cells.size = P.cellsOf (bTy P T i) := by omega
  simp only [List.map_cons, Instr.fill, hpl i hok]
  rw [if_neg (by simp [hsz]; omega)]
  exact h1
theorem run_places (fs : List Field) (hfs : ∀ f ∈ fs, (P.info? f.type).isSome = true) (w : World) :
  (fs.mapM (m := Sem) fun f => do pure (f.offset, ← sizeOf f.type)).run P w = .ok (fs.map fun f => (f.offset, P.cellsOf f.type)) w := by
 induction fs with
 | nil => simp
 | cons f fs ih =>
  obtain ⟨i, hi⟩ := Option.isSome_iff_exists.1 (hfs f (by simp))
  simp only [List.mapM_cons, Sem.run_bind, Qu hi, Result.andThen_ok, Sem.run_pure, ih (fun f hf => hfs f (by simp [hf])), List.map_cons]
theorem Hv (r : Rel T0 B σ a w X h) {o : Oper} {T : TypeId} {parts : Array (Nat × Operand)} {v : V} (hop : o.op = .build T parts) (hs : YX P σ o.op o.type v) :
  ∃ val, (execOp a.eval o).run P w = .ok (.value val) w ∧ X0 (Tof T0 X) h σ.ob w v val := by
 simp only [hop, YX] at hs
 obtain ⟨hz, hag, z, out, hzr, hb, rfl⟩ := hs
 obtain ⟨i, zv, hi, hzv, hsz, hzal⟩ := O2 hz hzr
 have hzrun : (zeroValue T).run P w = .ok zv w := by simp [zeroValue, typeInfo, hi, hzv]
 have hmap : (parts.map fun (x : Nat × Operand) => (x.1, a.eval x.2)).toList = parts.toList.map fun x => (x.1, a.eval x.2) := by simp
 unfold XD at hag
 split at hag
 ·rename_i fs hu
  by_cases hall : ∀ f ∈ fs.toList, (P.info? f.type).isSome = true
  ·have hpl : ∀ i, bOk P T i = true → (fs.toList.map fun f => (f.offset, P.cellsOf f.type)).toArray[i]? = some (Z6 P T i, P.cellsOf (bTy P T i)) := by
    intro i hok
    simp only [bOk, hu, Bool.and_eq_true, decide_eq_true_eq] at hok
    have hlt := hok.2
    simp [Z6, bTy, hu, ZK, ZP, hlt]
   obtain ⟨cells', h1, h2⟩ := OD r T _ hpl parts.toList z out zv.cells (hzal _ _ _ _) hb
   refine ⟨.agg cells', ?_, cells', rfl, h2⟩
   have hm := run_places (P := P) fs.toList hall w
   have : (fs.mapM (m := Sem) fun f => do pure (f.offset, ← sizeOf f.type)).run P w = .ok (fs.toList.map fun f => (f.offset, P.cellsOf f.type)).toArray w := by
    rw [Array.mapM_eq_mapM_toList]
    change ((fs.toList.mapM (m := Sem) fun f => do pure (f.offset, ← sizeOf f.type)) >>= fun l => pure l.toArray).run P w = _
    simp only [Sem.run_bind, hm, Result.andThen_ok, Sem.run_pure]
   simp only [execOp, hop, Instr.build, Sem.run_bind, hzrun, Result.andThen_ok, run_underlying hu, this, hmap, h1, Sem.run_pure]
  · -- no part can be placed: then there are none
   have hnil : parts.toList = [] := by
    cases hp : parts.toList with
    | nil => rfl
    | cons p ps =>
     obtain ⟨i, x⟩ := p
     rw [hp] at hb
     have hok := hb.1
     simp only [bOk, hu, Bool.and_eq_true] at hok
     exact absurd (by intro f hf; exact Array.all_eq_true'.1 hok.1 f (by simpa using hf)) hall
   exfalso
   -- a struct's zero row is read off its fields, all of them known
   rw [show (12 : Nat) = 11 + 1 from rfl, Y0, hu] at hzr
   simp only [Option.map_eq_some_iff] at hzr
   obtain ⟨rs, hrs, _⟩ := hzr
   apply hall
   intro f hf
   have : ∀ (l : List Field) (rs : List (List At)), l.mapM (fun f => Y0 P 11 f.type) = some rs → ∀ f ∈ l, (P.info? f.type).isSome = true := by
    intro l
    induction l with
    | nil => intro rs _ f hf; cases hf
    | cons g l ih =>
     intro rs hrs f hf
     simp only [List.mapM_cons, Option.bind_eq_bind, Option.bind_eq_some_iff] at hrs
     obtain ⟨r0, hr0, rs', hrs', _⟩ := hrs
     rcases List.mem_cons.1 hf with rfl | hf
     ·rw [show (11 : Nat) = 10 + 1 from rfl, Y0] at hr0
      cases hi0 : P.info? f.type with
      | some i => rfl
      | none => simp [Program.underlying, hi0] at hr0
     ·exact ih rs' hrs' f hf
   exact this fs.toList rs hrs f hf
 ·rename_i n e hu
  cases hie : P.info? e with
  | none =>
   exfalso
   rw [show (12 : Nat) = 11 + 1 from rfl, Y0, hu] at hzr
   simp only [Option.map_eq_some_iff] at hzr
   obtain ⟨r0, hr0, _⟩ := hzr
   rw [show (11 : Nat) = 10 + 1 from rfl, Y0] at hr0
   simp [Program.underlying, hie] at hr0
  | some ie =>
   have hpl : ∀ i, bOk P T i = true → (fun i => some (i * P.cellsOf e, P.cellsOf e)) i = some (Z6 P T i, P.cellsOf (bTy P T i)) := by
    intro i _
    simp [Z6, bTy, hu]
   obtain ⟨cells', h1, h2⟩ := OD r T _ hpl parts.toList z out zv.cells (hzal _ _ _ _) hb
   refine ⟨.agg cells', ?_, cells', rfl, h2⟩
   simp only [execOp, hop, Instr.build, Sem.run_bind, hzrun, Result.andThen_ok, run_underlying hu, Qu hie, hmap, h1, Sem.run_pure]
 ·cases hag
theorem U2 {t : TypeId} (ht : Iv P t = true) {cs : Array Value} {i : Nat} {v : Value} (hv : cs[i]? = some v) : (part t cs i).run P w = .ok v w := by
 unfold Iv at ht
 split at ht <;> first | (rename_i hu; simp [part, isAgg, run_underlying hu, hv]) | cases ht
theorem Eo {t : TypeId} {T' : CS} {ob : Nat → Nat → Ob} {x y : At} {u v : Value} {p : Bool} (hp : Es P t x y = some p) (hx : Z8 T' h ob w x u) (hy : Z8 T' h ob w y v) (d : Nat) (w' : World) :
  (Op.equalIn (d + 1) t u v).run P w' = .ok p w' := by
 unfold Es at hp
 split at hp
 ·rename_i k a' k' b'
  split at hp
  ·rename_i hc
   obtain ⟨rfl, hi⟩ := hc
   obtain ⟨k2, hk2⟩ := Option.isSome_iff_exists.1 hi
   cases hp
   rw [WU hx, WU hy]
   exact Go.run_equalIn_int w' d t _ _ _ _ (P0 hk2)
  ·cases hp
 ·split at hp
  ·rename_i hc
   cases hp
   rw [yf hx, yf hy]
   have hu : P.underlying t = some .bool := by
    unfold S0 at hc; split at hc <;> first | assumption | cases hc
   exact Go.run_equalIn_bool' w' d t _ _ hu
  ·cases hp
 ·split at hp
  ·rename_i hc
   cases hp
   rw [Vi hx, Vi hy]
   rw [Go.run_equalIn_string w' d t _ _ (zg hc), Gw]
  ·cases hp
 ·cases hp
theorem Mk {T' : CS} {ob : Nat → Nat → Ob} (d : Nat) (cs ds : Array Value) (w' : World) : ∀ (fs : List Field) (i : Nat) (xs ys : List At) (q : Bool), kz P fs i = true → ym P fs xs ys = some q →
  Zt (Z8 T' h ob w) xs (cs.toList.drop i) → Zt (Z8 T' h ob w) ys (ds.toList.drop i) → (Op.eqFields (d + 1) cs ds fs).run P w' = .ok q w'
 | [], i, xs, ys, q, _, hq, _, _ => by simp [ym] at hq; subst hq; simp [Op.eqFields]
 | f :: fs, i, [], ys, q, _, hq, _, _ => by simp [ym] at hq
 | f :: fs, i, x :: xs, [], q, _, hq, _, _ => by simp [ym] at hq
 | f :: fs, i, x :: xs, y :: ys, q, hok, hq, hx, hy => by
  simp only [kz, Bool.and_eq_true, decide_eq_true_eq, beq_iff_eq] at hok
  obtain ⟨⟨⟨hn, ho⟩, hsc⟩, hok⟩ := hok
  simp only [ym] at hq
  split at hq
  ·rename_i p q' hp hq'
   cases hq
   cases hcd : cs.toList.drop i with
   | nil => rw [hcd] at hx; cases hx
   | cons u us =>
    cases hdd : ds.toList.drop i with
    | nil => rw [hdd] at hy; cases hy
    | cons v vs =>
     rw [hcd] at hx; rw [hdd] at hy
     cases hx with
     | cons hxu hx =>
      cases hy with
      | cons hyv hy =>
       have hu : cs[i]? = some u := by
        have : (cs.toList.drop i)[0]? = some u := by rw [hcd]; rfl
        simpa using this
       have hv : ds[i]? = some v := by
        have : (ds.toList.drop i)[0]? = some v := by rw [hdd]; rfl
        simpa using this
       have hus : cs.toList.drop (i + 1) = us := by rw [← List.drop_drop, hcd]; rfl
       have hvs : ds.toList.drop (i + 1) = vs := by rw [← List.drop_drop, hdd]; rfl
       have ih := Mk d cs ds w' fs (i + 1) xs ys q' hok hq' (by rw [hus]; exact hx) (by rw [hvs]; exact hy)
       subst ho
       simp only [Op.eqFields, if_pos hn, Sem.run_bind, U2 hsc hu, U2 hsc hv, Result.andThen_ok, Eo hp hxu hyv d w']
       cases p
       ·simp
       ·simpa using ih
  ·cases hq
theorem Fu {T : TypeId} {T' : CS} {ob : Nat → Nat → Ob} {xs ys : List At} {u v : Value} {q : Bool} (hok : kV P T = true) (hq : ym P (P.fieldsOf T).toList xs ys = some q)
  (hx : X0 T' h ob w (.agg xs) u) (hy : X0 T' h ob w (.agg ys) v) (op : BinOp) (x y : Operand) (w' : World) :
  (eqGuard op T x y u v).run P w' = .ok () w' ∧ (binOp .eql T u v).run P w' = .ok (.bool q) w' ∧ (binOp .neq T u v).run P w' = .ok (.bool (!q)) w' := by
 obtain ⟨cs, rfl, hcs⟩ := hx
 obtain ⟨ds, rfl, hds⟩ := hy
 unfold kV at hok
 split at hok
 ·rename_i fs hu
  simp only [Bool.and_eq_true, Bool.not_eq_true'] at hok
  have hf : P.fieldsOf T = fs := by simp [Program.fieldsOf, hu]
  have hu' : P.underlying T = some (.struct (P.fieldsOf T)) := by rw [hf]; exact hu
  have hrun : (Op.equalIn 10000 T (.agg cs) (.agg ds)).run P w' = .ok q w' := by
   rw [show (10000 : Nat) = 9999 + 1 from rfl, Go.run_equalIn_struct w' 9999 T cs ds hu' hok.1.1, show (9999 : Nat) = 9998 + 1 from rfl]
   exact Mk 9998 cs ds w' _ 0 xs ys q (by rw [hf]; exact hok.2) hq (by simpa using hcs) (by simpa using hds)
  refine ⟨Go.run_eqGuard_agg w' op T x y cs ds hok.1.2, ?_, ?_⟩
  ·rw [Go.run_eql_struct, hrun]; rfl
  ·rw [Go.run_neq_struct, hrun]; rfl
 ·cases hok
end
end Go.Vm
namespace Go.Vm
section
variable {P : Program} {T0 : CS} {B : Nat → Prop} {σ : St} {a : Act} {w : World} {X : Nat → Prop} {h : Nat → Nat → Hd}
theorem OR (r : Rel T0 B σ a w X h) {o : Oper} {x : Operand} {v : V} (hop : o.op = .move x ∨ o.op = .assign x) (hs : YX P σ o.op o.type v) :
  ∃ val, (execOp a.eval o).run P w = .ok (.value val) w ∧ X0 (Tof T0 X) h σ.ob w v val := by
 rcases hop with hop | hop <;>
 ·simp only [hop, YX] at hs
  subst hs
  exact ⟨a.eval x, by simp [execOp, hop], r.look _ x⟩
theorem Gl (r : Rel T0 B σ a w X h) {o : Oper} {c x y : Operand} {v : V} (hop : o.op = .pick c x y) (hs : YX P σ o.op o.type v) :
  ∃ val, (execOp a.eval o).run P w = .ok (.value val) w ∧ X0 (Tof T0 X) h σ.ob w v val := by
 simp only [hop, YX] at hs
 obtain ⟨bc, p, q, hg, hc, hp, hq, hgp, hgq, rfl⟩ := hs
 have he := yf (r.arg (P := P) o.type c hc hg)
 cases bc with
 | true =>
  have hx := yf (r.arg (P := P) o.type x (hp rfl) (hgp rfl))
  exact ⟨.bool p, by simp [execOp, hop, he, asBool, hx], .bool _⟩
 | false =>
  have hy := yf (r.arg (P := P) o.type y (hq rfl) (hgq rfl))
  exact ⟨.bool q, by simp [execOp, hop, he, asBool, hy], .bool _⟩
theorem ya (op : BinOp) (T : TypeId) (x y : Operand) {v u : Value} (hv : ∀ cs, v ≠ .agg cs) (hn : v ≠ .nilIface) : (eqGuard op T x y v u).run P w = .ok () w := by
 unfold eqGuard
 cases op <;> simp <;> (split <;> first | exact absurd rfl hn | exact absurd rfl (hv _) | simp)
theorem EW (r : Rel T0 B σ a w X h) {o : Oper} {op : BinOp} {T T' : TypeId} {x y : Operand} {v : V} (hop : o.op = .binOp op T x y T') (hs : YX P σ o.op o.type v) :
  ∃ val, (execOp a.eval o).run P w = .ok (.value val) w ∧ X0 (Tof T0 X) h σ.ob w v val := by
 simp only [hop, YX] at hs
 obtain ⟨hgx, hgy, hs⟩ := hs
 have hx := r.arg (P := P) T x rfl hgx
 have hy := r.arg (P := P) T y rfl hgy
 unfold GA at hs
 split at hs
 ·rename_i k m k' n heq heq'
  rw [heq] at hx; rw [heq'] at hy
  have ex := WU hx
  have ey := WU hy
  obtain ⟨d, rfl, val, hr, hd⟩ := Gy (P := P) (t := T) hs.1 hs.2 w
  refine ⟨val, ?_, hd _ _⟩
  simp only [execOp, hop, ex, ey, Sem.run_bind, ya op T x y (v := .int k m) (u := .int k' n) (by simp) (by simp), Result.andThen_ok, hr, Sem.run_pure]
 ·rename_i m n heq heq'
  rw [heq] at hx; rw [heq'] at hy
  have ex := Vi hx
  have ey := Vi hy
  obtain ⟨d, rfl, val, hr, hd⟩ := G6 (P := P) (t := T) hs w
  refine ⟨val, ?_, hd _ _⟩
  simp only [execOp, hop, ex, ey, Sem.run_bind, ya op T x y (v := .string m) (u := .string n) (by simp) (by simp), Result.andThen_ok, hr, Sem.run_pure]
 ·rename_i m n heq heq'
  rw [heq] at hx; rw [heq'] at hy
  have ex := yf hx
  have ey := yf hy
  obtain ⟨d, rfl, val, hr, hd⟩ := GQ (P := P) (t := T) hs.1 hs.2 w
  refine ⟨val, ?_, hd _ _⟩
  simp only [execOp, hop, ex, ey, Sem.run_bind, ya op T x y (v := .bool m) (u := .bool n) (by simp) (by simp), Result.andThen_ok, hr, Sem.run_pure]
 ·rename_i xs ys heq heq'
  rw [heq] at hx; rw [heq'] at hy
  obtain ⟨hok, q, hq, hs⟩ := hs
  obtain ⟨h1, h2, h3⟩ := Fu (P := P) hok hq hx hy op x y w
  rcases hs with ⟨rfl, rfl⟩ | ⟨rfl, rfl⟩
  ·exact ⟨.bool q, by simp only [execOp, hop, Sem.run_bind, h1, Result.andThen_ok, h2, Sem.run_pure], .bool _⟩
  ·exact ⟨.bool (!q), by simp only [execOp, hop, Sem.run_bind, h1, Result.andThen_ok, h3, Sem.run_pure], .bool _⟩
 ·exact hs.elim
theorem Dg (r : Rel T0 B σ a w X h) {o : Oper} {op : UnOp} {T : TypeId} {x : Operand} {v : V} (hop : o.op = .unOp op T x) (hs : YX P σ o.op o.type v) :
  ∃ val, (execOp a.eval o).run P w = .ok (.value val) w ∧ X0 (Tof T0 X) h σ.ob w v val := by
 simp only [hop, YX] at hs
 obtain ⟨hg, hs⟩ := hs
 have hx := r.arg (P := P) 0 x rfl hg
 split at hs
 ·rename_i b heq
  rw [heq] at hx
  subst hs
  have he := yf hx
  exact ⟨.bool (!b), by simp [execOp, hop, he, Op.unary], .bool _⟩
 ·rename_i k n heq
  rw [heq] at hx
  subst hs
  have he := WU hx
  exact ⟨.int k (k.wrap (-n)), by simp [execOp, hop, he, Op.unary, Op.intArith], .int _ _⟩
 ·exact hs.elim
theorem Nc (r : Rel T0 B σ a w X h) {o : Oper} {S T : TypeId} {x : Operand} {v : V} (hop : o.op = .convert S T x) (hS : (P.underlying S).isSome = true) (hs : YX P σ o.op o.type v) :
  ∃ val, (execOp a.eval o).run P w = .ok (.value val) w ∧ X0 (Tof T0 X) h σ.ob w v val := by
 simp only [hop, YX] at hs
 obtain ⟨hg, _, hs⟩ := hs
 have hx := r.arg (P := P) 0 x rfl hg
 split at hs
 ·rename_i k' n heq
  rw [heq] at hx
  obtain ⟨k, hk, rfl⟩ := hs
  have he := WU hx
  obtain ⟨d, hd⟩ := Option.isSome_iff_exists.1 hS
  exact ⟨.int k (k.wrap n), by simp [execOp, hop, he, convert, run_underlying hd, run_underlying (P0 hk), Conv.intToInt], .int _ _⟩
 ·exact hs.elim
theorem Nd (r : Rel T0 B σ a w X h) {o : Oper} {x : Operand} {i : Nat} {v : V} (hop : o.op = .extract x i) (hs : YX P σ o.op o.type v) :
  ∃ val, (execOp a.eval o).run P w = .ok (.value val) w ∧ X0 (Tof T0 X) h σ.ob w v val := by
 simp only [hop, YX] at hs
 obtain ⟨hg, hs⟩ := hs
 have hx := r.arg (P := P) 0 x rfl hg
 split at hs
 ·rename_i xs heq
  rw [heq] at hx
  obtain ⟨vs, he, hal⟩ := hx
  obtain ⟨val, hval, hr⟩ := hal.get i v hs.1
  have : vs[i]? = some val := by simpa using hval
  exact ⟨val, by simp [execOp, hop, he, Instr.extract, this], hr.up⟩
 ·exact hs.elim
theorem GK (r : Rel T0 B σ a w X h) {o : Oper} {c : Call} {v : V} (hop : o.op = .call c) (hs : YX P σ o.op o.type v) :
  ∃ val, (execOp a.eval o).run P w = .ok (.value val) w ∧ X0 (Tof T0 X) h σ.ob w v val := by
 simp only [hop, YX] at hs
 obtain ⟨callee, args, argTypes⟩ := c
 simp only at hs
 split at hs
 ·rename_i x t ha ht
  obtain rfl : args = #[x] := by apply Array.toList_inj.1; simpa using ha
  obtain rfl : argTypes = #[t] := by apply Array.toList_inj.1; simpa using ht
  obtain ⟨hg, hs⟩ := hs
  have hx := r.arg (P := P) t x rfl hg
  split at hs
  ·rename_i s heq
   rw [heq] at hx
   obtain ⟨hst, rfl⟩ := hs
   have he := Vi hx
   exact ⟨.int .i64 s.size, by simp [execOp, hop, resolve, invoke, builtin, he, Builtin.len_, run_underlying (zg hst), goInt], .int _ _⟩
  ·rename_i size rows heq
   rw [heq] at hx
   obtain ⟨hst, rfl⟩ := hs
   obtain ⟨ti, hu, _, _⟩ := Xt hst
   obtain ⟨base, cap, he, _, _⟩ := Gm (show Rd _ _ _ _ from hx)
   exact ⟨.int .i64 rows.length, by simp [execOp, hop, resolve, invoke, builtin, he, Builtin.len_, run_underlying hu, goInt], .int _ _⟩
  ·rename_i size heq
   rw [heq] at hx
   obtain ⟨hst, rfl⟩ := hs
   obtain ⟨ti, hu, _, _⟩ := Xt hst
   have he : a.eval x = .slice none 0 0 := hx
   exact ⟨.int .i64 0, by simp [execOp, hop, resolve, invoke, builtin, he, Builtin.len_, run_underlying hu, goInt], .int _ _⟩
  ·rename_i u j lo len heq
   rw [heq] at hx
   obtain ⟨hst, ho, rfl⟩ := hs
   obtain ⟨ti, hu, _, _⟩ := Xt hst
   have hhd : ∃ base cap, a.eval x = .slice base len cap := by
    rcases ho with ⟨q, size, rows, ho⟩ | ⟨size, rows, ho⟩
    ·obtain ⟨_, _, base, cap, he, _, _, _, _⟩ := hx.2.1 _ _ _ ho
     exact ⟨base, cap, he⟩
    ·obtain ⟨_, _, base, cap, he, _, _, _, _⟩ := hx.2.2 _ _ ho
     exact ⟨base, cap, he⟩
   obtain ⟨base, cap, he⟩ := hhd
   exact ⟨.int .i64 len, by simp [execOp, hop, resolve, invoke, builtin, he, Builtin.len_, run_underlying hu, goInt], .int _ _⟩
  ·exact hs.elim
 ·rename_i x y ha
  obtain rfl : args = #[x, y] := by apply Array.toList_inj.1; simpa using ha
  obtain ⟨k, m, n, hx, hy, rfl⟩ := hs
  have ex := Kf r hx
  have ey := Kf r hy
  exact ⟨.int k (if n > m then n else m), by simp [execOp, hop, resolve, invoke, builtin, ex, ey, Builtin.max_, Builtin.max2], .int _ _⟩
 ·rename_i x y ha
  obtain rfl : args = #[x, y] := by apply Array.toList_inj.1; simpa using ha
  obtain ⟨k, m, n, hx, hy, rfl⟩ := hs
  have ex := Kf r hx
  have ey := Kf r hy
  exact ⟨.int k (if n < m then n else m), by simp [execOp, hop, resolve, invoke, builtin, ex, ey, Builtin.min_, Builtin.min2], .int _ _⟩
 ·exact hs.elim
theorem S6 (r : Rel T0 B σ a w X h) {o : Oper} {v : V} (hs : YX P σ o.op o.type v) :
  ∃ val, (execOp a.eval o).run P w = .ok (.value val) w ∧ X0 (Tof T0 X) h σ.ob w v val := by
 cases hop : o.op with
 | move x => exact OR r (.inl hop) hs
 | assign x => exact OR r (.inr hop) hs
 | pick c x y => exact Gl r hop hs
 | load T x => exact FG r hop hs
 | fieldAddr T x f => exact Rc r hop hs
 | indexAddr T x i => exact PF r hop hs
 | index T x i => exact H0 r hop hs
 | field T x f => exact GZ r hop hs
 | slice T x lo hi m =>
  cases m with
  | none => exact HL r hop hs
  | some m => rw [hop] at hs; exact hs.elim
 | binOp op T x y T' => exact EW r hop hs
 | unOp op T x => exact Dg r hop hs
 | convert S T x => rw [hop] at hs; exact Nc r hop hs.2.1 (by rw [hop]; exact hs)
 | extract x i => exact Nd r hop hs
 | call c => exact GK r hop hs
 | build T ps => exact Hv r hop hs
 | _ => rw [hop] at hs; exact hs.elim
end
end Go.Vm
namespace Go.Vm
def At.ref (d : Nat) : At → Bool
 | .sref t _ _ _ => t == d
 | .ptr t _ _ _ => t == d
 | .bptr t _ => t == d
 | .fn _ t => t == d
 | .tref t _ _ _ => t == d
 | _ => false
def YE (d : Nat) : List At → Bool
 | [] => false
 | x :: xs => x.ref d || YE d xs
def V.Ti (d : Nat) : V → Bool
 | .one x => x.ref d
 | .agg xs => YE d xs
 | _ => false
def kN (d : Nat) : List V → Bool
 | [] => false
 | x :: xs => x.Ti d || kN d xs
def V.ref (d : Nat) : V → Bool
 | .tup xs => kN d xs
 | .cnd _ x => x.Ti d || (match x with | .tup xs => kN d xs | _ => false)
 | .one x => x.ref d
 | .agg xs => YE d xs
 | .fix _ x => x.Ti d || (match x with | .tup xs => kN d xs | _ => false)
 | .any => false
def Yu (d : Nat) : List Ob → Bool
 | [] => false
 | .box cells :: os => YE d cells || Yu d os
 | .lit _ rows :: os => YE d rows.flatten || Yu d os
 | _ :: os => Yu d os
def xE (d : Nat) : Nat → St → Bool
 | _, [] => true
 | k, e :: σ => (k == d || (!e.1.ref d && !Yu d e.2)) && xE d (k + 1) σ
def St.fresh (σ : St) (d : Nat) : Bool := decide (d < σ.length) && xE d 0 σ
theorem zI {d : Nat} : ∀ {σ : St} {k : Nat}, xE d k σ = true → ∀ t e, σ[t]? = some e → k + t ≠ d → e.1.ref d = false ∧ Yu d e.2 = false
 | [], _, _, t, e, he, _ => by simp at he
 | e0 :: σ, k, hf, t, e, he, hne => by
  simp only [xE, Bool.and_eq_true, Bool.or_eq_true, beq_iff_eq, Bool.not_eq_true'] at hf
  cases t with
  | zero =>
   simp at he; subst he
   rcases hf.1 with h | h
   ·omega
   ·exact h
  | succ t => exact zI hf.2 t e (by simpa using he) (by omega)
theorem St.F2 {σ : St} {d : Nat} (hf : σ.fresh d = true) (t : Nat) (hne : t ≠ d) : (σ.get t).ref d = false := by
 simp only [St.fresh, Bool.and_eq_true] at hf
 unfold St.get
 cases he : σ[t]? with
 | none => rfl
 | some e => exact (zI hf.2 t e he (by omega)).1
theorem LN {d : Nat} : ∀ {os : List Ob}, Yu d os = false → ∀ j cells, Yb os j = .box cells → YE d cells = false
 | [], _, j, cells, h => by simp [Yb] at h
 | o :: os, hr, j, cells, h => by
  cases j with
  | zero =>
   simp [Yb] at h; subst h
   simp [Yu] at hr; exact hr.1
  | succ j =>
   have : Yb os j = .box cells := by simpa [Yb] using h
   refine LN (os := os) ?_ j cells this
   cases o <;> simp_all [Yu]
theorem O1 {d : Nat} : ∀ {os : List Ob}, Yu d os = false → ∀ j size rows, Yb os j = .lit size rows → YE d rows.flatten = false
 | [], _, j, _, _, h => by simp [Yb] at h
 | o :: os, hr, j, size, rows, h => by
  cases j with
  | zero =>
   simp [Yb] at h; subst h
   simp [Yu] at hr; exact hr.1
  | succ j =>
   have : Yb os j = .lit size rows := by simpa [Yb] using h
   refine O1 (os := os) ?_ j size rows this
   cases o <;> simp_all [Yu]
theorem St.EB {σ : St} {d : Nat} (hf : σ.fresh d = true) (t j : Nat) (hne : t ≠ d) (size : Nat) (rows : List (List At)) (ho : σ.ob t j = .lit size rows) : YE d rows.flatten = false := by
 simp only [St.fresh, Bool.and_eq_true] at hf
 unfold St.ob at ho
 cases he : σ[t]? with
 | none => rw [he] at ho; cases ho
 | some e => rw [he] at ho; exact O1 (zI hf.2 t e he (by omega)).2 j size rows ho
theorem St.DC {σ : St} {d : Nat} (hf : σ.fresh d = true) (t j : Nat) (hne : t ≠ d) (cells : List At) (ho : σ.ob t j = .box cells) : YE d cells = false := by
 simp only [St.fresh, Bool.and_eq_true] at hf
 unfold St.ob at ho
 cases he : σ[t]? with
 | none => rw [he] at ho; cases ho
 | some e => rw [he] at ho; exact LN (zI hf.2 t e he (by omega)).2 j cells ho
theorem St.yI {σ : St} {d : Nat} (hf : σ.fresh d = true) : d < σ.length := by
 simp only [St.fresh, Bool.and_eq_true, decide_eq_true_eq] at hf; exact hf.1
def Cpt (h h' : Nat → Nat → Hd) (ob ob' : Nat → Nat → Ob) (t j : Nat) : Prop :=
 (∀ q size rows, ob' t j = .arr q size rows → h' t j = h t j ∧ ∃ rows0, ob t j = .arr q size rows0 ∧ rows0.length = rows.length) ∧
 (∀ size rows, ob' t j = .lit size rows → h' t j = h t j ∧ ∃ rows0, ob t j = .lit size rows0 ∧ rows0.length = rows.length) ∧
 (∀ cells, ob' t j = .box cells → h' t j = h t j ∧ ∃ cells0, ob t j = .box cells0)
theorem Cpt.same {h h' : Nat → Nat → Hd} {ob ob' : Nat → Nat → Ob} {t j : Nat} (hh : h' t j = h t j) (ho : ob' t j = ob t j) : Cpt h h' ob ob' t j :=
 ⟨fun q size rows e => ⟨hh, rows, by rw [← ho]; exact e, rfl⟩, fun size rows e => ⟨hh, rows, by rw [← ho]; exact e, rfl⟩, fun cells e => ⟨hh, cells, by rw [← ho]; exact e⟩⟩
section
variable {T T' : CS} {h h' : Nat → Nat → Hd} {ob ob' : Nat → Nat → Ob} {w w' : World} {d : Nat}
theorem Z8.carry (hT : ∀ b k v, T b k → w.cell? ⟨b, k, none⟩ = some v → w'.cell? ⟨b, k, none⟩ = some v ∧ T' b k) (hc : ∀ t j, t ≠ d → Cpt h h' ob ob' t j)
  {x : At} {v : Value} (hx : x.ref d = false) (r : Z8 T h ob w x v) : Z8 T' h' ob' w' x v := by
 cases x with
 | any => exact r
 | d x => exact Rd.mono hT r
 | nil s => exact r
 | sref t j lo len =>
  have ht : t ≠ d := by simpa [At.ref] using hx
  refine ⟨r.1, fun q size rows ho => ?_, fun size rows ho => ?_⟩
  ·obtain ⟨hh, rows0, ho0, hl⟩ := (hc t j ht).1 q size rows ho
   rw [hh, ← hl]; exact r.2.1 q size rows0 ho0
  ·obtain ⟨hh, rows0, ho0, hl⟩ := (hc t j ht).2.1 size rows ho
   rw [hh, ← hl]; exact r.2.2 size rows0 ho0
 | ptr t j i c =>
  have ht : t ≠ d := by simpa [At.ref] using hx
  refine ⟨r.1, fun q size rows ho => ?_⟩
  obtain ⟨hh, rows0, ho0, hl⟩ := (hc t j ht).1 q size rows ho
  rw [hh]; exact r.2 q size rows0 ho0
 | bptr t c =>
  have ht : t ≠ d := by simpa [At.ref] using hx
  refine ⟨r.1, fun cells ho => ?_⟩
  obtain ⟨hh, cells0, ho0⟩ := (hc t 0 ht).2.2 cells ho
  rw [hh]; exact r.2 cells0 ho0
 | fn f t =>
  have ht : t ≠ d := by simpa [At.ref] using hx
  refine ⟨r.1, fun cells ho => ?_⟩
  obtain ⟨hh, cells0, ho0⟩ := (hc t 0 ht).2.2 cells ho
  rw [hh]; exact r.2 cells0 ho0
 | tref t j i c =>
  have ht : t ≠ d := by simpa [At.ref] using hx
  refine ⟨r.1, fun size rows ho => ?_⟩
  obtain ⟨hh, rows0, ho0, hl⟩ := (hc t j ht).1 true size rows ho
  rw [hh]; exact r.2 size rows0 ho0
 | rptr rr c =>
  obtain ⟨b, off, g, e, hk⟩ := r
  exact ⟨b, off, g, e, fun k d hd => ⟨(hT _ _ _ (hk k d hd).2.1 (hk k d hd).1).1, (hT _ _ _ (hk k d hd).2.1 (hk k d hd).1).2, Rd.mono hT (hk k d hd).2.2⟩⟩
theorem qh (hT : ∀ b k v, T b k → w.cell? ⟨b, k, none⟩ = some v → w'.cell? ⟨b, k, none⟩ = some v ∧ T' b k) (hc : ∀ t j, t ≠ d → Cpt h h' ob ob' t j)
  {xs : List At} {vs : List Value} (hx : YE d xs = false) (r : Zt (Z8 T h ob w) xs vs) : Zt (Z8 T' h' ob' w') xs vs := by
 induction r with
 | nil => exact .nil
 | cons r _ ih =>
  simp only [YE, Bool.or_eq_false_iff] at hx
  exact .cons (Z8.carry hT hc hx.1 r) (ih hx.2)
theorem Qt.carry (hT : ∀ b k v, T b k → w.cell? ⟨b, k, none⟩ = some v → w'.cell? ⟨b, k, none⟩ = some v ∧ T' b k) (hc : ∀ t j, t ≠ d → Cpt h h' ob ob' t j)
  {x : V} {v : Value} (hx : x.Ti d = false) (r : Qt T h ob w x v) : Qt T' h' ob' w' x v := by
 cases x with
 | any => exact r
 | one x => exact Z8.carry hT hc hx r
 | agg xs => obtain ⟨cs, e, r⟩ := r; exact ⟨cs, e, qh hT hc hx r⟩
 | tup xs => exact r.elim
 | cnd g x => exact r.elim
 | fix u x => exact r.elim
theorem X0.carry (hT : ∀ b k v, T b k → w.cell? ⟨b, k, none⟩ = some v → w'.cell? ⟨b, k, none⟩ = some v ∧ T' b k) (hc : ∀ t j, t ≠ d → Cpt h h' ob ob' t j)
  {x : V} {v : Value} (hx : x.ref d = false) (r : X0 T h ob w x v) : X0 T' h' ob' w' x v := by
 cases x with
 | any => exact r
 | one x => exact Z8.carry hT hc hx r
 | agg xs => obtain ⟨cs, e, r⟩ := r; exact ⟨cs, e, qh hT hc hx r⟩
 | tup xs =>
  obtain ⟨vs, e, r⟩ := r
  refine ⟨vs, e, ?_⟩
  clear e
  generalize vs.toList = vl at r
  simp only [V.ref] at hx
  induction r with
  | nil => exact .nil
  | cons r _ ih =>
   simp only [kN, Bool.or_eq_false_iff] at hx
   exact .cons (Qt.carry hT hc hx.1 r) (ih hx.2)
 | cnd g x =>
  simp only [V.ref, Bool.or_eq_false_iff] at hx
  exact ⟨fun hg => Qt.carry hT hc hx.1 (r.1 hg), r.2⟩
 | fix u x =>
  simp only [V.ref, Bool.or_eq_false_iff] at hx
  exact ⟨r.1, Qt.carry hT hc hx.1 r.2⟩
end
section
variable {P : Program} {T0 : CS} {B : Nat → Prop} {σ : St} {a : Act} {w w' : World} {X X' : Nat → Prop} {h : Nat → Nat → Hd}
theorem Rel.Tlt (r : Rel T0 B σ a w X h) {b k : Nat} (hb : Tof T0 X b k) : b < w.heap.size := by
 rcases hb with hb | hb
 ·exact r.hB b (r.hT b k hb)
 ·exact (r.hX b hb).2
theorem K6 {e : TypeId} {size n : Nat} {v : Value} {xs : List Value} (hb : ∀ b, blk v = some b → w'.heap[b]? = w.heap[b]?) (ho : w.ownsRow 0 e size v n xs) : w'.ownsRow 0 e size v n xs := by
 refine ⟨ho.1, ?_⟩
 rcases ho.2 with hn | ⟨g, cap, cur, rfl, h0, hg, rest⟩
 ·exact .inl hn
 ·exact .inr ⟨g, cap, cur, rfl, h0, by rw [hb g rfl]; exact hg, rest⟩
theorem Own.Sl {v : Value} {d : D} {S : Nat → Prop} (hb : ∀ b, S b → w'.heap[b]? = w.heap[b]?) (ho : Own w v d S) : Own w' v d S := by
 induction ho with
 | int k n S => exact .int k n S
 | bool b S => exact .bool b S
 | str s S => exact .str s S
 | sl v size rows S e xs Sk ho hz hb' hl hk hs hd ih =>
  exact .sl v size rows S e xs Sk (K6 (fun b h => hb b (hb' b h)) ho) hz hb' hl (fun k x d hx hd' => ih k x d hx hd' (fun b h => hb b (hs k b h).1)) hs hd
theorem Own.mono {v : Value} {d : D} {S S' : Nat → Prop} (hS : ∀ b, S b → S' b) (ho : Own w v d S) : Own w v d S' := by
 cases ho with
 | int k n S => exact .int k n S'
 | bool b S => exact .bool b S'
 | str s S => exact .str s S'
 | sl v size rows S e xs Sk ho hz hb' hl hk hs hd => exact .sl v size rows S' e xs Sk ho hz (fun b h => hS b (hb' b h)) hl hk (fun k b h => ⟨hS b (hs k b h).1, (hs k b h).2⟩) hd
theorem KA.Sl {xs : List Value} {ds : List D} {S : Nat → Prop} (hb : ∀ b, S b → w'.heap[b]? = w.heap[b]?) (ho : KA w xs ds S) : KA w' xs ds S := by
 obtain ⟨hl, Sk, h1, h2, h3⟩ := ho
 exact ⟨hl, Sk, fun k x d hx hd => (h1 k x d hx hd).Sl (fun b h => hb b (h2 k b h)), h2, h3⟩
theorem J1.Sl {T T' : CS} {h h' : Nat → Nat → Hd} {ob ob' : Nat → Nat → Ob} {d : Nat} {hd : Hd} {o : Ob}
  (hT : ∀ b k v, T b k → w.cell? ⟨b, k, none⟩ = some v → w'.cell? ⟨b, k, none⟩ = some v ∧ T' b k) (hc : ∀ t j, t ≠ d → Cpt h h' ob ob' t j)
  (hub : o ≠ .none → ∀ b, blk hd.v = some b → hd.u b) (hb : o ≠ .none → ∀ b, hd.u b → w'.heap[b]? = w.heap[b]?) (hr : Yu d [o] = false) (r : J1 T h ob w hd o) : J1 T' h' ob' w' hd o := by
 cases o with
 | none => trivial
 | box cells =>
  obtain ⟨b, cs, e, hv, hh, hal⟩ := r
  simp only [Yu, Bool.or_false] at hr
  exact ⟨b, cs, e, hv, by rw [hb (by simp) b (hub (by simp) b (by rw [hv]; rfl))]; exact hh, qh hT hc hr hal⟩
 | arr q size rows =>
  have hk : ∀ {e : TypeId} {n : Nat} {xs : List Value}, w.ownsRow 0 e size hd.v n xs → w'.ownsRow 0 e size hd.v n xs := fun ho => K6 (fun b h => hb (by simp) b (hub (by simp) b h)) ho
  cases q with
  | false =>
   obtain ⟨e, xs, ho, hz, hal⟩ := r
   exact ⟨e, xs, hk ho, hz, hal.imp fun _ _ => Rd.mono hT⟩
  | true =>
   obtain ⟨e, xs, ho, hz, hal, hn⟩ := r
   exact ⟨e, xs, hk ho, hz, hal.Sl (fun b h => hb (by simp) b h.1), hn⟩
 | lit size rows =>
  obtain ⟨e, xs, ho, hz, hal⟩ := r
  simp only [Yu, Bool.or_false] at hr
  exact ⟨e, xs, K6 (fun b h => hb (by simp) b (hub (by simp) b h)) ho, hz, qh hT hc hr hal⟩
theorem St.Fs {σ : St} {d : Nat} (hf : σ.fresh d = true) (t j : Nat) (hne : t ≠ d) : Yu d [σ.ob t j] = false := by
 cases ho : σ.ob t j with
 | none => rfl
 | box cells => simp [Yu, St.DC hf t j hne cells ho]
 | arr q size rows => rfl
 | lit size rows => simp only [Yu, St.EB hf t j hne size rows ho, Bool.or_false]
theorem Rel.BA (r : Rel T0 B σ a w X h) {d : Nat} (hf : σ.fresh d = true) (M : Nat → Prop) (hsz : w.heap.size ≤ w'.heap.size) (hg : ∀ k, k < w.heap.size → ¬ M k → w'.heap[k]? = w.heap[k]?)
  (hm : ∀ b, M b → ¬ B b ∧ ¬ X b ∧ ∀ t j, t ≠ d → σ.ob t j ≠ .none → ¬ (h t j).u b) (hX : ∀ b, X b → X' b) (hX' : ∀ b, X' b → X b ∨ (w.heap.size ≤ b ∧ b < w'.heap.size))
  (v : V) (val : Value) (os : List Ob) (hd : Nat → Hd)
  (hv : X0 (Tof T0 X') (fun t j => if t = d then hd j else h t j) (σ.new d v os).ob w' v val)
  (hos : ∀ j, J1 (Tof T0 X') (fun t j => if t = d then hd j else h t j) (σ.new d v os).ob w' (hd j) (Yb os j))
  (hub : ∀ j b, Yb os j ≠ .none → blk (hd j).v = some b → (hd j).u b)
  (hown : ∀ j b, Yb os j ≠ .none → (hd j).u b → (w.heap.size ≤ b ∨ M b) ∧ ¬ X' b ∧ b < w'.heap.size)
  (hinj : ∀ j j' b, Yb os j ≠ .none → Yb os j' ≠ .none → (hd j).u b → (hd j').u b → j = j') :
  Rel T0 B (σ.new d v os) (a.put (some d) val) w' X' (fun t j => if t = d then hd j else h t j) := by
 have hlt := St.yI hf
 have hTm : ∀ b k, Tof T0 X b k → ¬ M b := by
  intro b k hb hmb
  rcases hb with hb | hb
  ·exact (hm b hmb).1 (r.hT b k hb)
  ·exact (hm b hmb).2.1 hb
 have hT : ∀ b k v, Tof T0 X b k → w.cell? ⟨b, k, none⟩ = some v → w'.cell? ⟨b, k, none⟩ = some v ∧ Tof T0 X' b k := by
  intro b k v hb hcell
  refine ⟨?_, hb.imp id (hX b)⟩
  rw [World.cell?_of_block (hg b (r.Tlt hb) (hTm b k hb))]; exact hcell
 have hc : ∀ t j, t ≠ d → Cpt h (fun t j => if t = d then hd j else h t j) σ.ob (σ.new d v os).ob t j := by
  intro t j hne
  have he : (σ.new d v os).ob t j = σ.ob t j := by rw [St.KO, if_neg (fun hh => hne hh.1)]
  exact Cpt.same (by simp [hne]) he
 refine ⟨by simp [Act.put, r.size, St.UX], r.defers, fun b hb => Nat.lt_of_lt_of_le (r.hB b hb) hsz, fun b hb => ?_, r.hT, fun t ht => ?_, fun t j => ?_, fun t j b ho hb => ?_, fun t j b ho hb => ?_, fun t j t' j' b ho ho' hb hb' => ?_⟩
 ·rcases hX' b hb with hb | hb
  ·have := r.hX b hb; exact ⟨this.1, by omega⟩
  ·exact ⟨fun hbb => by have := r.hB b hbb; omega, hb.2⟩
 ·rw [St.UX] at ht
  rw [St.Tt]
  by_cases hd' : t = d
  ·subst hd'
   simp only [hlt, and_self, if_true]
   have : (a.tmps.setIfInBounds t val).getD t undef = val := by simp [r.size, hlt]
   simp only [Act.put, this]; exact hv
  ·rw [if_neg (fun hh => hd' hh.1)]
   have : (a.tmps.setIfInBounds d val).getD t undef = a.tmps.getD t undef := by simp [Array.getElem?_setIfInBounds_ne (Ne.symm hd')]
   simp only [Act.put, this]
   exact X0.carry hT hc (St.F2 hf t hd') (r.slot t ht)
 ·rw [St.KO]
  by_cases hd' : t = d
  ·subst hd'
   simp only [hlt, and_self, if_true]; exact hos j
  ·have hne : ¬ (t = d ∧ d < σ.length) := fun hh => hd' hh.1
   rw [if_neg hne]
   simp only [if_neg hd']
   exact J1.Sl hT hc (fun ho b => r.ub t j b ho) (fun ho b hu => hg b (r.own t j b ho hu).2.2 (fun hmb => (hm b hmb).2.2 t j hd' ho hu)) (St.Fs hf t j hd') (r.obj t j)
 ·rw [St.KO] at ho
  by_cases hd' : t = d
  ·subst hd'
   simp only [hlt, and_self, if_true] at ho hb ⊢
   exact hub j b ho hb
  ·rw [if_neg (fun hh => hd' hh.1)] at ho
   simp only [hd', if_false] at hb ⊢
   exact r.ub t j b ho hb
 ·rw [St.KO] at ho
  by_cases hd' : t = d
  ·subst hd'
   simp only [hlt, and_self, if_true] at ho hb
   have h1 := hown j b ho hb
   refine ⟨?_, h1.2.1, h1.2.2⟩
   rcases h1.1 with h2 | h2
   ·exact fun hbb => by have := r.hB b hbb; omega
   ·exact (hm b h2).1
  ·rw [if_neg (fun hh => hd' hh.1)] at ho
   simp only [hd', if_false] at hb
   have := r.own t j b ho hb
   refine ⟨this.1, fun hx => ?_, by omega⟩
   rcases hX' b hx with hx | hx
   ·exact this.2.1 hx
   ·omega
 ·rw [St.KO] at ho ho'
  by_cases hd1 : t = d
  ·by_cases hd2 : t' = d
   ·subst hd1; subst hd2
    simp only [hlt, and_self, if_true] at ho hb ho' hb'
    exact ⟨rfl, hinj j j' b ho ho' hb hb'⟩
   ·subst hd1
    simp only [hlt, and_self, if_true] at ho hb
    rw [if_neg (fun hh => hd2 hh.1)] at ho'
    simp only [hd2, if_false] at hb'
    have h1 := hown j b ho hb
    have h2 := r.own t' j' b ho' hb'
    rcases h1.1 with h3 | h3
    ·omega
    ·exact absurd hb' ((hm b h3).2.2 t' j' hd2 ho')
  ·by_cases hd2 : t' = d
   ·subst hd2
    simp only [hlt, and_self, if_true] at ho' hb'
    rw [if_neg (fun hh => hd1 hh.1)] at ho
    simp only [hd1, if_false] at hb
    have h1 := hown j' b ho' hb'
    have h2 := r.own t j b ho hb
    rcases h1.1 with h3 | h3
    ·omega
    ·exact absurd hb ((hm b h3).2.2 t j hd1 ho)
   ·rw [if_neg (fun hh => hd1 hh.1)] at ho
    rw [if_neg (fun hh => hd2 hh.1)] at ho'
    simp only [hd1, hd2, if_false] at hb hb'
    exact r.inj t j t' j' b ho ho' hb hb'
theorem Rel.new (r : Rel T0 B σ a w X h) {d : Nat} (hf : σ.fresh d = true) (hg : w.grownBy w' none) (hX : ∀ b, X b → X' b) (hX' : ∀ b, X' b → X b ∨ (w.heap.size ≤ b ∧ b < w'.heap.size))
  (v : V) (val : Value) (os : List Ob) (hd : Nat → Hd)
  (hv : X0 (Tof T0 X') (fun t j => if t = d then hd j else h t j) (σ.new d v os).ob w' v val)
  (hos : ∀ j, J1 (Tof T0 X') (fun t j => if t = d then hd j else h t j) (σ.new d v os).ob w' (hd j) (Yb os j))
  (hub : ∀ j b, Yb os j ≠ .none → blk (hd j).v = some b → (hd j).u b)
  (hown : ∀ j b, Yb os j ≠ .none → (hd j).u b → w.heap.size ≤ b ∧ ¬ X' b ∧ b < w'.heap.size)
  (hinj : ∀ j j' b, Yb os j ≠ .none → Yb os j' ≠ .none → (hd j).u b → (hd j').u b → j = j') :
  Rel T0 B (σ.new d v os) (a.put (some d) val) w' X' (fun t j => if t = d then hd j else h t j) :=
 r.BA hf (fun _ => False) hg.size (fun k hk _ => hg.block k hk (by simp)) (fun _ hh => hh.elim) hX hX' v val os hd hv hos hub (fun j b h1 h2 => ⟨.inl (hown j b h1 h2).1, (hown j b h1 h2).2⟩) hinj
end
end Go.Vm
namespace Go.Vm
open Go.RowKit
def Qr (v : Value) (cs : List Value) : Prop := (∃ c, cs = [c] ∧ v = c ∧ c.oneCell' = true) ∨ (cs.length ≠ 1 ∧ v = .agg cs.toArray)
def Sy : List Value → Value
 | [v] => v
 | vs => .tuple vs.toArray
def QL (T : CS) (w : World) (v : Value) : D → Prop
 | .sl size rows => ∃ e xs, w.ownsRow 0 e size v rows.length xs ∧ (∀ r ∈ rows, r.length = size) ∧ Zt (Rd T w) xs rows.flatten
 | d => Rd T w v d
def K2 (own : Bool) (T : CS) (w : World) (v : Value) (d : D) : Prop := if own then QL T w v d else Rd T w v d
def SN (P : Program) (f : FuncId) : Bool :=
 match P.funcs[f]? with
 | some fn => fn.body.isSome && fn.name != "runtime.NumGoroutine"
 | none => false
def AB (B N : Nat) (Y : Nat → Prop) (cs : List Value) (ds : List D) : Prop :=
 (∀ (i : Nat) (c : Value) (d : D) (b : Nat), cs[i]? = some c → ds[i]? = some d → d.scalar = false → blk c = some b → B ≤ b ∧ b < N ∧ ¬ Y b) ∧
 (∀ (i j : Nat) (c c' : Value) (d d' : D) (b : Nat), cs[i]? = some c → ds[i]? = some d → cs[j]? = some c' → ds[j]? = some d' → d.scalar = false → d'.scalar = false → blk c = some b → blk c' = some b → i = j)
def Bh (own : Bool) (T : CS) (w : World) (res : List (List D)) (e : Ending) (w' : World) : Prop :=
 ∃ (vs : List Value) (css : List (List Value)) (Y : Nat → Prop), e = .returned (Sy vs) ∧ Below w.heap.size w w' ∧ (∀ b, Y b → w.heap.size ≤ b ∧ b < w'.heap.size) ∧
  Zt Qr vs css ∧ Zt (fun cs row => Zt (K2 own (Tof T Y) w') cs row) css res ∧ (own = true → AB w.heap.size w'.heap.size Y css.flatten res.flatten)
def Xr (P : Program) (f : FuncId) (own : Bool) (args res : List (List D)) : Prop :=
 SN P f = true ∧ ∀ (T : CS) (w : World) (vals : List Value), (∀ b k, T b k → b < w.heap.size) → Zt (fun v row => ∃ cs, Qr v cs ∧ Zt (Rd T w) cs row) vals args →
  Calls P f vals.toArray w (Bh own T w res)
def vOf : List At → V
 | [x] => .one x
 | xs => .agg xs
def Qh (t : Nat) : Nat → List D → List At
 | _, [] => []
 | k, .sl _ rows :: ds => .sref t k 0 rows.length :: Qh t (k + 1) ds
 | k, d :: ds => .d d :: Qh t (k + 1) ds
def KP : List D → List Ob
 | [] => []
 | .sl size rows :: ds => .arr false size rows :: KP ds
 | _ :: ds => .none :: KP ds
def Mr (t : Nat) : Nat → List (List D) → List V
 | _, [] => []
 | k, r :: rs => vOf (Qh t k r) :: Mr t (k + r.length) rs
def jS (t : Nat) : List (List D) → V
 | [r] => vOf (Qh t 0 r)
 | rs => .tup (Mr t 0 rs)
def yP : List (List D) → V
 | [r] => vOf (r.map .d)
 | rs => .tup (rs.map fun r => vOf (r.map .d))
def Jr (σ : St) : At → Option D
 | .d x => some x
 | .nil s => some (.sl s [])
 | .sref t j lo len => (match σ.ob t j with | .arr _ size rows => some (.sl size (cut rows lo len)) | _ => none)
 | _ => none
def rowOf (σ : St) : List At → Option (List D)
 | [] => some []
 | x :: xs => (match Jr σ x, rowOf σ xs with | some d, some ds => some (d :: ds) | _, _ => none)
def V.Q0 (σ : St) : V → Option (List D)
 | .one x => rowOf σ [x]
 | .agg [_] => none
 | .agg xs => rowOf σ xs
 | _ => none
def Xg (P : Program) (σ : St) : List Operand → List TypeId → List (List D) → Prop
 | [], _, rs => rs = []
 | x :: xs, t :: ts, rs => gOf (look P σ t x) = true ∧ ∃ r rest, (unc (look P σ t x)).Q0 σ = some r ∧ Xg P σ xs ts rest ∧ rs = r :: rest
 | _ :: _, [], _ => False
def At.IX : At → Bool
 | .sref _ _ _ _ => false
 | .tref _ _ _ _ => false
 | _ => true
def JC : List At → Bool
 | [] => true
 | x :: xs => x.IX && JC xs
def YM (P : Program) (σ : St) : List Operand → List TypeId → Bool
 | x :: xs, t :: ts => JC (unc (look P σ t x)).cells && YM P σ xs ts
 | _, _ => true
section
variable {P : Program} {T0 : CS} {B : Nat → Prop} {σ : St} {a : Act} {w w' : World} {X X' : Nat → Prop} {h : Nat → Nat → Hd}
theorem Rel.grow (r : Rel T0 B σ a w X h) (hg : w.grownBy w' none) (hX : ∀ b, X b → X' b) (hX' : ∀ b, X' b → X b ∨ (w.heap.size ≤ b ∧ b < w'.heap.size)) : Rel T0 B σ a w' X' h := by
 have hT : ∀ b k v, Tof T0 X b k → w.cell? ⟨b, k, none⟩ = some v → w'.cell? ⟨b, k, none⟩ = some v ∧ Tof T0 X' b k := by
  intro b k v hb hcell
  refine ⟨?_, hb.imp id (hX b)⟩
  rw [World.cell?_of_block (hg.block b (r.Tlt hb) (by simp))]; exact hcell
 have hB : w.heap.size ≤ w'.heap.size := hg.size
 refine ⟨r.size, r.defers, fun b hb => Nat.lt_of_lt_of_le (r.hB b hb) hB, fun b hb => ?_, r.hT, fun t ht => X0.mono hT (r.slot t ht), fun t j => ?_, r.ub, fun t j b ho hb => ?_, r.inj⟩
 ·rcases hX' b hb with hb | hb
  ·have := r.hX b hb; exact ⟨this.1, by omega⟩
  ·exact ⟨fun hbb => by have := r.hB b hbb; omega, hb.2⟩
 ·have h0 := r.obj t j
  have hk : σ.ob t j ≠ .none → ∀ b, (h t j).u b → w'.heap[b]? = w.heap[b]? := fun ho b hu => hg.block b (r.own t j b ho hu).2.2 (by simp)
  have hob := r.ub t j
  cases ho : σ.ob t j with
  | none => trivial
  | box cells =>
   rw [ho] at h0 hk hob
   obtain ⟨b, cs, e, hv, hh, hal⟩ := h0
   exact ⟨b, cs, e, hv, by rw [hk (by simp) b (hob b (by simp) (by rw [hv]; rfl))]; exact hh, hal.imp fun _ _ => Z8.mono hT⟩
  | arr q size rows =>
   rw [ho] at h0 hk hob
   cases q with
   | false =>
    obtain ⟨e, xs, how, hz, hal⟩ := h0
    exact ⟨e, xs, K6 (fun b hb => hk (by simp) b (hob b (by simp) hb)) how, hz, hal.imp fun _ _ => Rd.mono hT⟩
   | true =>
    obtain ⟨e, xs, how, hz, hal, hn⟩ := h0
    exact ⟨e, xs, K6 (fun b hb => hk (by simp) b (hob b (by simp) hb)) how, hz, hal.Sl (fun b hb => hk (by simp) b hb.1), hn⟩
  | lit size rows =>
   rw [ho] at h0 hk hob
   obtain ⟨e, xs, how, hz, hal⟩ := h0
   exact ⟨e, xs, K6 (fun b hb => hk (by simp) b (hob b (by simp) hb)) how, hz, hal.imp fun _ _ => Z8.mono hT⟩
 ·have := r.own t j b ho hb
  refine ⟨this.1, fun hx => ?_, by omega⟩
  rcases hX' b hx with hx | hx
  ·exact this.2.1 hx
  ·omega
def Ut (T0 : CS) (X : Nat → Prop) (h : Nat → Nat → Hd) (σ : St) : CS := fun b k => Tof T0 X b k ∨ ∃ t j q size rows, σ.ob t j = .arr q size rows ∧ (h t j).u b
theorem Rel.Ir (r : Rel T0 B σ a w X h) {b k : Nat} (hb : Ut T0 X h σ b k) : b < w.heap.size := by
 rcases hb with hb | ⟨t, j, q, size, rows, ho, hb⟩
 ·exact r.Tlt hb
 ·exact (r.own t j b (by rw [ho]; simp) hb).2.2
theorem D3 {T : CS} {w : World} {e : TypeId} {size : Nat} {v : Value} {rows : List (List D)} {xs : List Value} (ho : w.ownsRow 0 e size v rows.length xs) (hz : ∀ r ∈ rows, r.length = size) (hT : ∀ b k, blk v = some b → T b k)
  (hal : Zt (Rd T w) xs rows.flatten) : Rd T w v (.sl size rows) := by
 rcases ho.2 with ⟨rfl, hn⟩ | ⟨g, cap, cur, rfl, _, hh, hnc, hmx, hcs, htk⟩
 ·have : rows = [] := List.eq_nil_of_length_eq_zero hn
  subst this; exact .nil _
 ·refine .sl ⟨g, 0, none⟩ _ cap size rows (fun k => (xs[k]?).getD undef) rfl hnc hmx hz (fun _ => rfl) (fun k d hd => ?_) (fun k d hd => ?_)
  ·obtain ⟨u, hu, _⟩ := hal.get' k d hd
   have hlt : k < rows.length * size := by
    have := (List.getElem?_eq_some_iff.1 hd).1
    rw [YO rows size hz] at this; exact this
   rw [hu]
   refine ⟨?_, hT g _ rfl⟩
   simp only [Nat.zero_add]
   refine Kt hh _ _ ?_
   rw [← htk, List.getElem?_take, if_pos hlt] at hu
   exact hu
  ·obtain ⟨u, hu, hr⟩ := hal.get' k d hd
   rw [hu]; exact hr
theorem Own.rd {T : CS} {w : World} {v : Value} {d : D} {S : Nat → Prop} (ho : Own w v d S) (hT : ∀ b k, S b → T b k) : Rd T w v d := by
 induction ho with
 | int k n S => exact .int k n
 | bool b S => exact .bool b
 | str s S => exact .str s
 | sl v size rows S e xs Sk ho hz hb' hl hk hs hd ih =>
  exact D3 ho hz (fun b k hb => hT b k (hb' b hb)) (Zt.yi hl (fun k x d hx hd' => ih k x d hx hd' (fun b k' hb => hT b k' (hs k b hb).1)))
theorem KA.rd {T : CS} {w : World} {xs : List Value} {ds : List D} {S : Nat → Prop} (ho : KA w xs ds S) (hT : ∀ b k, S b → T b k) : Zt (Rd T w) xs ds := by
 obtain ⟨hl, Sk, h1, h2, h3⟩ := ho
 exact Zt.yi hl (fun k x d hx hd => (h1 k x d hx hd).rd (fun b k' hb => hT b k' (h2 k b hb)))
theorem Rel.cells (r : Rel T0 B σ a w X h) {t j size : Nat} {q : Bool} {rows : List (List D)} (ho : σ.ob t j = .arr q size rows) :
  ∃ e xs, w.ownsRow 0 e size (h t j).v rows.length xs ∧ (∀ r ∈ rows, r.length = size) ∧ ∀ T : CS, (∀ b k, Tof T0 X b k → T b k) → (∀ b k, (h t j).u b → T b k) → Zt (Rd T w) xs rows.flatten := by
 have h0 := r.obj t j
 rw [ho] at h0
 cases q with
 | false =>
  obtain ⟨e, xs, how, hz, hal⟩ := h0
  exact ⟨e, xs, how, hz, fun T h1 _ => hal.imp fun _ _ => Rd.mono (fun b k v hb hc => ⟨hc, h1 b k hb⟩)⟩
 | true =>
  obtain ⟨e, xs, how, hz, hal, hn⟩ := h0
  exact ⟨e, xs, how, hz, fun T _ h2 => hal.rd (fun b k hb => h2 b k hb.1)⟩
theorem Rel.Fj (r : Rel T0 B σ a w X h) {t j lo len size : Nat} {q : Bool} {rows : List (List D)} (ho : σ.ob t j = .arr q size rows) {v : Value} (hv : Z8 (Tof T0 X) h σ.ob w (.sref t j lo len) v)
  (T : CS) (hT1 : ∀ b k, Tof T0 X b k → T b k) (hT2 : ∀ b k, (h t j).u b → T b k) : Rd T w v (.sl size (cut rows lo len)) := by
 obtain ⟨hle, hfull, base, cap, rfl, hcap, hcm, hnn, hb⟩ := hv.2.1 q size rows ho
 obtain ⟨e, xs, ⟨hl, hown⟩, hz, hal0⟩ := r.cells ho
 have hal := hal0 T hT1 hT2
 have hub := r.ub t j
 have hcl : (cut rows lo len).length = len := QX _ _ _ hle
 have hz' : ∀ x ∈ cut rows lo len, x.length = size := fun x hx => hz x (List.mem_of_mem_drop (List.mem_of_mem_take hx))
 by_cases hpos : 0 < len
 ·obtain ⟨b, cap0, hh, rfl⟩ := hb hpos
  rcases hown with ⟨hn, _⟩ | ⟨g, cap', cur, hv', _, hgg, hnc, hmx, hcs, htk⟩
  ·rw [hh] at hn; cases hn
  ·rw [hh] at hv'
   cases hv'
   have key : ∀ k d, (cut rows lo len).flatten[k]? = some d → ∃ u, w.cell? ⟨b, lo * size + k, none⟩ = some u ∧ T b (lo * size + k) ∧ Rd T w u d := by
    intro k d hd
    have hd' := yA rows size lo len hz k d hd
    obtain ⟨u, hu, hr⟩ := hal.get' _ _ hd'
    have hlt : lo * size + k < rows.length * size := by
     have := (List.getElem?_eq_some_iff.1 hd').1
     rw [YO rows size hz] at this; exact this
    refine ⟨u, Kt hgg _ _ ?_, hT2 b _ (hub b (by rw [ho]; simp) (by rw [hh]; rfl)), hr⟩
    rw [← htk, List.getElem?_take, if_pos hlt] at hu
    exact hu
   refine .sl ⟨b, lo * size, none⟩ len cap size _ (fun k => (w.cell? ⟨b, lo * size + k, none⟩).getD undef) hcl hcap hcm hz' (fun _ => rfl) (fun k d hd => ?_) (fun k d hd => ?_)
   ·obtain ⟨u, hu, ht, _⟩ := key k d hd
    rw [hu]; exact ⟨rfl, ht⟩
   ·obtain ⟨u, hu, _, hr⟩ := key k d hd
    rw [hu]; exact hr
 ·have h0' : len = 0 := by omega
  subst h0'
  have hnil : cut rows lo 0 = [] := by simp [cut]
  rw [hnil]
  cases base with
  | none => have := hnn rfl; subst this; exact .nil _
  | some ad => exact .sl ad 0 cap size [] (fun _ => undef) rfl hcap hcm (by intro r hr; cases hr) (by simp) (by simp) (by simp)
end
end Go.Vm
namespace Go.Vm
open Go.RowKit
def D.IU : D → Prop
 | .sl _ rows => ∀ r ∈ rows, ∀ d ∈ r, d.scalar = true
 | _ => True
def Qe (own : Bool) (res : List (List D)) : Prop := ∀ r ∈ res, ∀ d ∈ r, if own = true then d.IU else d.scalar = true
theorem Rd.scalar {T T' : CS} {w : World} {v : Value} {d : D} (hd : d.scalar = true) (r : Rd T w v d) : Rd T' w v d := by
 cases r with
 | int k n => exact .int k n
 | bool b => exact .bool b
 | str s => exact .str s
 | nil => cases hd
 | sl => cases hd
theorem QL.flat {T T' : CS} {w : World} {v : Value} {d : D} (hd : d.IU) (r : QL T w v d) : QL T' w v d := by
 cases d with
 | sl size rows =>
  obtain ⟨e, xs, ho, hz, hal⟩ := r
  refine ⟨e, xs, ho, hz, ?_⟩
  refine Zt.yi hal.length (fun i x d hx hd' => ?_)
  obtain ⟨d2, hd2, hr⟩ := hal.get i x hx
  rw [hd'] at hd2; cases hd2
  have hm : d ∈ rows.flatten := List.mem_of_getElem? hd'
  obtain ⟨r0, hr0, hdr⟩ := List.mem_flatten.1 hm
  exact Rd.scalar (hd r0 hr0 d hdr) hr
 | int k n => exact Rd.scalar rfl r
 | bool b => exact Rd.scalar rfl r
 | str s => exact Rd.scalar rfl r
theorem Vu {w : World} {e : TypeId} {size : Nat} {v : Value} {n : Nat} {xs : List Value} (ho : w.ownsRow 0 e size v n xs) : E9 v size n 0 n v := by
 refine ⟨by omega, fun _ _ => rfl, ?_⟩
 rcases ho.2 with ⟨rfl, rfl⟩ | ⟨g, cap, cur, rfl, _, _, hnc, hmx, _, _⟩
 ·exact ⟨none, 0, rfl, by omega, by simp [maxLen], fun _ => rfl, fun hh => by omega⟩
 ·exact ⟨_, cap, rfl, hnc, hmx, (fun hh => by cases hh), fun _ => ⟨g, cap, rfl, by simp⟩⟩
theorem J7 {w : World} {e : TypeId} {size : Nat} {v : Value} {n : Nat} {xs : List Value} (ho : w.ownsRow 0 e size v n xs) : v.oneCell' = true := by
 rcases ho.2 with ⟨rfl, rfl⟩ | ⟨g, cap, cur, rfl, _⟩ <;> rfl
theorem QL.X4 {T : CS} {w : World} {v : Value} {d : D} (r : QL T w v d) : v.oneCell' = true := by
 cases d with
 | sl size rows => obtain ⟨e, xs, ho, _⟩ := r; exact J7 ho
 | int k n => exact Rd.X4 r
 | bool b => exact Rd.X4 r
 | str s => exact Rd.X4 r
theorem QL.rd {T T' : CS} {w : World} {v : Value} {d : D} (r : QL T w v d) (h1 : ∀ b k, T b k → T' b k) (h2 : d.scalar = false → ∀ b k, blk v = some b → T' b k) : Rd T' w v d := by
 cases d with
 | sl size rows =>
  obtain ⟨e, xs, ⟨hl, hown⟩, hz, hal⟩ := r
  rcases hown with ⟨rfl, hn⟩ | ⟨g, cap, cur, rfl, _, hh, hnc, hmx, hcs, htk⟩
  ·have : rows = [] := List.eq_nil_of_length_eq_zero hn
   subst this; exact .nil _
  ·refine .sl ⟨g, 0, none⟩ _ cap size rows (fun k => (xs[k]?).getD undef) rfl hnc hmx hz (fun _ => rfl) (fun k d hd => ?_) (fun k d hd => ?_)
   ·obtain ⟨u, hu, _⟩ := hal.get' k d hd
    have hlt : k < rows.length * size := by
     have := (List.getElem?_eq_some_iff.1 hd).1
     rw [YO rows size hz] at this; exact this
    rw [hu]
    refine ⟨?_, h2 rfl g _ rfl⟩
    simp only [Nat.zero_add]
    refine Kt hh _ _ ?_
    rw [← htk, List.getElem?_take, if_pos hlt] at hu
    exact hu
   ·obtain ⟨u, hu, hr⟩ := hal.get' k d hd
    rw [hu]; exact Rd.mono (fun b k v hb hc => ⟨hc, h1 b k hb⟩) hr
 | int k n => exact Rd.scalar rfl r
 | bool b => exact Rd.scalar rfl r
 | str s => exact Rd.scalar rfl r
section
variable {P : Program} {T0 : CS} {B : Nat → Prop} {σ : St} {a : Act} {w w' : World} {X X' : Nat → Prop} {h : Nat → Nat → Hd}
theorem Rel.Jr (r : Rel T0 B σ a w X h) {x : At} {v : Value} {d : D} (hd : Jr σ x = some d) (hv : Z8 (Tof T0 X) h σ.ob w x v) (st : Bool) (hst : st = true → x.IX = true) :
  Rd (if st then Tof T0 X else Ut T0 X h σ) w v d := by
 cases x with
 | d x => simp [Vm.Jr] at hd; subst hd; cases st <;> simp <;> first | exact hv | exact Rd.mono (fun b k v hb hc => ⟨hc, .inl hb⟩) hv
 | nil s => simp [Vm.Jr] at hd; subst hd; cases hv; exact .nil _
 | sref t j lo len =>
  cases st with
  | true => have := hst rfl; simp [At.IX] at this
  | false =>
   simp only [Vm.Jr] at hd
   split at hd
   ·rename_i q size rows ho
    cases hd
    exact r.Fj ho hv _ (fun b k hb => .inl hb) (fun b k hb => .inr ⟨t, j, _, size, rows, ho, hb⟩)
   ·cases hd
 | any => simp [Vm.Jr] at hd
 | ptr => simp [Vm.Jr] at hd
 | bptr => simp [Vm.Jr] at hd
 | fn => simp [Vm.Jr] at hd
 | rptr => simp [Vm.Jr] at hd
 | tref => simp [Vm.Jr] at hd
theorem Rel.rowOf (r : Rel T0 B σ a w X h) (st : Bool) : ∀ {xs : List At} {vs : List Value} {ds : List D}, rowOf σ xs = some ds → Zt (Z8 (Tof T0 X) h σ.ob w) xs vs → (st = true → JC xs = true) →
  Zt (Rd (if st then Tof T0 X else Ut T0 X h σ) w) vs ds
 | [], _, ds, hd, hal, _ => by cases hal; simp [Vm.rowOf] at hd; subst hd; exact .nil
 | x :: xs, _, ds, hd, hal, hst => by
  cases hal with
  | cons hx hal =>
   simp only [Vm.rowOf] at hd
   split at hd
   ·rename_i d ds' h1 h2
    cases hd
    refine .cons (r.Jr h1 hx st (fun hs => ?_)) (Rel.rowOf r st h2 hal (fun hs => ?_))
    ·have := hst hs; simp [JC] at this; exact this.1
    ·have := hst hs; simp [JC] at this; exact this.2
   ·cases hd
theorem Rel.Q0 (r : Rel T0 B σ a w X h) (st : Bool) {v : V} {val : Value} {row : List D} (hr : v.Q0 σ = some row) (hv : X0 (Tof T0 X) h σ.ob w v val) (hst : st = true → JC v.cells = true) :
  ∃ cs, Qr val cs ∧ Zt (Rd (if st then Tof T0 X else Ut T0 X h σ) w) cs row := by
 cases v with
 | one x => exact ⟨[val], .inl ⟨val, rfl, rfl, Z8.X4 (show Z8 _ _ _ _ _ _ from hv)⟩, r.rowOf st (xs := [x]) hr (.cons hv .nil) hst⟩
 | agg xs =>
  obtain ⟨cs, rfl, hal⟩ := hv
  have hl := hal.length
  match xs, hr, hal, hl, hst with
  | [], hr, hal, hl, hst => exact ⟨cs.toList, .inr ⟨by rw [← hl]; simp, by simp⟩, r.rowOf st hr hal hst⟩
  | [_], hr, _, _, _ => simp [V.Q0] at hr
  | x :: y :: xs, hr, hal, hl, hst => exact ⟨cs.toList, .inr ⟨by rw [← hl]; simp, by simp⟩, r.rowOf st hr hal hst⟩
 | any => simp [V.Q0] at hr
 | tup xs => simp [V.Q0] at hr
 | cnd g x => simp [V.Q0] at hr
 | fix u x => simp [V.Q0] at hr
theorem Rel.Xg (r : Rel T0 B σ a w X h) (st : Bool) : ∀ {xs : List Operand} {ts : List TypeId} {rs : List (List D)}, Xg P σ xs ts rs → (st = true → YM P σ xs ts = true) →
  Zt (fun v row => ∃ cs, Qr v cs ∧ Zt (Rd (if st then Tof T0 X else Ut T0 X h σ) w) cs row) (xs.map a.eval) rs
 | [], _, rs, hr, _ => by cases hr; exact .nil
 | x :: xs, [], rs, hr, _ => hr.elim
 | x :: xs, t :: ts, rs, hr, hst => by
  obtain ⟨hg, row, rest, h1, h2, rfl⟩ := hr
  refine .cons (r.Q0 st h1 (r.arg t x rfl hg) (fun hs => ?_)) (Rel.Xg r st h2 (fun hs => ?_))
  ·have := hst hs; simp [YM] at this; exact this.1
  ·have := hst hs; simp [YM] at this; exact this.2
theorem qq {o : Oper} {c : Call} {f : FuncId} (hop : o.op = .call c) (hc : c.callee = .value (.func f)) (hf : SN P f = true) : (execOp a.eval o).run P w = .ok (.enter f (c.args.toList.map a.eval).toArray) w := by
 unfold SN at hf
 split at hf
 ·rename_i fn hfn
  simp only [Bool.and_eq_true, bne_iff_ne, ne_eq] at hf
  obtain ⟨cd, hb⟩ := Option.isSome_iff_exists.1 hf.1
  obtain ⟨callee, args, ats⟩ := c
  simp only at hc; subst hc
  have hm : (args.toList.map a.eval).toArray = args.map a.eval := by apply Array.toList_inj.1; simp
  rw [hm]
  simp [execOp, hop, resolve, Act.eval, Deferred.ofValue, invoke, callFunc, hfn, hf.2, hb]
 ·cases hf
end
end Go.Vm
namespace Go.Vm
open Go.RowKit
section
variable {P : Program} {T0 : CS} {B : Nat → Prop} {σ : St} {a : Act} {w w' : World} {X X' : Nat → Prop} {h : Nat → Nat → Hd}
theorem Below.grownBy (hb : Below w.heap.size w w') : w.grownBy w' none := ⟨hb.os, hb.tape, hb.output, hb.size, fun k hk _ => hb.block k hk⟩
theorem Tm {T : CS} {ob : Nat → Nat → Ob} {xs : List At} {v : Value} {cs : List Value} (hf : Qr v cs) (hal : Zt (Z8 T h ob w) xs cs) : Qt T h ob w (vOf xs) v := by
 have hl := hal.length
 rcases hf with ⟨c, rfl, rfl, h1⟩ | ⟨hne, rfl⟩
 ·cases hal with
  | cons hx hal => cases hal; exact hx
 ·match xs, hal, hl with
  | [], hal, _ => exact ⟨_, rfl, by simpa using hal⟩
  | [x], hal, hl => exact absurd hl.symm (by simpa using hne)
  | x :: y :: xs, hal, _ => exact ⟨_, rfl, by simpa using hal⟩
theorem SP {T : CS} {ob : Nat → Nat → Ob} {cs : List Value} {row : List D} (hal : Zt (Rd T w) cs row) : Zt (Z8 T h ob w) (row.map .d) cs := by
 induction hal with
 | nil => exact .nil
 | cons r _ ih => exact .cons r ih
theorem Gu {T : CS} {ob : Nat → Nat → Ob} {res : List (List D)} {vs : List Value} {css : List (List Value)} (hf : Zt Qr vs css) (hal : Zt (fun cs row => Zt (Rd T w) cs row) css res) :
  Zt (Qt T h ob w) (res.map fun r => vOf (r.map .d)) vs := by
 induction hf generalizing res with
 | nil => cases hal; exact .nil
 | cons f _ ih => cases hal with
  | cons r hal => exact .cons (Tm f (SP r)) (ih hal)
theorem F9 {T : CS} {ob : Nat → Nat → Ob} {res : List (List D)} {vs : List Value} {css : List (List Value)} (hf : Zt Qr vs css) (hal : Zt (fun cs row => Zt (Rd T w) cs row) css res) :
  X0 T h ob w (yP res) (Sy vs) := by
 have hl := Gu (h := h) (ob := ob) hf hal
 have h1 := hl.length
 match res, vs, hl, h1 with
 | [r], [v], hl, _ => cases hl with | cons x _ => exact x.up
 | [], [], hl, _ => exact ⟨_, rfl, by simpa using hl⟩
 | r :: r' :: rs, v :: v' :: vs, hl, _ => exact ⟨_, rfl, by simpa using hl⟩
 | [], v :: vs, _, h1 => simp at h1
 | [r], [], _, h1 => simp at h1
 | [r], v :: v' :: vs, _, h1 => simp at h1
 | r :: r' :: rs, [], _, h1 => simp at h1
 | r :: r' :: rs, [v], _, h1 => simp at h1
theorem Mz {α β : Type} {R S : α → β → Prop} {l : List (List α)} {m : List (List β)} (hrs : ∀ (a : α) (b : β) (row : List β), row ∈ m → b ∈ row → R a b → S a b) (hal : Zt (fun x y => Zt R x y) l m) : Zt (fun x y => Zt S x y) l m := by
 induction hal with
 | nil => exact .nil
 | @cons x y _ _ hxy _ ih =>
  refine .cons ?_ (ih (fun a b row hr => hrs a b row (by simp [hr])))
  have hmem : ∀ b ∈ y, ∀ a, R a b → S a b := fun b hb a hr => hrs a b y (by simp) hb hr
  clear ih hrs
  induction hxy with
  | nil => exact .nil
  | cons r _ ih2 => exact .cons (hmem _ (by simp) _ r) (ih2 (fun b hb => hmem b (by simp [hb])))
theorem qS (r : Rel T0 B σ a w X h) {o : Oper} {c : Call} {f : FuncId} {d : Nat} {own : Bool} {rows res : List (List D)} (hop : o.op = .call c) (hc : c.callee = .value (.func f)) (hd : o.dst = some d)
  (hargs : Xg P σ c.args.toList c.argTypes.toList rows) (st : Bool) (hst : st = true → YM P σ c.args.toList c.argTypes.toList = true) (hfl : st = false → Qe own res) (hs : Xr P f own rows res)
  {K : Act → World → Prop} {Q : Exit → Act → World → Prop} (hK : ∀ a' w', JV T0 B (σ.put d (yP res)) a' w' → Y8 B w w' → K a' w') : o.wp P a w K Q := by
 unfold Oper.wp
 rw [qq hop hc hs.1, Oper.upon_enter]
 refine (hs.2 (if st then Tof T0 X else Ut T0 X h σ) w _ (fun b k hb => ?_) (r.Xg st hargs hst)).mono ?_
 ·cases st
  ·exact r.Ir hb
  ·exact r.Tlt hb
 ·rintro e w' ⟨vs, css, Y, rfl, hbel, hY, hform, hcells, hap⟩
  have hX' : ∀ b, (X b ∨ (w.heap.size ≤ b ∧ b < w'.heap.size)) → X b ∨ (w.heap.size ≤ b ∧ b < w'.heap.size) := fun b hb => hb
  have r2 := r.grow (X' := fun b => X b ∨ (w.heap.size ≤ b ∧ b < w'.heap.size)) (Below.grownBy hbel) (fun b hb => .inl hb) hX'
  have hcells2 : Zt (fun cs row => Zt (Rd (Tof T0 fun b => X b ∨ (w.heap.size ≤ b ∧ b < w'.heap.size)) w') cs row) css res := by
   -- index by index, with the blocks' bounds at hand
   have hmem : ∀ (i : Nat) (c : Value) (d : D), css.flatten[i]? = some c → res.flatten[i]? = some d → own = true → d.scalar = false → ∀ b, blk c = some b → w.heap.size ≤ b ∧ b < w'.heap.size := by
    intro i c d h1 h2 ho hsc b hb
    have := (hap ho).1 i c d b h1 h2 hsc hb
    exact ⟨this.1, this.2.1⟩
   have conv : ∀ (c : Value) (d : D), (∀ b, own = true → d.scalar = false → blk c = some b → w.heap.size ≤ b ∧ b < w'.heap.size) → (st = false → if own = true then d.IU else d.scalar = true) →
     K2 own (Tof (if st then Tof T0 X else Ut T0 X h σ) Y) w' c d → Rd (Tof T0 fun b => X b ∨ (w.heap.size ≤ b ∧ b < w'.heap.size)) w' c d := by
    intro c d hblk hfl' hr
    cases own with
    | true =>
     have hr' : QL (Tof (if st then Tof T0 X else Ut T0 X h σ) Y) w' c d := by simpa [K2] using hr
     cases st with
     | true =>
      refine QL.rd hr' (fun b k hb => ?_) (fun hsc b k hb => .inr (.inr (hblk b rfl hsc hb)))
      rcases hb with hb | hb
      ·rcases (show Tof T0 X b k from by simpa using hb) with hb | hb
       ·exact .inl hb
       ·exact .inr (.inl hb)
      ·exact .inr (.inr (hY b hb))
     | false =>
      exact QL.rd (QL.flat (T' := fun _ _ => False) (by simpa using hfl' rfl) hr') (fun b k hb => hb.elim) (fun hsc b k hb => .inr (.inr (hblk b rfl hsc hb)))
    | false =>
     have hr' : Rd (Tof (if st then Tof T0 X else Ut T0 X h σ) Y) w' c d := by simpa [K2] using hr
     cases st with
     | true =>
      refine Rd.mono (fun b k v hb hc => ⟨hc, ?_⟩) hr'
      rcases hb with hb | hb
      ·rcases (show Tof T0 X b k from by simpa using hb) with hb | hb
       ·exact .inl hb
       ·exact .inr (.inl hb)
      ·exact .inr (.inr (hY b hb))
     | false => exact Rd.scalar (by simpa using hfl' rfl) hr'
   -- carry 'conv' through the two lists
   have go : ∀ (css : List (List Value)) (res : List (List D)), Zt (fun cs row => Zt (K2 own (Tof (if st then Tof T0 X else Ut T0 X h σ) Y) w') cs row) css res →
     (∀ (i : Nat) (c : Value) (d : D), css.flatten[i]? = some c → res.flatten[i]? = some d → own = true → d.scalar = false → ∀ b, blk c = some b → w.heap.size ≤ b ∧ b < w'.heap.size) →
     (st = false → Qe own res) → Zt (fun cs row => Zt (Rd (Tof T0 fun b => X b ∨ (w.heap.size ≤ b ∧ b < w'.heap.size)) w') cs row) css res := by
    intro css res hal
    induction hal with
    | nil => intro _ _; exact .nil
    | @cons cs row css' res' hrow _ ih =>
     intro hm hf
     have hlen := hrow.length
     refine .cons (Zt.yi hlen (fun i c d hc hd' => ?_)) (ih (fun i c d h1 h2 => ?_) (fun hs r hr => hf hs r (by simp [hr])))
     ·obtain ⟨d2, hd2, hr⟩ := hrow.get i c hc
      rw [hd'] at hd2; cases hd2
      refine conv c d (fun b ho hsc hb => hm i c d ?_ ?_ ho hsc b hb) (fun hs => hf hs row (by simp) d (List.mem_of_getElem? hd')) hr
      ·rw [List.flatten_cons, List.getElem?_append_left (List.getElem?_eq_some_iff.1 hc).1]; exact hc
      ·rw [List.flatten_cons, List.getElem?_append_left (List.getElem?_eq_some_iff.1 hd').1]; exact hd'
     ·refine hm (cs.length + i) c d ?_ ?_
      ·rw [List.flatten_cons, List.getElem?_append_right (by omega)]; simpa using h1
      ·rw [List.flatten_cons, List.getElem?_append_right (by omega), hlen]; simpa using h2
   exact go css res hcells hmem hfl
  rw [hd]
  exact hK _ _ ⟨_, _, r2.put d _ _ (F9 hform hcells2)⟩ (Y8.Pt hbel r.hB)
end
end Go.Vm
namespace Go.Vm
open Go.RowKit
section
variable {P : Program} {T0 : CS} {B : Nat → Prop} {σ : St} {a : Act} {w w' : World} {X X' : Nat → Prop} {h : Nat → Nat → Hd}
theorem WE : ∀ (ds : List D) (k : Nat), Yb (KP ds) k = (match ds[k]? with | some (.sl size rows) => .arr false size rows | _ => .none)
 | [], k => by simp [KP, Yb]
 | d :: ds, 0 => by cases d <;> simp [KP, Yb]
 | d :: ds, k + 1 => by
  have := WE ds k
  cases d <;> simpa [KP, Yb] using this
def qc (T : CS) (w : World) (v : Value) : D → Prop
 | .sl size rows => ∃ e xs, w.ownsRow 0 e size v rows.length xs
 | d => Rd T w v d
theorem QL.top {T : CS} {v : Value} {d : D} (r : QL T w v d) : qc T w v d := by
 cases d with
 | sl size rows => obtain ⟨e, xs, ho, _⟩ := r; exact ⟨e, xs, ho⟩
 | int k n => exact r
 | bool b => exact r
 | str s => exact r
theorem qc.X4 {T : CS} {v : Value} {d : D} (r : qc T w v d) : v.oneCell' = true := by
 cases d with
 | sl size rows => obtain ⟨e, xs, ho⟩ := r; exact J7 ho
 | int k n => exact Rd.X4 r
 | bool b => exact Rd.X4 r
 | str s => exact Rd.X4 r
theorem Um {T : CS} {ob : Nat → Nat → Ob} {t : Nat} : ∀ {ds : List D} {cs : List Value} {k : Nat}, Zt (qc T w) cs ds →
  (∀ i size rows, ds[i]? = some (.sl size rows) → ∃ q, ob t (k + i) = .arr q size rows) → (∀ i c, cs[i]? = some c → (h t (k + i)).v = c) → Zt (Z8 T h ob w) (Qh t k ds) cs
 | [], _, k, hal, _, _ => by cases hal; exact .nil
 | d :: ds, _, k, hal, ho, hh => by
  cases hal with
  | @cons c _ cs _ hc hal =>
   have ih := Um (k := k + 1) hal (fun i size rows hi => by have := ho (i + 1) size rows (by simpa using hi); rw [show k + 1 + i = k + (i + 1) by omega]; exact this)
    (fun i c' hc' => by have := hh (i + 1) c' (by simpa using hc'); rw [show k + 1 + i = k + (i + 1) by omega]; exact this)
   cases d with
   | sl size rows =>
    obtain ⟨q0, h0⟩ := ho 0 size rows (by simp)
    have h1 := hh 0 c (by simp)
    rw [Nat.add_zero] at h0 h1
    refine .cons ⟨qc.X4 hc, fun q' size' rows' ho' => ?_, fun size' rows' ho' => by rw [h0] at ho'; cases ho'⟩ ih
    rw [h0] at ho'; cases ho'
    obtain ⟨e, xs, hown⟩ := hc
    rw [h1]; exact Vu hown
   | int k' n => exact .cons hc ih
   | bool b => exact .cons hc ih
   | str s => exact .cons hc ih
theorem ER {T : CS} {ob : Nat → Nat → Ob} {t : Nat} {vs : List Value} {css : List (List Value)} (hf : Zt Qr vs css) : ∀ {res : List (List D)} {k : Nat}, Zt (fun cs row => Zt (qc T w) cs row) css res →
  (∀ i size rows, res.flatten[i]? = some (.sl size rows) → ∃ q, ob t (k + i) = .arr q size rows) → (∀ i c, css.flatten[i]? = some c → (h t (k + i)).v = c) → Zt (Qt T h ob w) (Mr t k res) vs := by
 induction hf with
 | nil => intro res k hal _ _; cases hal; exact .nil
 | @cons v cs vs' css' f _ ih =>
  intro res k hal ho hh
  cases hal with
  | @cons _ row _ res' r hal =>
   have hlen := r.length
   refine .cons (Tm f (Um r (fun i size rows hi => ho i size rows ?_) (fun i c hc => hh i c ?_))) (ih hal (fun i size rows hi => ?_) (fun i c hc => ?_))
   ·rw [List.flatten_cons, List.getElem?_append_left (List.getElem?_eq_some_iff.1 hi).1]; exact hi
   ·rw [List.flatten_cons, List.getElem?_append_left (List.getElem?_eq_some_iff.1 hc).1]; exact hc
   ·have := ho (row.length + i) size rows (by rw [List.flatten_cons, List.getElem?_append_right (by omega)]; simpa using hi)
    rw [Nat.add_assoc]; exact this
   ·have := hh (row.length + i) c (by rw [List.flatten_cons, List.getElem?_append_right (by omega), ← hlen]; simpa using hc)
    rw [Nat.add_assoc]; exact this
theorem Hw {T : CS} {ob : Nat → Nat → Ob} {t : Nat} {vs : List Value} {css : List (List Value)} {res : List (List D)} (hf : Zt Qr vs css) (hal : Zt (fun cs row => Zt (qc T w) cs row) css res)
  (ho : ∀ i size rows, res.flatten[i]? = some (.sl size rows) → ∃ q, ob t i = .arr q size rows) (hh : ∀ i c, css.flatten[i]? = some c → (h t i).v = c) : X0 T h ob w (jS t res) (Sy vs) := by
 have hl := ER (k := 0) hf hal (by simpa using ho) (by simpa using hh)
 have h1 : res.length = vs.length := by rw [hf.length, hal.length]
 match res, vs, hl, h1 with
 | [r], [v], hl, _ => cases hl with | cons x _ => exact x.up
 | [], [], hl, _ => exact ⟨_, rfl, by simpa using hl⟩
 | r :: r' :: rs, v :: v' :: vs, hl, _ => exact ⟨_, rfl, by simpa using hl⟩
 | [], v :: vs, _, h1 => simp at h1
 | [r], [], _, h1 => simp at h1
 | [r], v :: v' :: vs, _, h1 => simp at h1
 | r :: r' :: rs, [], _, h1 => simp at h1
 | r :: r' :: rs, [v], _, h1 => simp at h1
theorem yb {α β : Type} {R : α → β → Prop} {l : List (List α)} {m : List (List β)} (hal : Zt (fun x y => Zt R x y) l m) : Zt R l.flatten m.flatten := by
 induction hal with
 | nil => exact .nil
 | cons r _ ih => rw [List.flatten_cons, List.flatten_cons]; exact r.append ih
theorem UM (r : Rel T0 B σ a w X h) {o : Oper} {c : Call} {f : FuncId} {d : Nat} {rows res : List (List D)} (hop : o.op = .call c) (hc : c.callee = .value (.func f)) (hd : o.dst = some d) (hfr : σ.fresh d = true)
  (hargs : Xg P σ c.args.toList c.argTypes.toList rows) (st : Bool) (hst : st = true → YM P σ c.args.toList c.argTypes.toList = true) (hfl : st = false → Qe true res) (hs : Xr P f true rows res)
  {K : Act → World → Prop} {Q : Exit → Act → World → Prop} (hK : ∀ a' w', JV T0 B (σ.new d (jS d res) (KP res.flatten)) a' w' → Y8 B w w' → K a' w') : o.wp P a w K Q := by
 have hlt := St.yI hfr
 unfold Oper.wp
 rw [qq hop hc hs.1, Oper.upon_enter]
 refine (hs.2 (if st then Tof T0 X else Ut T0 X h σ) w _ (fun b k hb => ?_) (r.Xg st hargs hst)).mono ?_
 ·cases st
  ·exact r.Ir hb
  ·exact r.Tlt hb
 ·rintro e w' ⟨vs, css, Y, rfl, hbel, hY, hform, hcells, hap⟩
  have hap := hap rfl
  have hcells2 : Zt (fun cs row => Zt (QL (Tof T0 fun b => X b ∨ Y b) w') cs row) css res := by
   refine Mz (fun c d row hrow hdr hr => ?_) hcells
   have hr' : QL (Tof (if st then Tof T0 X else Ut T0 X h σ) Y) w' c d := by simpa [K2] using hr
   cases st with
   | true =>
    have hT : ∀ b k, Tof (if true = true then Tof T0 X else Ut T0 X h σ) Y b k → Tof T0 (fun b => X b ∨ Y b) b k := by
     intro b k hb
     rcases hb with hb | hb
     ·rcases (show Tof T0 X b k from by simpa using hb) with hb | hb
      ·exact .inl hb
      ·exact .inr (.inl hb)
     ·exact .inr (.inr hb)
    cases d with
    | sl size rows =>
     obtain ⟨e, xs, ho, hz, hal⟩ := hr'
     exact ⟨e, xs, ho, hz, hal.imp fun _ _ => Rd.mono (fun b k v hb hc => ⟨hc, hT b k hb⟩)⟩
    | int k n => exact Rd.scalar rfl hr'
    | bool b => exact Rd.scalar rfl hr'
    | str s => exact Rd.scalar rfl hr'
   | false => exact QL.flat (by simpa using hfl rfl row hrow d hdr) hr'
  have hflat := yb hcells2
  rw [hd]
  refine hK _ _ ⟨fun b => X b ∨ Y b, fun t j => if t = d then Hd.of ((css.flatten[j]?).getD undef) else h t j, ?_⟩ (Y8.Pt hbel r.hB)
  have hcell : ∀ (j size : Nat) (rows : List (List D)), res.flatten[j]? = some (D.sl size rows) → ∃ c, css.flatten[j]? = some c ∧ QL (Tof T0 fun b => X b ∨ Y b) w' c (D.sl size rows) := fun j size rows hj => hflat.get' j _ hj
  have hob : ∀ j, (σ.new d (jS d res) (KP res.flatten)).ob d j = Yb (KP res.flatten) j := fun j => by rw [St.KO]; simp [hlt]
  have hsl : ∀ j, Yb (KP res.flatten) j ≠ .none → ∃ size rows, res.flatten[j]? = some (D.sl size rows) := by
   intro j hne
   rw [WE] at hne
   split at hne
   ·rename_i size rows hj; exact ⟨size, rows, hj⟩
   ·exact absurd rfl hne
  refine r.new hfr (Below.grownBy hbel) (fun b hb => .inl hb) (fun b hb => hb.imp id (fun hy => hY b hy)) (jS d res) (Sy vs) (KP res.flatten) (fun j => Hd.of ((css.flatten[j]?).getD undef)) ?_ (fun j => ?_) (fun j b _ hb => hb) (fun j b hne hb => ?_) (fun j j' b hne hne' hb hb' => ?_)
  ·refine Hw hform (Mz (fun _ _ _ _ _ hr => QL.top hr) hcells2) (fun i size rows hi => ⟨false, ?_⟩) (fun i c hi => by simp [hi, Hd.of])
   rw [hob, WE, hi]
  ·rw [WE]
   split
   ·rename_i size rows hj
    obtain ⟨c, hc', hown⟩ := hcell j size rows hj
    obtain ⟨e, xs, ho, hz, hal⟩ := hown
    exact ⟨e, xs, by rw [hc']; exact ho, hz, hal⟩
   ·trivial
  ·obtain ⟨size, rows, hj⟩ := hsl j hne
   obtain ⟨c, hc', _⟩ := hcell j size rows hj
   have hb' : blk c = some b := by simpa [Hd.of, hc'] using hb
   have := hap.1 j c _ b hc' hj rfl hb'
   refine ⟨this.1, ?_, this.2.1⟩
   rintro (hx | hy)
   ·have := r.hX b hx; omega
   ·exact this.2.2 hy
  ·obtain ⟨size, rows, hj⟩ := hsl j hne
   obtain ⟨size', rows', hj'⟩ := hsl j' hne'
   obtain ⟨c, hc', _⟩ := hcell j size rows hj
   obtain ⟨c2, hc2, _⟩ := hcell j' size' rows' hj'
   exact hap.2 j j' c c2 _ _ b hc' hj hc2 hj' rfl rfl (by simpa [Hd.of, hc'] using hb) (by simpa [Hd.of, hc2] using hb')
end
end Go.Vm
namespace Go.Vm
open Go.RowKit
section
variable {P : Program} {T0 : CS} {B : Nat → Prop} {σ : St} {a : Act} {w w' : World} {X X' : Nat → Prop} {h : Nat → Nat → Hd}
theorem Y8.VO {B : Nat → Prop} (hg : w.grownBy w' none) (hB : ∀ b, B b → b < w.heap.size) : Y8 B w w' := ⟨hg.os, hg.tape, hg.output, hg.size, fun k hk => hg.block k (hB k hk) (by simp)⟩
theorem Rel.DB (r : Rel T0 B σ a w X h) {d : Nat} (hf : σ.fresh d = true) (cs : Array Value) (T : TypeId) (xs : List At) (hx : YE d xs = false) (hal : Zt (Z8 (Tof T0 X) h σ.ob w) xs cs.toList) :
  JV T0 B (σ.new d (.one (.bptr d 0)) [.box xs]) (a.put (some d) (.pointer (some ⟨w.heap.size, 0, none⟩))) (w.alloc (.cells cs T)) ∧ Y8 B w (w.alloc (.cells cs T)) := by
 have hg := World.grownBy_alloc w (.cells cs T) none
 have hlt := St.yI hf
 have hT : ∀ b k v, Tof T0 X b k → w.cell? ⟨b, k, none⟩ = some v → (w.alloc (.cells cs T)).cell? ⟨b, k, none⟩ = some v ∧ Tof T0 X b k := by
  intro b k v hb hcell
  refine ⟨?_, hb⟩
  rw [World.cell?_of_block (hg.block b (r.Tlt hb) (by simp))]; exact hcell
 refine ⟨⟨X, fun t j => if t = d then Hd.of (.pointer (some ⟨w.heap.size, 0, none⟩)) else h t j, ?_⟩, Y8.VO hg r.hB⟩
 have hob0 : (σ.new d (.one (.bptr d 0)) [.box xs]).ob d 0 = .box xs := by rw [St.KO]; simp [hlt, Yb]
 have hc : ∀ t j, t ≠ d → Cpt h (fun t j => if t = d then Hd.of (.pointer (some ⟨w.heap.size, 0, none⟩)) else h t j) σ.ob (σ.new d (.one (.bptr d 0)) [.box xs]).ob t j := by
  intro t j hne
  have he : (σ.new d (.one (.bptr d 0)) [.box xs]).ob t j = σ.ob t j := by rw [St.KO, if_neg (fun hh => hne hh.1)]
  exact Cpt.same (by simp [hne]) he
 refine r.new hf hg (fun _ hb => hb) (fun _ hb => .inl hb) _ _ [.box xs] (fun _ => Hd.of (.pointer (some ⟨w.heap.size, 0, none⟩))) ?_ (fun j => ?_) (fun j b _ hb => hb) (fun j b _ hb => ?_) (fun j j' b hne hne' _ _ => ?_)
 ·exact ⟨rfl, fun cells _ => ⟨w.heap.size, by simp [Hd.of], rfl⟩⟩
 ·cases j with
  | zero =>
   refine ⟨w.heap.size, cs, T, rfl, ?_, qh hT hc hx hal⟩
   exact heap_alloc_new w _
  | succ j => simp [Yb, J1]
 ·simp [Hd.of, blk] at hb; subst hb
  refine ⟨Nat.le_refl _, fun hx' => ?_, by simp⟩
  have := (r.hX _ hx').2; omega
 ·have : ∀ j, Yb [Ob.box xs] j ≠ .none → j = 0 := by
   intro j hj
   cases j with
   | zero => rfl
   | succ j => simp [Yb] at hj
  rw [this j hne, this j' hne']
theorem Rel.E1 (r : Rel T0 B σ a w X h) {d : Nat} (hf : σ.fresh d = true) (hg : w.grownBy w' none) (v : Value) {size : Nat} {rows : List (List D)}
  (ho : QL (Tof T0 X) w' v (.sl size rows)) (hb : ∀ b, blk v = some b → w.heap.size ≤ b ∧ b < w'.heap.size) :
  JV T0 B (σ.new d (.one (.sref d 0 0 rows.length)) [.arr false size rows]) (a.put (some d) v) w' ∧ Y8 B w w' := by
 have hlt := St.yI hf
 refine ⟨⟨X, fun t j => if t = d then Hd.of v else h t j, ?_⟩, Y8.VO hg r.hB⟩
 have hob0 : (σ.new d (.one (.sref d 0 0 rows.length)) [.arr false size rows]).ob d 0 = .arr false size rows := by rw [St.KO]; simp [hlt, Yb]
 obtain ⟨e, xs, hown, hz, hal⟩ := ho
 refine r.new hf hg (fun _ hb => hb) (fun _ hb => .inl hb) _ _ [.arr false size rows] (fun _ => Hd.of v) ?_ (fun j => ?_) (fun j b _ hb => hb) (fun j b _ hb' => ?_) (fun j j' b hne hne' _ _ => ?_)
 ·refine ⟨J7 hown, fun q' size' rows' ho' => ?_, fun size' rows' ho' => by rw [hob0] at ho'; cases ho'⟩
  rw [hob0] at ho'; cases ho'
  simp only [if_true]
  exact Vu hown
 ·cases j with
  | zero => exact ⟨e, xs, hown, hz, hal⟩
  | succ j => simp [Yb, J1]
 ·have := hb b hb'
  refine ⟨this.1, fun hx' => ?_, this.2⟩
  have := (r.hX _ hx').2; omega
 ·have : ∀ j, Yb [Ob.arr false size rows] j ≠ .none → j = 0 := by
   intro j hj
   cases j with
   | zero => rfl
   | succ j => simp [Yb] at hj
  rw [this j hne, this j' hne']
theorem Rel.CB (r : Rel T0 B σ a w X h) {d : Nat} (hf : σ.fresh d = true) (hg : w.grownBy w' none) (v : Value) {e : TypeId} {size : Nat} {rows : List (List D)} {xs : List Value}
  (hown : w'.ownsRow 0 e size v rows.length xs) (hz : ∀ r ∈ rows, r.length = size) (hal : KA w' xs rows.flatten (fun _ => False)) (hb : ∀ b, blk v = some b → w.heap.size ≤ b ∧ b < w'.heap.size) :
  JV T0 B (σ.new d (.one (.sref d 0 0 rows.length)) [.arr true size rows]) (a.put (some d) v) w' ∧ Y8 B w w' := by
 have hlt := St.yI hf
 refine ⟨⟨X, fun t j => if t = d then ⟨v, fun k => (xs[k]?).getD undef, fun b => blk v = some b⟩ else h t j, ?_⟩, Y8.VO hg r.hB⟩
 have hob0 : (σ.new d (.one (.sref d 0 0 rows.length)) [.arr true size rows]).ob d 0 = .arr true size rows := by rw [St.KO]; simp [hlt, Yb]
 refine r.new hf hg (fun _ hb => hb) (fun _ hb => .inl hb) _ _ [.arr true size rows] (fun _ => ⟨v, fun k => (xs[k]?).getD undef, fun b => blk v = some b⟩) ?_ (fun j => ?_) (fun j b _ hb => hb) (fun j b _ hb' => ?_) (fun j j' b hne hne' _ _ => ?_)
 ·refine ⟨J7 hown, fun q' size' rows' ho' => ?_, fun size' rows' ho' => by rw [hob0] at ho'; cases ho'⟩
  rw [hob0] at ho'; cases ho'
  simp only [if_true]
  exact Vu hown
 ·cases j with
  | zero =>
   obtain ⟨hl, Sk, h1, h2, h3⟩ := hal
   exact ⟨e, xs, hown, hz, ⟨hl, Sk, h1, fun k b hk => (h2 k b hk).elim, h3⟩, fun k x d hx _ _ => by simp [hx]⟩
  | succ j => simp [Yb, J1]
 ·have := hb b hb'
  refine ⟨this.1, fun hx' => ?_, this.2⟩
  have := (r.hX _ hx').2; omega
 ·have : ∀ j, Yb [Ob.arr true size rows] j ≠ .none → j = 0 := by
   intro j hj
   cases j with
   | zero => rfl
   | succ j => simp [Yb] at hj
  rw [this j hne, this j' hne']
theorem GC (r : Rel T0 B σ a w X h) {o : Oper} {T : TypeId} {d : Nat} {row : List At} (hop : o.op = .alloc T) (hd : o.dst = some d) (hf : σ.fresh d = true) (hz : Zq P T = true) (hzr : Y0 P 12 T = some row) (hrow : YE d row = false)
  {K : Act → World → Prop} {Q : Exit → Act → World → Prop} (hK : ∀ a' w', JV T0 B (σ.new d (.one (.bptr d 0)) [.box row]) a' w' → Y8 B w w' → K a' w') : o.wp P a w K Q := by
 obtain ⟨i, z, hi, hzv, hsz, hal⟩ := O2 hz hzr
 have hrun : (execOp a.eval o).run P w = .ok (.value (.pointer (some ⟨w.heap.size, 0, none⟩))) (w.alloc (.cells z.cells T)) := by
  simp [execOp, hop, Instr.alloc, zeroValue, typeInfo, hi, hzv, newVar, newRow]
 unfold Oper.wp
 rw [hrun, Oper.upon_value, hd]
 have := r.DB hf z.cells T row hrow (hal _ _ _ _)
 exact hK _ _ this.1 this.2
theorem F0 (r : Rel T0 B σ a w X h) {o : Oper} {T : TypeId} {x : Operand} {d : Nat} (hop : o.op = .box T x) (hd : o.dst = some d) (hf : σ.fresh d = true) (hg : gOf (look P σ T x) = true) (hfl : (unc (look P σ T x)).flat = true) (hrow : YE d (unc (look P σ T x)).cells = false)
  {K : Act → World → Prop} {Q : Exit → Act → World → Prop} (hK : ∀ a' w', JV T0 B (σ.new d (.one (.bptr d 0)) [.box (unc (look P σ T x)).cells]) a' w' → Y8 B w w' → K a' w') : o.wp P a w K Q := by
 have hal := qu hfl (r.arg (P := P) T x rfl hg)
 have hrun : (execOp a.eval o).run P w = .ok (.value (.pointer (some ⟨w.heap.size, 0, none⟩))) (w.alloc (.cells (a.eval x).cells T)) := by
  simp [execOp, hop, Instr.box, newVar, newRow]
 unfold Oper.wp
 rw [hrun, Oper.upon_value, hd]
 have := r.DB hf (a.eval x).cells T _ hrow hal
 exact hK _ _ this.1 this.2
end
end Go.Vm
