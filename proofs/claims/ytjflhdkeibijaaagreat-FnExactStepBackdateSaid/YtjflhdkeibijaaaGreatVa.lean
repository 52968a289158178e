/- An abstract machine RK the model of Go, by value, and that it is sound: part Va. No condition. -/
import Derived.WalkKit
import Derived.Below
namespace Go.Vm
inductive D where
 | int (k : IntKind) (n : Int)
 | bool (b : Bool)
 | str (s : ByteArray)
 | sl (size : Nat) (rows : List (List D))
 deriving Inhabited
def D.scalar : D → Bool
 | .sl _ _ => false
 | _ => true
abbrev CS := Nat → Nat → Prop
inductive Rd (T : CS) (w : World) : Value → D → Prop
 | int (k : IntKind) (n : Int) : Rd T w (.int k n) (.int k n)
 | bool (b : Bool) : Rd T w (.bool b) (.bool b)
 | str (s : ByteArray) : Rd T w (.string s) (.str s)
 | nil (size : Nat) : Rd T w (.slice none 0 0) (.sl size [])
 | sl (a : Addr) (len cap size : Nat) (rows : List (List D)) (g : Nat → Value)
   (hl : rows.length = len) (hc : len ≤ cap) (hm : cap ≤ maxLen) (hz : ∀ r ∈ rows, r.length = size) (hs : rows.flatten ≠ [] → a.spot = none)
   (hg : ∀ k d, rows.flatten[k]? = some d → w.cell? ⟨a.block, a.off + k, none⟩ = some (g k) ∧ T a.block (a.off + k))
   (hr : ∀ k d, rows.flatten[k]? = some d → Rd T w (g k) d) : Rd T w (.slice (some a) len cap) (.sl size rows)
theorem Rd.mono {T T' : CS} {w w' : World} (hT : ∀ b k v, T b k → w.cell? ⟨b, k, none⟩ = some v → w'.cell? ⟨b, k, none⟩ = some v ∧ T' b k)
  {v : Value} {d : D} (h : Rd T w v d) : Rd T' w' v d := by
 induction h with
 | int k n => exact .int k n
 | bool b => exact .bool b
 | str s => exact .str s
 | nil s => exact .nil s
 | sl a len cap size rows g hl hc hm hz hs hg hr ih =>
  exact .sl a len cap size rows g hl hc hm hz hs (fun k d hk => hT _ _ _ (hg k d hk).2 (hg k d hk).1) (fun k d hk => ih k d hk)
theorem Rd.XP {T : CS} {w : World} {v : Value} {d : D} (h : Rd T w v d) : v.oneCell' = true := by
 cases h <;> rfl
inductive At where
 | any
 | d (x : D)
 | nil (size : Nat)
 | sref (t j lo len : Nat)
 | ptr (t j i c : Nat)
 | bptr (t c : Nat)
 | fn (f t : Nat)
 | rptr (r : List D) (c : Nat)
 | tref (t j i c : Nat) (o : Option Nat)
 deriving Inhabited
inductive V where
 | any
 | one (x : At)
 | agg (xs : List At)
 | tup (xs : List V)
 | cnd (g : Bool) (x : V)
 | fix (v : Value) (x : V)
 deriving Inhabited
inductive Ob where
 | none
 | box (cells : List At)
 | arr (q : Bool) (size : Nat) (rows : List (List D))
 | lit (size : Nat) (rows : List (List At))
 deriving Inhabited
structure Hd where
 v : Value
 n : Nat → Value
 u : Nat → Prop
abbrev Ent := V × List Ob
abbrev St := List Ent
def St.get (σ : St) (t : Nat) : V := match σ[t]? with | some e => e.1 | none => .any
def YL (os : List Ob) (j : Nat) : Ob := match os[j]? with | some o => o | none => .none
def St.ob (σ : St) (t j : Nat) : Ob := match σ[t]? with | some e => YL e.2 j | none => .none
def St.put : St → Nat → V → St
 | [], _, _ => []
 | e :: σ, 0, v => (v, e.2) :: σ
 | e :: σ, t + 1, v => e :: St.put σ t v
def St.Z9 : St → Nat → Nat → Ob → St
 | [], _, _, _ => []
 | e :: σ, 0, j, o => (e.1, e.2.set j o) :: σ
 | e :: σ, t + 1, j, o => e :: St.Z9 σ t j o
def St.new : St → Nat → V → List Ob → St
 | [], _, _, _ => []
 | _ :: σ, 0, v, os => (v, os) :: σ
 | e :: σ, t + 1, v, os => e :: St.new σ t v os
theorem St.Jk (σ : St) (t : Nat) (v : V) : (σ.put t v).length = σ.length := by
 induction σ generalizing t with
 | nil => rfl
 | cons e σ ih => cases t <;> simp [St.put, ih]
theorem St.XG (σ : St) (t j : Nat) (o : Ob) : (σ.Z9 t j o).length = σ.length := by
 induction σ generalizing t with
 | nil => rfl
 | cons e σ ih => cases t <;> simp [St.Z9, ih]
theorem St.VJ (σ : St) (t : Nat) (v : V) (os : List Ob) : (σ.new t v os).length = σ.length := by
 induction σ generalizing t with
 | nil => rfl
 | cons e σ ih => cases t <;> simp [St.new, ih]
theorem St.jl (σ : St) (t : Nat) (v : V) (u : Nat) : (σ.put t v).get u = if u = t ∧ t < σ.length then v else σ.get u := by
 induction σ generalizing t u with
 | nil => simp [St.put, St.get]
 | cons e σ ih =>
  cases t with
  | zero => cases u <;> simp [St.put, St.get]
  | succ t => cases u with
   | zero => simp [St.put, St.get]
   | succ u => have := ih t u; simp only [St.get, St.put] at this ⊢; simpa using this
theorem St.QX (σ : St) (t : Nat) (v : V) : (σ.put t v).ob = σ.ob := by
 funext u j
 induction σ generalizing t u with
 | nil => simp [St.put, St.ob]
 | cons e σ ih =>
  cases t with
  | zero => cases u <;> simp [St.put, St.ob]
  | succ t => cases u with
   | zero => simp [St.put, St.ob]
   | succ u => have := ih t u; simp only [St.ob, St.put] at this ⊢; simpa using this
theorem St.QY (σ : St) (t j : Nat) (o : Ob) (u : Nat) : (σ.Z9 t j o).get u = σ.get u := by
 induction σ generalizing t u with
 | nil => simp [St.Z9, St.get]
 | cons e σ ih =>
  cases t with
  | zero => cases u <;> simp [St.Z9, St.get]
  | succ t => cases u with
   | zero => simp [St.Z9, St.get]
   | succ u => have := ih t u; simp only [St.get, St.Z9] at this ⊢; simpa using this
theorem L2 (os : List Ob) (j : Nat) (o : Ob) (i : Nat) : YL (os.set j o) i = if i = j ∧ j < os.length then o else YL os i := by
 unfold YL
 rw [List.getElem?_set]
 by_cases h : j = i
 ·subst h
  by_cases h2 : j < os.length
  ·simp [h2]
  ·simp [h2]
 ·simp [h, Ne.symm h]
theorem St.Qq (σ : St) (t j : Nat) (o : Ob) (u i : Nat) (hl : σ.ob t j ≠ .none) : (σ.Z9 t j o).ob u i = if u = t ∧ i = j then o else σ.ob u i := by
 induction σ generalizing t u with
 | nil => simp [St.ob] at hl
 | cons e σ ih =>
  cases t with
  | zero =>
   have hj : j < e.2.length := by
    simp only [St.ob, List.getElem?_cons_zero, YL] at hl
    rcases Nat.lt_or_ge j e.2.length with h | h
    ·exact h
    ·simp [List.getElem?_eq_none h] at hl
   cases u with
   | zero => simp [St.Z9, St.ob, L2, hj]
   | succ u => simp [St.Z9, St.ob]
  | succ t => cases u with
   | zero => simp [St.Z9, St.ob]
   | succ u =>
    have := ih t u (by simpa [St.ob] using hl)
    simp only [St.ob, St.Z9] at this ⊢; simpa using this
theorem St.ML (σ : St) (t : Nat) (v : V) (os : List Ob) (u : Nat) : (σ.new t v os).get u = if u = t ∧ t < σ.length then v else σ.get u := by
 induction σ generalizing t u with
 | nil => simp [St.new, St.get]
 | cons e σ ih =>
  cases t with
  | zero => cases u <;> simp [St.new, St.get]
  | succ t => cases u with
   | zero => simp [St.new, St.get]
   | succ u => have := ih t u; simp only [St.get, St.new] at this ⊢; simpa using this
theorem St.Jh (σ : St) (t : Nat) (v : V) (os : List Ob) (u j : Nat) : (σ.new t v os).ob u j = if u = t ∧ t < σ.length then YL os j else σ.ob u j := by
 induction σ generalizing t u with
 | nil => simp [St.new, St.ob]
 | cons e σ ih =>
  cases t with
  | zero => cases u <;> simp [St.new, St.ob]
  | succ t => cases u with
   | zero => simp [St.new, St.ob]
   | succ u => have := ih t u; simp only [St.ob, St.new] at this ⊢; simpa using this
def I8 (h : Value) (len : Nat) : Value := match h with | .slice b _ c => .slice b len c | v => v
def Fc (h : Value) (size n lo len : Nat) (v : Value) : Prop :=
 lo + len ≤ n ∧ (len = n → lo = 0 → v = h) ∧ (lo = 0 → v = I8 h len) ∧ ∃ base cap, v = .slice base len cap ∧ len ≤ cap ∧ cap ≤ maxLen ∧ (base = none → cap = 0) ∧ (0 < len → ∃ b cap0, h = .slice (some ⟨b, 0, none⟩) n cap0 ∧ base = some ⟨b, lo * size, none⟩)
def BF : Option Nat → Value → Value → Prop
 | none, x, v => v = x
 | some k, x, v => ∃ b n cap, x = .slice (some ⟨b, 0, none⟩) n cap ∧ v = .pointer (some ⟨b, k, none⟩)
def Z3 (T : CS) (h : Nat → Nat → Hd) (ob : Nat → Nat → Ob) (w : World) : At → Value → Prop
 | .any, v => v.oneCell' = true
 | .d x, v => Rd T w v x
 | .nil _, v => v = .slice none 0 0
 | .sref t j lo len, v => v.oneCell' = true ∧ (∀ q size rows, ob t j = .arr q size rows → Fc (h t j).v size rows.length lo len v) ∧ (∀ size rows, ob t j = .lit size rows → Fc (h t j).v size rows.length lo len v)
 | .ptr t j i c, v => v.oneCell' = true ∧ (∀ q size rows, ob t j = .arr q size rows → ∃ b n cap, (h t j).v = .slice (some ⟨b, 0, none⟩) n cap ∧ v = .pointer (some ⟨b, i * size + c, none⟩))
 | .bptr t c, v => v.oneCell' = true ∧ ∀ cells, ob t 0 = .box cells → ∃ b, (h t 0).v = .pointer (some ⟨b, 0, none⟩) ∧ v = .pointer (some ⟨b, c, none⟩)
 | .fn f t, v => v.oneCell' = true ∧ ∀ cells, ob t 0 = .box cells → ∃ b, (h t 0).v = .pointer (some ⟨b, 0, none⟩) ∧ v = .func (.func f) #[] #[.pointer (some ⟨b, 0, none⟩)]
 | .rptr r c, v => ∃ b off, ∃ g : Nat → Value, v = .pointer (some ⟨b, off + c, none⟩) ∧ ∀ k d, r[k]? = some d → w.cell? ⟨b, off + k, none⟩ = some (g k) ∧ T b (off + k) ∧ Rd T w (g k) d
 | .tref t j i c o, v => v.oneCell' = true ∧ ∀ size rows, ob t j = .arr true size rows → BF o ((h t j).n (i * size + c)) v
theorem Z3.XP {T : CS} {h : Nat → Nat → Hd} {ob : Nat → Nat → Ob} {w : World} {x : At} {v : Value} (r : Z3 T h ob w x v) : v.oneCell' = true := by
 cases x with
 | any => exact r
 | d x => exact Rd.XP r
 | nil s => cases r; rfl
 | sref => exact r.1
 | ptr => exact r.1
 | bptr => exact r.1
 | fn => exact r.1
 | tref => exact r.1
 | rptr r' c => obtain ⟨b, off, g, rfl, _⟩ := r; rfl
inductive Zs {α β : Type} (R : α → β → Prop) : List α → List β → Prop
 | nil : Zs R [] []
 | cons {a b l m} : R a b → Zs R l m → Zs R (a :: l) (b :: m)
theorem Zs.imp {α β : Type} {R S : α → β → Prop} (h : ∀ a b, R a b → S a b) {l : List α} {m : List β} (x : Zs R l m) : Zs S l m := by
 induction x with
 | nil => exact .nil
 | cons r _ ih => exact .cons (h _ _ r) ih
theorem Zs.length {α β : Type} {R : α → β → Prop} {l : List α} {m : List β} (x : Zs R l m) : l.length = m.length := by
 induction x with
 | nil => rfl
 | cons r _ ih => simp [ih]
theorem Zs.get {α β : Type} {R : α → β → Prop} {l : List α} {m : List β} (x : Zs R l m) : ∀ (i : Nat) (a : α), l[i]? = some a → ∃ b, m[i]? = some b ∧ R a b := by
 induction x with
 | nil => intro i a h; simp at h
 | cons r _ ih =>
  intro i a h
  cases i with
  | zero => simp at h; subst h; exact ⟨_, by simp, r⟩
  | succ i => simpa using ih i a (by simpa using h)
theorem Zs.get' {α β : Type} {R : α → β → Prop} {l : List α} {m : List β} (x : Zs R l m) : ∀ (i : Nat) (b : β), m[i]? = some b → ∃ a, l[i]? = some a ∧ R a b := by
 induction x with
 | nil => intro i a h; simp at h
 | cons r _ ih =>
  intro i a h
  cases i with
  | zero => simp at h; subst h; exact ⟨_, by simp, r⟩
  | succ i => simpa using ih i a (by simpa using h)
theorem Zs.zk {α β : Type} {R : α → β → Prop} {l : List α} {m : List β} (hl : l.length = m.length) (h : ∀ (i : Nat) (a : α) (b : β), l[i]? = some a → m[i]? = some b → R a b) : Zs R l m := by
 induction l generalizing m with
 | nil => cases m with
  | nil => exact .nil
  | cons b m => simp at hl
 | cons a l ih => cases m with
  | nil => simp at hl
  | cons b m => exact .cons (h 0 a b (by simp) (by simp)) (ih (by simpa using hl) (fun i a b ha hb => h (i + 1) a b (by simpa using ha) (by simpa using hb)))
theorem Zs.append {α β : Type} {R : α → β → Prop} {l l' : List α} {m m' : List β} (x : Zs R l m) (y : Zs R l' m') : Zs R (l ++ l') (m ++ m') := by
 induction x with
 | nil => exact y
 | cons r _ ih => exact .cons r ih
theorem Zs.take {α β : Type} {R : α → β → Prop} {l : List α} {m : List β} (x : Zs R l m) (n : Nat) : Zs R (l.take n) (m.take n) := by
 induction x generalizing n with
 | nil => simpa using Zs.nil
 | cons r _ ih => cases n with
  | zero => simpa using Zs.nil
  | succ n => simpa using Zs.cons r (ih n)
theorem Zs.drop {α β : Type} {R : α → β → Prop} {l : List α} {m : List β} (x : Zs R l m) (n : Nat) : Zs R (l.drop n) (m.drop n) := by
 induction x generalizing n with
 | nil => simpa using Zs.nil
 | cons r x ih => cases n with
  | zero => simpa using Zs.cons r x
  | succ n => simpa using ih n
theorem Zs.set {α β : Type} {R : α → β → Prop} {l : List α} {m : List β} (x : Zs R l m) (i : Nat) {a : α} {b : β} (r : R a b) : Zs R (l.set i a) (m.set i b) := by
 induction x generalizing i with
 | nil => simpa using Zs.nil
 | cons r' x ih => cases i with
  | zero => simpa using Zs.cons r x
  | succ i => simpa using Zs.cons r' (ih i)
theorem Zs.mem {α β : Type} {R : α → β → Prop} {l : List α} {m : List β} (x : Zs R l m) {b : β} (h : b ∈ m) : ∃ a, a ∈ l ∧ R a b := by
 obtain ⟨i, hi⟩ := List.mem_iff_getElem?.1 h
 obtain ⟨a, ha, r⟩ := x.get' i b hi
 exact ⟨a, List.mem_of_getElem? ha, r⟩
def QP (T : CS) (h : Nat → Nat → Hd) (ob : Nat → Nat → Ob) (w : World) : V → Value → Prop
 | .any, _ => True
 | .one x, v => Z3 T h ob w x v
 | .agg xs, v => ∃ cs : Array Value, v = .agg cs ∧ Zs (Z3 T h ob w) xs cs.toList
 | .tup _, _ => False
 | .cnd _ _, _ => False
 | .fix _ _, _ => False
def XO (T : CS) (h : Nat → Nat → Hd) (ob : Nat → Nat → Ob) (w : World) : V → Value → Prop
 | .tup xs, v => ∃ vs : Array Value, v = .tuple vs ∧ Zs (QP T h ob w) xs vs.toList
 | .cnd g x, v => (g = true → QP T h ob w x v) ∧ (g = false → v = undef)
 | .any, _ => True
 | .one x, v => Z3 T h ob w x v
 | .agg xs, v => QP T h ob w (.agg xs) v
 | .fix u x, v => v = u ∧ QP T h ob w x v
theorem QP.up {T : CS} {h : Nat → Nat → Hd} {ob : Nat → Nat → Ob} {w : World} {x : V} {v : Value} (r : QP T h ob w x v) : XO T h ob w x v := by
 cases x <;> first | exact r | exact r.elim
def blk : Value → Option Nat
 | .slice (some a) _ _ => some a.block
 | .pointer (some a) => some a.block
 | _ => none
def Hd.of (v : Value) : Hd := ⟨v, fun _ => undef, fun b => blk v = some b⟩
inductive Own (w : World) : Value → D → (Nat → Prop) → Prop
 | int (k : IntKind) (n : Int) (S : Nat → Prop) : Own w (.int k n) (.int k n) S
 | bool (b : Bool) (S : Nat → Prop) : Own w (.bool b) (.bool b) S
 | str (s : ByteArray) (S : Nat → Prop) : Own w (.string s) (.str s) S
 | sl (v : Value) (size : Nat) (rows : List (List D)) (S : Nat → Prop) (e : TypeId) (xs : List Value) (Sk : Nat → Nat → Prop) (ho : w.ownsRow 0 e size v rows.length xs) (hz : ∀ r ∈ rows, r.length = size)
   (hb : ∀ b, blk v = some b → S b) (hl : xs.length = rows.flatten.length) (hk : ∀ k x d, xs[k]? = some x → rows.flatten[k]? = some d → Own w x d (Sk k))
   (hs : ∀ k b, Sk k b → S b ∧ blk v ≠ some b) (hd : ∀ i j b, Sk i b → Sk j b → i = j) : Own w v (.sl size rows) S
def Qw (w : World) (xs : List Value) (ds : List D) (S : Nat → Prop) : Prop :=
 xs.length = ds.length ∧ ∃ Sk : Nat → Nat → Prop, (∀ k x d, xs[k]? = some x → ds[k]? = some d → Own w x d (Sk k)) ∧ (∀ k b, Sk k b → S b) ∧ (∀ i j b, Sk i b → Sk j b → i = j)
def JO (T : CS) (h : Nat → Nat → Hd) (ob : Nat → Nat → Ob) (w : World) (hd : Hd) : Ob → Prop
 | .none => True
 | .box cells => ∃ b cs e, hd.v = .pointer (some ⟨b, 0, none⟩) ∧ w.heap[b]? = some (.cells cs e (0, 0)) ∧ Zs (Z3 T h ob w) cells cs.toList
 | .arr false size rows => ∃ e xs, w.ownsRow 0 e size hd.v rows.length xs ∧ (∀ r ∈ rows, r.length = size) ∧ Zs (Rd T w) xs rows.flatten
 | .arr true size rows => ∃ e xs, w.ownsRow 0 e size hd.v rows.length xs ∧ (∀ r ∈ rows, r.length = size) ∧ Qw w xs rows.flatten (fun b => hd.u b ∧ blk hd.v ≠ some b) ∧ (∀ k x d, xs[k]? = some x → rows.flatten[k]? = some d → d.scalar = false → hd.n k = x)
 | .lit size rows => ∃ e xs, w.ownsRow 0 e size hd.v rows.length xs ∧ (∀ r ∈ rows, r.length = size) ∧ Zs (Z3 T h ob w) rows.flatten xs
def Tof (T0 : CS) (X : Nat → Prop) : CS := fun b k => T0 b k ∨ X b
structure Yk (B : Nat → Prop) (w w' : World) : Prop where
 os : w'.os = w.os
 tape : w'.tape = w.tape
 output : w'.output = w.output
 size : w.heap.size ≤ w'.heap.size
 block : ∀ k, B k → w'.heap[k]? = w.heap[k]?
theorem Yk.refl (B : Nat → Prop) (w : World) : Yk B w w := ⟨rfl, rfl, rfl, Nat.le_refl _, fun _ _ => rfl⟩
theorem Yk.trans {B : Nat → Prop} {a b c : World} (h : Yk B a b) (k : Yk B b c) : Yk B a c :=
 ⟨k.os.trans h.os, k.tape.trans h.tape, k.output.trans h.output, Nat.le_trans h.size k.size, fun i hi => (k.block i hi).trans (h.block i hi)⟩
theorem Yk.Rt {B : Nat → Prop} {w w' : World} (h : RowKit.Below w.heap.size w w') (hB : ∀ b, B b → b < w.heap.size) : Yk B w w' := ⟨h.os, h.tape, h.output, h.size, fun k hk => h.block k (hB k hk)⟩
structure Rel (T0 : CS) (B : Nat → Prop) (σ : St) (a : Act) (w : World) (X : Nat → Prop) (h : Nat → Nat → Hd) : Prop where
 size : a.tmps.size = σ.length
 defers : a.defers = []
 hB : ∀ b, B b → b < w.heap.size
 hX : ∀ b, X b → ¬ B b ∧ b < w.heap.size
 hT : ∀ b k, T0 b k → B b
 slot : ∀ t, t < σ.length → XO (Tof T0 X) h σ.ob w (σ.get t) (a.tmps.getD t undef)
 obj : ∀ t j, JO (Tof T0 X) h σ.ob w (h t j) (σ.ob t j)
 ub : ∀ t j b, σ.ob t j ≠ .none → blk (h t j).v = some b → (h t j).u b
 own : ∀ t j b, σ.ob t j ≠ .none → (h t j).u b → ¬ B b ∧ ¬ X b ∧ b < w.heap.size
 inj : ∀ t j t' j' b, σ.ob t j ≠ .none → σ.ob t' j' ≠ .none → (h t j).u b → (h t' j').u b → t = t' ∧ j = j'
def QV (T0 : CS) (B : Nat → Prop) (σ : St) (a : Act) (w : World) : Prop := ∃ X h, Rel T0 B σ a w X h
theorem Rel.F8 {T0 : CS} {B : Nat → Prop} {σ : St} {a : Act} {w : World} {X : Nat → Prop} {h : Nat → Nat → Hd} (r : Rel T0 B σ a w X h) {t j b : Nat} (ho : σ.ob t j ≠ .none) (hb : blk (h t j).v = some b) : ¬ B b ∧ ¬ X b ∧ b < w.heap.size :=
 r.own t j b ho (r.ub t j b ho hb)
section
variable {T T' : CS} {h h' : Nat → Nat → Hd} {ob ob' : Nat → Nat → Ob} {w w' : World}
theorem Z3.mono (hT : ∀ b k v, T b k → w.cell? ⟨b, k, none⟩ = some v → w'.cell? ⟨b, k, none⟩ = some v ∧ T' b k) {x : At} {v : Value}
  (r : Z3 T h ob w x v) : Z3 T' h ob w' x v := by
 cases x with
 | any => exact r
 | d x => exact Rd.mono hT r
 | nil s => exact r
 | sref t j lo len => exact r
 | ptr t j i c => exact r
 | bptr t c => exact r
 | fn f t => exact r
 | tref t j i c o => exact r
 | rptr rr c =>
  obtain ⟨b, off, g, e, hk⟩ := r
  exact ⟨b, off, g, e, fun k d hd => ⟨(hT _ _ _ (hk k d hd).2.1 (hk k d hd).1).1, (hT _ _ _ (hk k d hd).2.1 (hk k d hd).1).2, Rd.mono hT (hk k d hd).2.2⟩⟩
theorem QP.mono (hT : ∀ b k v, T b k → w.cell? ⟨b, k, none⟩ = some v → w'.cell? ⟨b, k, none⟩ = some v ∧ T' b k) {x : V} {v : Value}
  (r : QP T h ob w x v) : QP T' h ob w' x v := by
 cases x with
 | any => exact r
 | one x => exact Z3.mono hT r
 | agg xs => obtain ⟨cs, e, r⟩ := r; exact ⟨cs, e, r.imp fun _ _ => Z3.mono hT⟩
 | tup xs => exact r.elim
 | cnd g x => exact r.elim
 | fix u x => exact r.elim
theorem XO.mono (hT : ∀ b k v, T b k → w.cell? ⟨b, k, none⟩ = some v → w'.cell? ⟨b, k, none⟩ = some v ∧ T' b k) {x : V} {v : Value}
  (r : XO T h ob w x v) : XO T' h ob w' x v := by
 cases x with
 | any => exact r
 | one x => exact Z3.mono hT r
 | agg xs => exact QP.mono (x := .agg xs) hT r
 | tup xs => obtain ⟨vs, e, r⟩ := r; exact ⟨vs, e, r.imp fun _ _ => QP.mono hT⟩
 | cnd g x => exact ⟨fun hg => QP.mono hT (r.1 hg), r.2⟩
 | fix u x => exact ⟨r.1, QP.mono hT r.2⟩
end
end Go.Vm
namespace Go.Vm
def unc : V → V
 | .cnd _ x => x
 | .fix _ x => x
 | x => x
def gOf : V → Bool
 | .cnd g _ => g
 | _ => true
def ZM (P : Program) (t : TypeId) : TypeId :=
 match P.underlying t with
 | some (.slice e) => e
 | some (.array _ e) => e
 | _ => 0
def YJ (P : Program) (t : TypeId) : Bool :=
 match P.underlying t with
 | some (.slice e) => (P.info? e).isSome
 | _ => false
def Hn (P : Program) (t : TypeId) : Option Nat :=
 match P.underlying t with
 | some (.array n e) => if (P.info? e).isSome then some n else none
 | _ => none
def Yg (P : Program) (t : TypeId) : Bool :=
 match P.underlying t with
 | some (.struct _) | some (.array _ _) => true
 | _ => false
def YU (P : Program) (t : TypeId) : Bool :=
 (P.underlying t).isSome && (P.info? t).isSome && (Yg P t || P.cellsOf t == 1)
def ZJ (P : Program) (t : TypeId) (f : Nat) : Nat :=
 match P.underlying t with
 | some (.struct fs) => (match fs[f]? with | some fd => fd.offset | none => 0)
 | _ => 0
def ZP (P : Program) (t : TypeId) (f : Nat) : TypeId :=
 match P.underlying t with
 | some (.struct fs) => (match fs[f]? with | some fd => fd.type | none => 0)
 | _ => 0
def ZQ (P : Program) (t : TypeId) (f : Nat) : Bool :=
 match P.underlying t with
 | some (.struct fs) => (match fs[f]? with | some fd => (P.info? fd.type).isSome && decide (P.cellsOf fd.type ≠ 0) | none => false)
 | _ => false
def Yx (P : Program) (t : TypeId) : Option IntKind :=
 match P.underlying t with
 | some (.int k) => some k
 | _ => none
def Q0 (P : Program) (t : TypeId) : Bool :=
 match P.underlying t with
 | some .string => true
 | _ => false
def Tr (P : Program) (t : TypeId) : Bool :=
 match P.underlying t with
 | some .bool => true
 | _ => false
def cst (P : Program) (ty : TypeId) : Value → V
 | .int k n => .one (.d (.int k n))
 | .bool b => .one (.d (.bool b))
 | .string s => .one (.d (.str s))
 | .slice none 0 0 => .one (.nil (P.cellsOf (ZM P ty)))
 | _ => .any
def look (P : Program) (σ : St) (ty : TypeId) : Operand → V
 | .tmp t => σ.get t
 | .const v => cst P ty v
 | _ => .any
section
variable {P : Program} {T0 : CS} {B : Nat → Prop} {σ : St} {a : Act} {w : World} {X : Nat → Prop} {h : Nat → Nat → Hd}
theorem Rel.get (r : Rel T0 B σ a w X h) (t : Nat) : XO (Tof T0 X) h σ.ob w (σ.get t) (a.tmps.getD t undef) := by
 rcases Nat.lt_or_ge t σ.length with hl | hl
 ·exact r.slot t hl
 ·simp [St.get, List.getElem?_eq_none hl, XO]
theorem EZ (T : CS) (h : Nat → Nat → Hd) (ob : Nat → Nat → Ob) (w : World) (ty : TypeId) (v : Value) : XO T h ob w (cst P ty v) v := by
 unfold cst
 split
 ·exact .int _ _
 ·exact .bool _
 ·exact .str _
 ·rfl
 ·trivial
theorem Rel.look (r : Rel T0 B σ a w X h) (ty : TypeId) (x : Operand) : XO (Tof T0 X) h σ.ob w (look P σ ty x) (a.eval x) := by
 cases x with
 | tmp t => exact r.get t
 | const v => exact EZ _ _ _ _ _ _
 | global g => trivial
 | func f => trivial
theorem XO.unc {T : CS} {h : Nat → Nat → Hd} {ob : Nat → Nat → Ob} {w : World} {x : V} {v : Value} (r : XO T h ob w x v) (hg : gOf x = true) : XO T h ob w (unc x) v := by
 cases x with
 | cnd g x => exact QP.up (r.1 hg)
 | fix u x => exact QP.up r.2
 | _ => exact r
theorem Rel.arg (r : Rel T0 B σ a w X h) (ty : TypeId) (x : Operand) {v : V} (he : Vm.unc (Vm.look P σ ty x) = v) (hg : gOf (Vm.look P σ ty x) = true) : XO (Tof T0 X) h σ.ob w v (a.eval x) := by
 subst he
 exact (r.look ty x).unc hg
theorem Rel.put (r : Rel T0 B σ a w X h) (d : Nat) (v : V) (val : Value) (hv : XO (Tof T0 X) h σ.ob w v val) : Rel T0 B (σ.put d v) (a.put (some d) val) w X h := by
 refine ⟨by simp [Act.put, r.size, St.Jk], r.defers, r.hB, r.hX, r.hT, fun t ht => ?_, fun t j => ?_, fun t j b => ?_, fun t j b => ?_, fun t j t' j' b => ?_⟩
 ·rw [St.QX, St.jl]
  rw [St.Jk] at ht
  by_cases hd : t = d ∧ d < σ.length
  ·obtain ⟨rfl, hl⟩ := hd
   simp only [hl, and_self, if_true]
   have : (a.tmps.setIfInBounds t val).getD t undef = val := by simp [r.size, hl]
   simp only [Act.put, this]; exact hv
  ·rw [if_neg hd]
   have hne : d ≠ t := fun e => hd ⟨e.symm, e ▸ ht⟩
   have : (a.tmps.setIfInBounds d val).getD t undef = a.tmps.getD t undef := by simp [Array.getElem?_setIfInBounds_ne hne]
   simp only [Act.put, this]; exact r.slot t ht
 ·rw [St.QX]; exact r.obj t j
 ·rw [St.QX]; exact r.ub t j b
 ·rw [St.QX]; exact r.own t j b
 ·rw [St.QX]; exact r.inj t j t' j' b
end
def ldV (P : Program) (T : TypeId) (xs : List At) : V := if Yg P T then .agg xs else (match xs with | [x] => .one x | _ => .any)
def Dt (k : IntKind) (x y : Int) : Int := k.wrap (BitVec.ofInt k.bits x &&& BitVec.ofInt k.bits y).toNat
def iOr (k : IntKind) (x y : Int) : Int := k.wrap (BitVec.ofInt k.bits x ||| BitVec.ofInt k.bits y).toNat
def Dr (k : IntKind) (x y : Int) : Int := k.wrap (BitVec.ofInt k.bits x ^^^ BitVec.ofInt k.bits y).toNat
def Ry (op : BinOp) (k : IntKind) (x y : Int) (v : V) : Prop :=
 match op with
 | .eql => v = .one (.d (.bool (x == y)))
 | .neq => v = .one (.d (.bool (x != y)))
 | .lss => v = .one (.d (.bool (decide (x < y))))
 | .leq => v = .one (.d (.bool (decide (x ≤ y))))
 | .gtr => v = .one (.d (.bool (decide (x > y))))
 | .geq => v = .one (.d (.bool (decide (x ≥ y))))
 | .add => v = .one (.d (.int k (k.wrap (x + y))))
 | .sub => v = .one (.d (.int k (k.wrap (x - y))))
 | .mul => v = .one (.d (.int k (k.wrap (x * y))))
 | .quo => y ≠ 0 ∧ v = .one (.d (.int k (k.wrap (x.tdiv y))))
 | .rem => y ≠ 0 ∧ v = .one (.d (.int k (x.tmod y)))
 | .and => v = .one (.d (.int k (Dt k x y)))
 | .or => v = .one (.d (.int k (iOr k x y)))
 | .xor => v = .one (.d (.int k (Dr k x y)))
 | .shl => 0 ≤ y ∧ v = .one (.d (.int k (k.wrap (x * 2 ^ (min y.toNat k.bits)))))
 | .shr => 0 ≤ y ∧ v = .one (.d (.int k (x.fdiv (2 ^ (min y.toNat k.bits)))))
 | _ => False
def Rf (op : BinOp) (x y : ByteArray) (v : V) : Prop :=
 match op with
 | .add => ((x.size + y.size : Nat) : Int) ≤ 9223372036854775807 ∧ v = .one (.d (.str (x ++ y)))
 | .eql => v = .one (.d (.bool (decide (x = y))))
 | .neq => v = .one (.d (.bool (!decide (x = y))))
 | _ => False
def Ud (op : BinOp) (x y : Bool) (v : V) : Prop :=
 match op with
 | .eql => v = .one (.d (.bool (x == y)))
 | .neq => v = .one (.d (.bool (!(x == y))))
 | _ => False
theorem Hi {P : Program} {op : BinOp} {k : IntKind} {x y : Int} {v : V} {t : TypeId} {kk : IntKind} (hk : (op = .shl ∨ op = .shr) ∨ kk = k) (hb : Ry op k x y v) (w : World) :
  ∃ d, v = .one (.d d) ∧ ∃ val, (binOp op t (.int k x) (.int kk y)).run P w = .ok val w ∧ ∀ T w', Rd T w' val d := by
 cases op <;> simp only [Ry] at hb
 case shl => obtain ⟨h0, rfl⟩ := hb; exact ⟨_, rfl, _, by simp [binOp, Op.shift, Int.not_lt.2 h0], fun _ _ => .int _ _⟩
 case shr => obtain ⟨h0, rfl⟩ := hb; exact ⟨_, rfl, _, by simp [binOp, Op.shift, Int.not_lt.2 h0], fun _ _ => .int _ _⟩
 all_goals (have hkk : kk = k := by rcases hk with (hk | hk) | hk <;> first | exact hk | cases hk)
 all_goals subst hkk
 case quo => obtain ⟨h0, rfl⟩ := hb; exact ⟨_, rfl, _, by simp [binOp, Op.intDiv, h0], fun _ _ => .int _ _⟩
 case rem => obtain ⟨h0, rfl⟩ := hb; exact ⟨_, rfl, _, by simp [binOp, Op.intDiv, h0], fun _ _ => .int _ _⟩
 case add => subst hb; exact ⟨_, rfl, _, by simp [binOp, Op.intArith], fun _ _ => .int _ _⟩
 case sub => subst hb; exact ⟨_, rfl, _, by simp [binOp, Op.intArith], fun _ _ => .int _ _⟩
 case mul => subst hb; exact ⟨_, rfl, _, by simp [binOp, Op.intArith], fun _ _ => .int _ _⟩
 case and => subst hb; exact ⟨_, rfl, _, by simp [binOp, Op.intBits, Dt], fun _ _ => .int _ _⟩
 case or => subst hb; exact ⟨_, rfl, _, by simp [binOp, Op.intBits, iOr], fun _ _ => .int _ _⟩
 case xor => subst hb; exact ⟨_, rfl, _, by simp [binOp, Op.intBits, Dr], fun _ _ => .int _ _⟩
 all_goals (subst hb; exact ⟨_, rfl, .bool _, by simp only [binOp, Op.intCmp, ne_eq, not_true_eq_false, if_false]; rfl, fun _ _ => .bool _⟩)
theorem Hz (x y : ByteArray) : (x.toList == y.toList) = decide (x = y) := by
 rw [ByteArray.toList_eq, ByteArray.toList_eq, Bool.eq_iff_iff]
 simp only [beq_iff_eq, decide_eq_true_eq]
 constructor
 ·intro hh; cases x; cases y; simp_all
 ·rintro rfl; rfl
theorem HZ {P : Program} {op : BinOp} {x y : ByteArray} {v : V} {t : TypeId} (hb : Rf op x y v) (w : World) :
  ∃ d, v = .one (.d d) ∧ ∃ val, (binOp op t (.string x) (.string y)).run P w = .ok val w ∧ ∀ T w', Rd T w' val d := by
 cases op <;> simp only [Rf] at hb
 case add => obtain ⟨h0, rfl⟩ := hb; exact ⟨_, rfl, _, by simp only [binOp, Op.stringOp]; rw [if_neg (by simp [IntKind.max, IntKind.signed, IntKind.bits]; omega)]; rfl, fun _ _ => .str _⟩
 case eql => subst hb; exact ⟨_, rfl, .bool _, by simp only [binOp, Op.stringOp, Hz]; rfl, fun _ _ => .bool _⟩
 case neq => subst hb; exact ⟨_, rfl, .bool _, by simp only [binOp, Op.stringOp, Hz]; rfl, fun _ _ => .bool _⟩
theorem run_equalIn_bool {P : Program} {t : TypeId} (hu : P.underlying t = some .bool) (d : Nat) (x y : Bool) (w : World) : (Op.equalIn (d + 1) t (.bool x) (.bool y)).run P w = .ok (x == y) w := by
 simp [Op.equalIn, run_underlying hu]
theorem L3 {P : Program} {op : BinOp} {x y : Bool} {v : V} {t : TypeId} (ht : Tr P t = true) (hb : Ud op x y v) (w : World) :
  ∃ d, v = .one (.d d) ∧ ∃ val, (binOp op t (.bool x) (.bool y)).run P w = .ok val w ∧ ∀ T w', Rd T w' val d := by
 have hu : P.underlying t = some .bool := by
  unfold Tr at ht; split at ht <;> first | assumption | cases ht
 cases op <;> simp only [Ud] at hb
 case eql => subst hb; exact ⟨_, rfl, _, by simp only [binOp, Op.equal, Op.maxDepth, Sem.run_bind, run_equalIn_bool hu 9999, Result.andThen_ok, Sem.run_pure], fun _ _ => .bool _⟩
 case neq => subst hb; exact ⟨_, rfl, _, by simp only [binOp, Op.equal, Op.maxDepth, Sem.run_bind, run_equalIn_bool hu 9999, Result.andThen_ok, Sem.run_pure], fun _ _ => .bool _⟩
end Go.Vm
namespace Go.Vm
def xm (P : Program) (σ : St) (x : Operand) (k : IntKind) (n : Int) : Prop := gOf (look P σ 0 x) = true ∧ unc (look P σ 0 x) = .one (.d (.int k n))
def bnd (P : Program) (σ : St) (dflt : Nat) : Option Operand → Nat → Prop
 | none, n => n = dflt
 | some x, n => ∃ k i, gOf (look P σ 0 x) = true ∧ unc (look P σ 0 x) = .one (.d (.int k i)) ∧ 0 ≤ i ∧ n = i.toNat
def cut {α : Type} (xs : List α) (off n : Nat) : List α := (xs.drop off).take n
def YW (P : Program) : Nat → TypeId → Option (List At)
 | 0, _ => none
 | n + 1, t =>
  match P.underlying t with
  | some .bool => some [.d (.bool false)]
  | some (.int k) => some [.d (.int k 0)]
  | some .string => some [.d (.str ⟨#[]⟩)]
  | some (.slice e) => some [.nil (P.cellsOf e)]
  | some (.struct fs) => (fs.toList.mapM (fun f => YW P n f.type)).map List.flatten
  | some (.array m e) => (YW P n e).map (fun r => (List.replicate m r).flatten)
  | _ => none
def zAt : At → Value → Bool
 | .d (.bool b), .bool b' => b == b'
 | .d (.int k n), .int k' n' => k == k' && n == n'
 | .d (.str s), .string s' => s.data.toList == s'.data.toList
 | .nil _, .slice none 0 0 => true
 | _, _ => false
def Gw : List At → List Value → Bool
 | [], [] => true
 | x :: xs, v :: vs => zAt x v && Gw xs vs
 | _, _ => false
def Zp (P : Program) (t : TypeId) : Bool :=
 match YW P 12 t, P.info? t with
 | some row, some i => (match i.zero with | some z => Gw row z.cells.toList && i.size == row.length | none => false)
 | _, _ => false
theorem E3 {x : At} {v : Value} (hz : zAt x v = true) (T : CS) (h : Nat → Nat → Hd) (ob : Nat → Nat → Ob) (w : World) : Z3 T h ob w x v := by
 unfold zAt at hz
 split at hz
 ·simp at hz; subst hz; exact .bool _
 ·simp at hz; obtain ⟨rfl, rfl⟩ := hz; exact .int _ _
 ·rename_i s s'
  simp at hz
  have : s = s' := by cases s; cases s'; simp_all
  subst this; exact .str _
 ·rfl
 ·cases hz
theorem Fs {xs : List At} {vs : List Value} (hz : Gw xs vs = true) (T : CS) (h : Nat → Nat → Hd) (ob : Nat → Nat → Ob) (w : World) : Zs (Z3 T h ob w) xs vs := by
 induction xs generalizing vs with
 | nil => cases vs with
  | nil => exact .nil
  | cons v vs => simp [Gw] at hz
 | cons x xs ih => cases vs with
  | nil => simp [Gw] at hz
  | cons v vs => simp [Gw] at hz; exact .cons (E3 hz.1 _ _ _ _) (ih hz.2)
theorem P3 {P : Program} {t : TypeId} {row : List At} (hz : Zp P t = true) (hr : YW P 12 t = some row) :
  ∃ i z, P.info? t = some i ∧ i.zero = some z ∧ i.size = row.length ∧ (∀ T h ob w, Zs (Z3 T h ob w) row z.cells.toList) := by
 unfold Zp at hz
 rw [hr] at hz
 split at hz
 ·rename_i row' i hr' hi
  cases hr'
  split at hz
  ·rename_i z hzz
   simp at hz
   exact ⟨i, z, hi, hzz, hz.2, fun T h ob w => Fs hz.1 T h ob w⟩
  ·cases hz
 ·cases hz
def V.cells : V → List At
 | .one c => [c]
 | .agg xs => xs
 | _ => []
def V.flat : V → Bool
 | .one _ => true
 | .agg _ => true
 | _ => false
def place {α : Type} (r : List α) (off : Nat) (xs : List α) : List α := r.take off ++ xs ++ r.drop (off + xs.length)
def Z2 (P : Program) (T : TypeId) (i : Nat) : Nat := match P.underlying T with | some (.array _ e) => i * P.cellsOf e | _ => ZJ P T i
def bTy (P : Program) (T : TypeId) (i : Nat) : TypeId := match P.underlying T with | some (.array _ e) => e | _ => ZP P T i
def bOk (P : Program) (T : TypeId) (i : Nat) : Bool := match P.underlying T with
 | some (.array _ e) => (P.info? e).isSome
 | some (.struct fs) => fs.all (fun f => (P.info? f.type).isSome) && decide (i < fs.size)
 | _ => false
def jB (P : Program) (σ : St) (T : TypeId) : List (Nat × Operand) → List At → List At → Prop
 | [], r, out => out = r
 | (i, x) :: ps, r, out => bOk P T i = true ∧ gOf (look P σ (bTy P T i) x) = true ∧ (unc (look P σ (bTy P T i) x)).flat = true ∧
   (unc (look P σ (bTy P T i) x)).cells.length = P.cellsOf (bTy P T i) ∧ Z2 P T i + P.cellsOf (bTy P T i) ≤ r.length ∧
   jB P σ T ps (place r (Z2 P T i) (unc (look P σ (bTy P T i) x)).cells) out
def Mx (P : Program) (t : TypeId) : Bool := match P.underlying t with | some .bool => true | some (.int _) => true | some .string => true | _ => false
def kF (P : Program) : List Field → Nat → Bool
 | [], _ => true
 | f :: fs, i => decide (f.name ≠ "_") && f.offset == i && Mx P f.type && kF P fs (i + 1)
def jf (P : Program) (t : TypeId) : Bool := match P.underlying t with
 | some (.struct fs) => !P.stoodInHeld t && !P.eqGuardType P.depth t && kF P fs.toList 0
 | _ => false
def EJ (P : Program) (t : TypeId) : At → At → Option Bool
 | .d (.int k a), .d (.int k' b) => if k = k' ∧ (Yx P t).isSome then some (a == b) else none
 | .d (.bool a), .d (.bool b) => if Tr P t then some (a == b) else none
 | .d (.str a), .d (.str b) => if Q0 P t then some (decide (a = b)) else none
 | _, _ => none
def zP (P : Program) : List Field → List At → List At → Option Bool
 | [], _, _ => some true
 | f :: fs, x :: xs, y :: ys => (match EJ P f.type x y, zP P fs xs ys with | some p, some q => some (p && q) | _, _ => none)
 | _, _, _ => none
def Ij (P : Program) (op : BinOp) (T : TypeId) (x y v : V) : Prop :=
 match x, y with
 | .one (.d (.int k m)), .one (.d (.int k' n)) => ((op = .shl ∨ op = .shr) ∨ k' = k) ∧ Ry op k m n v
 | .one (.d (.str m)), .one (.d (.str n)) => Rf op m n v
 | .one (.d (.bool m)), .one (.d (.bool n)) => Tr P T = true ∧ Ud op m n v
 | .agg xs, .agg ys => jf P T = true ∧ ∃ q, zP P (P.fieldsOf T).toList xs ys = some q ∧ ((op = .eql ∧ v = .one (.d (.bool q))) ∨ (op = .neq ∧ v = .one (.d (.bool (!q)))))
 | _, _ => False
def xD (t j i : Nat) : Nat → List D → List At
 | _, [] => []
 | c, x :: xs => (match x with | .sl _ _ => .tref t j i c none | x => .d x) :: xD t j i (c + 1) xs
def kA (q : Bool) (t j i c : Nat) (xs : List D) : List At := match q with | true => xD t j i c xs | false => xs.map .d
def YK (P : Program) (σ : St) (op : Op) (ty : TypeId) (v : V) : Prop :=
 match op with
 | .move x => v = look P σ ty x
 | .assign x => v = look P σ ty x
 | .pick c a b => ∃ bc p q, gOf (look P σ ty c) = true ∧ unc (look P σ ty c) = .one (.d (.bool bc)) ∧ (bc = true → unc (look P σ ty a) = .one (.d (.bool p))) ∧ (bc = false → unc (look P σ ty b) = .one (.d (.bool q))) ∧
   (bc = true → gOf (look P σ ty a) = true) ∧ (bc = false → gOf (look P σ ty b) = true) ∧ v = .one (.d (.bool (cond bc p q)))
 | .load T x => gOf (look P σ 0 x) = true ∧ YU P T = true ∧
   (match unc (look P σ 0 x) with
   | .one (.bptr t c) => ∃ cells, σ.ob t 0 = .box cells ∧ c + P.cellsOf T ≤ cells.length ∧ v = ldV P T (cut cells c (P.cellsOf T))
   | .one (.ptr t j i c) => ∃ q size rows, σ.ob t j = .arr q size rows ∧ i < rows.length ∧ c + P.cellsOf T ≤ size ∧ v = ldV P T (kA q t j i c (cut (rows.getD i []) c (P.cellsOf T)))
   | .one (.rptr r c) => c + P.cellsOf T ≤ r.length ∧ v = ldV P T ((cut r c (P.cellsOf T)).map .d)
   | _ => False)
 | .fieldAddr T x f => gOf (look P σ 0 x) = true ∧ ZQ P T f = true ∧
   (match unc (look P σ 0 x) with
   | .one (.bptr t c) => (∃ cells, σ.ob t 0 = .box cells) ∧ v = .one (.bptr t (c + ZJ P T f))
   | .one (.ptr t j i c) => (∃ q size rows, σ.ob t j = .arr q size rows) ∧ v = .one (.ptr t j i (c + ZJ P T f))
   | .one (.rptr r c) => v = .one (.rptr r (c + ZJ P T f))
   | .one (.tref t j i c (some k)) => (∃ size rows, σ.ob t j = .arr true size rows) ∧ v = .one (.tref t j i c (some (k + ZJ P T f)))
   | _ => False)
 | .nilCheck x => gOf (look P σ 0 x) = true ∧
   (match unc (look P σ 0 x) with
   | .one (.bptr t c) => (∃ cells, σ.ob t 0 = .box cells) ∧ v = .one (.bptr t c)
   | _ => False)
 | .indexAddr T x ix => ∃ k i, xm P σ ix k i ∧ 0 ≤ i ∧ gOf (look P σ 0 x) = true ∧
   (match unc (look P σ 0 x) with
   | .one (.d (.sl size rows)) => YJ P T = true ∧ size = P.cellsOf (ZM P T) ∧ 0 < size ∧ i < (rows.length : Int) ∧ v = .one (.rptr (rows.getD i.toNat []) 0)
   | .one (.sref t j lo len) => YJ P T = true ∧ 0 < P.cellsOf (ZM P T) ∧ (∃ q rows, σ.ob t j = .arr q (P.cellsOf (ZM P T)) rows) ∧ i < (len : Int) ∧ v = .one (.ptr t j (lo + i.toNat) 0)
   | .one (.bptr t c) => (∃ cells, σ.ob t 0 = .box cells) ∧ (∃ n, Hn P T = some n ∧ 1 < n ∧ i < (n : Int)) ∧ v = .one (.bptr t (c + i.toNat * P.cellsOf (ZM P T)))
   | .one (.tref t j m c none) => YJ P T = true ∧ 0 < P.cellsOf (ZM P T) ∧ (∃ size rows s, σ.ob t j = .arr true size rows ∧ m < rows.length ∧ (rows.getD m [])[c]? = some (.sl (P.cellsOf (ZM P T)) s) ∧ i < (s.length : Int)) ∧ v = .one (.tref t j m c (some (i.toNat * P.cellsOf (ZM P T))))
   | _ => False)
 | .index T x ix => ∃ k i, xm P σ ix k i ∧ 0 ≤ i ∧ gOf (look P σ 0 x) = true ∧
   (match unc (look P σ 0 x) with
   | .one (.d (.str s)) => Q0 P T = true ∧ i < (s.size : Int) ∧ v = .one (.d (.int .u8 (s.data.toList.getD i.toNat 0).toNat))
   | .agg xs => (∃ n, Hn P T = some n ∧ i < (n : Int)) ∧ YU P (ZM P T) = true ∧ i.toNat * P.cellsOf (ZM P T) + P.cellsOf (ZM P T) ≤ xs.length ∧ v = ldV P (ZM P T) (cut xs (i.toNat * P.cellsOf (ZM P T)) (P.cellsOf (ZM P T)))
   | _ => False)
 | .slice T x lo hi none => gOf (look P σ 0 x) = true ∧
   (match unc (look P σ 0 x) with
   | .one (.d (.str s)) => Q0 P T = true ∧ ∃ l h, bnd P σ 0 lo l ∧ bnd P σ s.size hi h ∧ l ≤ h ∧ h ≤ s.size ∧ v = .one (.d (.str (s.extract l h)))
   | .one (.d (.sl size rows)) => YJ P T = true ∧ size = P.cellsOf (ZM P T) ∧ ∃ l h, bnd P σ 0 lo l ∧ bnd P σ rows.length hi h ∧ l ≤ h ∧ h ≤ rows.length ∧ v = .one (.d (.sl size (cut rows l (h - l))))
   | .one (.sref t j o len) => YJ P T = true ∧ (∃ q rows, σ.ob t j = .arr q (P.cellsOf (ZM P T)) rows) ∧ ∃ l h, bnd P σ 0 lo l ∧ bnd P σ len hi h ∧ l ≤ h ∧ h ≤ len ∧ v = .one (.sref t j (o + l) (h - l))
   | _ => False)
 | .binOp op T x y _ => gOf (look P σ T x) = true ∧ gOf (look P σ T y) = true ∧
   Ij P op T (unc (look P σ T x)) (unc (look P σ T y)) v
 | .unOp op _ x => gOf (look P σ 0 x) = true ∧
   (match op, unc (look P σ 0 x) with
   | .not, .one (.d (.bool b)) => v = .one (.d (.bool (!b)))
   | .neg, .one (.d (.int k n)) => v = .one (.d (.int k (k.wrap (-n))))
   | _, _ => False)
 | .convert S T x => gOf (look P σ 0 x) = true ∧ (P.underlying S).isSome = true ∧
   (match unc (look P σ 0 x) with
   | .one (.d (.int _ n)) => ∃ k, Yx P T = some k ∧ v = .one (.d (.int k (k.wrap n)))
   | _ => False)
 | .extract x i => gOf (look P σ 0 x) = true ∧
   (match unc (look P σ 0 x) with
   | .tup xs => xs[i]? = some v ∧ v.flat = true
   | _ => False)
 | .field T x f => gOf (look P σ 0 x) = true ∧ ZQ P T f = true ∧ YU P (ZP P T f) = true ∧
   (match unc (look P σ 0 x) with
   | .agg xs => ZJ P T f + P.cellsOf (ZP P T f) ≤ xs.length ∧ v = ldV P (ZP P T f) (cut xs (ZJ P T f) (P.cellsOf (ZP P T f)))
   | _ => False)
 | .build T parts => Zp P T = true ∧ Yg P T = true ∧ ∃ z out, YW P 12 T = some z ∧ jB P σ T parts.toList z out ∧ v = .agg out
 | .call c =>
   (match c.callee, c.args.toList, c.argTypes.toList with
   | .builtin .len, [x], [t] => gOf (look P σ t x) = true ∧
     (match unc (look P σ t x) with
     | .one (.d (.str s)) => Q0 P t = true ∧ v = .one (.d (.int .i64 s.size))
     | .one (.d (.sl _ rows)) => YJ P t = true ∧ v = .one (.d (.int .i64 rows.length))
     | .one (.nil _) => YJ P t = true ∧ v = .one (.d (.int .i64 0))
     | .one (.sref u j _ len) => YJ P t = true ∧ ((∃ q size rows, σ.ob u j = .arr q size rows) ∨ ∃ size rows, σ.ob u j = .lit size rows) ∧ v = .one (.d (.int .i64 len))
     | _ => False)
   | .builtin .max, [x, y], _ => ∃ k m n, xm P σ x k m ∧ xm P σ y k n ∧ v = .one (.d (.int k (if n > m then n else m)))
   | .builtin .min, [x, y], _ => ∃ k m n, xm P σ x k m ∧ xm P σ y k n ∧ v = .one (.d (.int k (if n < m then n else m)))
   | _, _, _ => False)
 | _ => False
end Go.Vm
namespace Go.Vm
section
variable {P : Program} {T0 : CS} {B : Nat → Prop} {σ : St} {a : Act} {w : World} {X : Nat → Prop} {h : Nat → Nat → Hd}
theorem zo (b off n : Nat) : (⟨b, off, none⟩ : Addr).add n = ⟨b, off + n, none⟩ := by
 unfold Addr.add; split <;> simp_all
theorem yA {T : TypeId} (ht : YU P T = true) : ∃ d i, P.underlying T = some d ∧ P.info? T = some i ∧ i.size = P.cellsOf T ∧ (Yg P T = true ∨ P.cellsOf T = 1) := by
 simp only [YU, Bool.and_eq_true, Bool.or_eq_true, beq_iff_eq] at ht
 obtain ⟨⟨h1, h2⟩, h3⟩ := ht
 obtain ⟨d, hd⟩ := Option.isSome_iff_exists.1 h1
 obtain ⟨i, hi⟩ := Option.isSome_iff_exists.1 h2
 exact ⟨d, i, hd, hi, by simp [Program.cellsOf, hi], h3⟩
theorem Wg {T : TypeId} {d : TypeDesc} (hd : P.underlying T = some d) (w : World) : (isAgg T).run P w = .ok (Yg P T) w := by
 unfold isAgg Yg
 rw [hd]
 simp only [Sem.run_bind, run_underlying hd, Result.andThen_ok]
 cases d <;> simp
theorem QM {T : TypeId} {i : TypeInfo} (hi : P.info? T = some i) (w : World) : (sizeOf T).run P w = .ok (P.cellsOf T) w := by
 simp [sizeOf, typeInfo, hi, Program.cellsOf]
theorem EA {T : TypeId} (ht : YU P T = true) {b off : Nat} {cs : List Value} (hl : cs.length = P.cellsOf T) (hc : ∀ j v, cs[j]? = some v → w.cell? ⟨b, off + j, none⟩ = some v) :
  ∃ val, (Instr.loadAt T (.pointer (some ⟨b, off, none⟩))).run P w = .ok val w ∧ (Yg P T = true → val = .agg cs.toArray) ∧ (Yg P T = false → cs = [val]) := by
 obtain ⟨d, i, hd, hi, hsz, hor⟩ := yA ht
 cases hag : Yg P T with
 | true =>
  refine ⟨.agg cs.toArray, ?_, fun _ => rfl, (fun hh => by cases hh)⟩
  have := run_loadCells_list (P := P) w ⟨b, off, none⟩ cs (fun j v hv => by rw [zo]; exact hc j v hv)
  simp only [Instr.loadAt, Instr.sureAddr, loadVar, Sem.run_bind, Sem.run_pure, Result.andThen_ok, Wg hd, hag, if_true, QM hi, ← hl, this]
 | false =>
  rcases hor with hor | hor
  ·rw [hag] at hor; cases hor
  ·rw [hor] at hl
   obtain ⟨val, rfl⟩ := List.length_eq_one_iff.1 hl
   refine ⟨val, ?_, (fun hh => by cases hh), fun _ => rfl⟩
   have hc0 := hc 0 val (by simp)
   simp only [Nat.add_zero] at hc0
   simp [Instr.loadAt, Instr.sureAddr, loadVar, Wg hd, hag, load, Sem.run, hc0]
theorem GD {T : TypeId} (_ht : YU P T = true) {T' : CS} {ob : Nat → Nat → Ob} {xs : List At} {cs : List Value} {val : Value} (hx : Zs (Z3 T' h ob w) xs cs)
  (h1 : Yg P T = true → val = .agg cs.toArray) (h2 : Yg P T = false → cs = [val]) : XO T' h ob w (ldV P T xs) val := by
 unfold ldV
 cases hag : Yg P T with
 | true => simp only [if_true]; exact ⟨_, h1 hag, by simpa using hx⟩
 | false =>
  simp only [Bool.false_eq_true, if_false]
  rw [h2 hag] at hx
  cases hx with
  | cons r hx => cases hx; exact r
theorem Zs.cut {α β : Type} {R : α → β → Prop} {l : List α} {m : List β} (x : Zs R l m) (o n : Nat) : Zs R (Vm.cut l o n) (Vm.cut m o n) := (x.drop o).take n
theorem X3 {α : Type} (l : List α) (o n : Nat) (hl : o + n ≤ l.length) : (cut l o n).length = n := by simp [cut]; omega
theorem qJ {α : Type} (l : List α) (o n j : Nat) (v : α) (hv : (cut l o n)[j]? = some v) : l[o + j]? = some v := by
 simp only [cut, List.getElem?_take, List.getElem?_drop] at hv
 split at hv
 ·exact hv
 ·cases hv
theorem K6 {α : Type} : ∀ (rows : List (List α)) (size : Nat), (∀ r ∈ rows, r.length = size) → ∀ (i : Nat) (r : List α), rows[i]? = some r → ∀ (j : Nat) (d : α), r[j]? = some d → rows.flatten[i * size + j]? = some d
 | [], _, _, i, r, hr, _, _, _ => by simp at hr
 | r0 :: rows, size, hz, 0, r, hr, j, d, hd => by
  simp at hr; subst hr
  have hj : j < r0.length := (List.getElem?_eq_some_iff.1 hd).1
  simp [List.getElem?_append_left hj, hd]
 | r0 :: rows, size, hz, i + 1, r, hr, j, d, hd => by
  have ih := K6 rows size (fun r hr => hz r (by simp [hr])) i r (by simpa using hr) j d hd
  have h0 : r0.length = size := hz r0 (by simp)
  rw [List.flatten_cons, List.getElem?_append_right (by rw [h0, Nat.add_mul]; omega), h0]
  have : (i + 1) * size + j - size = i * size + j := by rw [Nat.add_mul]; omega
  rw [this]; exact ih
theorem YH {α : Type} (rows : List (List α)) (size : Nat) (hz : ∀ r ∈ rows, r.length = size) : rows.flatten.length = rows.length * size := by
 induction rows with
 | nil => simp
 | cons r rows ih => rw [List.flatten_cons, List.length_append, ih (fun r hr => hz r (by simp [hr])), hz r (by simp), List.length_cons, Nat.add_mul]; omega
theorem Rd.row {T : CS} {v : Value} {size : Nat} {rows : List (List D)} (r : Rd T w v (.sl size rows)) (i : Nat) (hi : i < rows.length) (hsz : 0 < size) :
  ∃ a len cap, v = .slice (some a) len cap ∧ len = rows.length ∧ a.spot = none ∧
   ∃ g : Nat → Value, ∀ k d, (rows.getD i [])[k]? = some d → w.cell? ⟨a.block, a.off + i * size + k, none⟩ = some (g k) ∧ T a.block (a.off + i * size + k) ∧ Rd T w (g k) d := by
 cases r with
 | nil => simp at hi
 | sl a len cap size rows g hl hc hm hz hs hg hr =>
  have hrow : rows[i]? = some (rows.getD i []) := by simp [List.getD_eq_getElem?_getD, List.getElem?_eq_getElem hi]
  have hne : rows.flatten ≠ [] := by
   have hlen := YH rows size hz
   have hp : 0 < rows.length * size := Nat.mul_pos (by omega) hsz
   intro he
   have h0 : rows.flatten.length = 0 := by rw [he]; rfl
   omega
  refine ⟨a, len, cap, rfl, hl.symm, hs hne, fun k => g (i * size + k), fun k d hd => ?_⟩
  have hf := K6 rows size hz i _ hrow k d hd
  have h1 := hg _ _ hf
  rw [Nat.add_assoc]
  exact ⟨h1.1, h1.2, hr _ _ hf⟩
theorem Oc {T : CS} {v : Value} {size : Nat} {rows : List (List D)} (r : Rd T w v (.sl size rows)) : ∀ x ∈ rows, x.length = size := by
 cases r with
 | nil => intro x hx; cases hx
 | sl a len cap size rows g hl hc hm hz hs hg hr => exact hz
theorem HX {T : CS} {v : Value} {size : Nat} {rows : List (List D)} (r : Rd T w v (.sl size rows)) : ∃ base cap, v = .slice base rows.length cap ∧ rows.length ≤ cap ∧ cap ≤ maxLen := by
 cases r with
 | nil => exact ⟨none, 0, rfl, by simp, by simp [maxLen]⟩
 | sl a len cap size rows g hl hc hm hz hs hg hr => exact ⟨some a, cap, by rw [hl], by omega, hm⟩
theorem XD {t : TypeId} (ht : YJ P t = true) : ∃ i, P.underlying t = some (.slice (ZM P t)) ∧ P.info? (ZM P t) = some i ∧ i.size = P.cellsOf (ZM P t) := by
 unfold YJ at ht
 split at ht
 ·rename_i e he
  obtain ⟨i, hi⟩ := Option.isSome_iff_exists.1 ht
  have : ZM P t = e := by simp [ZM, he]
  rw [this]
  exact ⟨i, he, hi, by simp [Program.cellsOf, hi]⟩
 ·cases ht
theorem PU {t : TypeId} {n : Nat} (ht : Hn P t = some n) : ∃ i, P.underlying t = some (.array n (ZM P t)) ∧ P.info? (ZM P t) = some i ∧ i.size = P.cellsOf (ZM P t) := by
 unfold Hn at ht
 split at ht
 ·rename_i m e he
  split at ht
  ·rename_i hh
   cases ht
   obtain ⟨i, hi⟩ := Option.isSome_iff_exists.1 hh
   have : ZM P t = e := by simp [ZM, he]
   rw [this]
   exact ⟨i, he, hi, by simp [Program.cellsOf, hi]⟩
  ·cases ht
 ·cases ht
theorem W5 {t : TypeId} {f : Nat} (ht : ZQ P t f = true) : ∃ fs fd i, P.underlying t = some (.struct fs) ∧ fs[f]? = some fd ∧ fd.offset = ZJ P t f ∧ fd.type = ZP P t f ∧ P.info? fd.type = some i ∧ i.size ≠ 0 := by
 unfold ZQ at ht
 split at ht
 ·rename_i fs he
  split at ht
  ·rename_i fd hf
   simp at ht
   obtain ⟨i, hi⟩ := Option.isSome_iff_exists.1 ht.1
   exact ⟨fs, fd, i, he, hf, by simp [ZJ, he, hf], by simp [ZP, he, hf], hi, by simpa [Program.cellsOf, hi] using ht.2⟩
  ·cases ht
 ·cases ht
theorem Kz {t : TypeId} (ht : Q0 P t = true) : P.underlying t = some .string := by
 unfold Q0 at ht; split at ht <;> first | assumption | cases ht
theorem P0 {t : TypeId} {k : IntKind} (ht : Yx P t = some k) : P.underlying t = some (.int k) := by
 unfold Yx at ht
 split at ht
 ·cases ht; assumption
 ·cases ht
theorem jk {T : CS} {v : Value} {k : IntKind} {n : Int} (r : Rd T w v (.int k n)) : v = .int k n := by cases r; rfl
theorem za {T : CS} {v : Value} {b : Bool} (r : Rd T w v (.bool b)) : v = .bool b := by cases r; rfl
theorem kv {T : CS} {v : Value} {s : ByteArray} (r : Rd T w v (.str s)) : v = .string s := by cases r; rfl
theorem KI (r : Rel T0 B σ a w X h) {x : Operand} {k : IntKind} {n : Int} (hx : xm P σ x k n) : a.eval x = .int k n :=
 jk (r.arg 0 x hx.2 hx.1)
end
end Go.Vm
namespace Go.Vm
section
variable {P : Program} {T0 : CS} {B : Nat → Prop} {σ : St} {a : Act} {w : World} {X : Nat → Prop} {h : Nat → Nat → Hd}
theorem Own.XP {v : Value} {d : D} {S : Nat → Prop} (h : Own w v d S) : v.oneCell' = true := by
 cases h with
 | int => rfl
 | bool => rfl
 | str => rfl
 | sl v size rows S e xs Sk ho hz hb hl hk hs hd => rcases ho.2 with ⟨rfl, _⟩ | ⟨g, cap, cur, rfl, _⟩ <;> rfl
theorem Po {t j i : Nat} : ∀ {xs : List D} {c k : Nat} {x : At}, (xD t j i c xs)[k]? = some x → ∃ d, xs[k]? = some d ∧ x = (match d with | .sl _ _ => .tref t j i (c + k) none | d => .d d)
 | [], c, k, x, hx => by simp [xD] at hx
 | d :: xs, c, 0, x, hx => by
  simp only [xD, List.getElem?_cons_zero] at hx
  cases hx
  exact ⟨d, by simp, by cases d <;> simp⟩
 | d :: xs, c, k + 1, x, hx => by
  simp only [xD, List.getElem?_cons_succ] at hx
  obtain ⟨d', hd', rfl⟩ := Po hx
  exact ⟨d', by simpa using hd', by cases d' <;> simp; omega⟩
theorem VA {t j i : Nat} : ∀ (c : Nat) (xs : List D), (xD t j i c xs).length = xs.length
 | _, [] => rfl
 | c, d :: xs => by simp [xD, VA (c + 1) xs]
theorem Om (q : Bool) (t j i c : Nat) (xs : List D) : (kA q t j i c xs).length = xs.length := by
 cases q <;> simp [kA, VA]
theorem Rel.box (r : Rel T0 B σ a w X h) {t : Nat} {cells : List At} (ho : σ.ob t 0 = .box cells) {c : Nat} {v : Value} (hv : Z3 (Tof T0 X) h σ.ob w (.bptr t c) v) :
  ∃ b cs e, (h t 0).v = .pointer (some ⟨b, 0, none⟩) ∧ v = .pointer (some ⟨b, c, none⟩) ∧ w.heap[b]? = some (.cells cs e (0, 0)) ∧ Zs (Z3 (Tof T0 X) h σ.ob w) cells cs.toList := by
 obtain ⟨b, hb, rfl⟩ := hv.2 cells ho
 have hob := r.obj t 0
 rw [ho] at hob
 obtain ⟨b', cs, e, hb', hh, hal⟩ := hob
 rw [hb] at hb'
 cases hb'
 exact ⟨b, cs, e, hb, rfl, hh, hal⟩
theorem KS {b : Nat} {cs : Array Value} {e : TypeId} {f : Nat × Nat} (hh : w.heap[b]? = some (.cells cs e f)) (k : Nat) (v : Value) (hv : cs.toList[k]? = some v) : w.cell? ⟨b, k, none⟩ = some v := by
 simp only [World.cell?, hh]
 simpa using hv
theorem Rel.arr (r : Rel T0 B σ a w X h) {t j : Nat} {q : Bool} {size : Nat} {rows : List (List D)} (ho : σ.ob t j = .arr q size rows) {i c : Nat} {v : Value} (hv : Z3 (Tof T0 X) h σ.ob w (.ptr t j i c) v) :
  ∃ b cap cur e xs, (h t j).v = .slice (some ⟨b, 0, none⟩) rows.length cap ∧ v = .pointer (some ⟨b, i * size + c, none⟩) ∧ w.heap[b]? = some (.cells cur e (0, 0)) ∧ rows.length ≤ cap ∧ cap ≤ maxLen ∧ cur.size = cap * size ∧
   cur.toList.take (rows.length * size) = xs ∧ (∀ r ∈ rows, r.length = size) ∧ xs.length = rows.flatten.length ∧ (q = false → Zs (Rd (Tof T0 X) w) xs rows.flatten) ∧
   (q = true → Qw w xs rows.flatten (fun b => (h t j).u b ∧ blk (h t j).v ≠ some b) ∧ ∀ k x d, xs[k]? = some x → rows.flatten[k]? = some d → d.scalar = false → (h t j).n k = x) := by
 obtain ⟨b, n, cap, hb, rfl⟩ := hv.2 q size rows ho
 have hob := r.obj t j
 rw [ho] at hob
 cases q with
 | false =>
  obtain ⟨e, xs, hown, hz, hal⟩ := hob
  rcases hown.2 with ⟨h0, _⟩ | ⟨g, cap', cur, hg, _, hh, hle, hmx, hcs, htk⟩
  ·rw [hb] at h0; cases h0
  ·rw [hb] at hg
   cases hg
   exact ⟨b, cap, cur, e, xs, hb, rfl, hh, hle, hmx, hcs, htk, hz, hal.length, fun _ => hal, fun hh => by cases hh⟩
 | true =>
  obtain ⟨e, xs, hown, hz, hal, hn⟩ := hob
  rcases hown.2 with ⟨h0, _⟩ | ⟨g, cap', cur, hg, _, hh, hle, hmx, hcs, htk⟩
  ·rw [hb] at h0; cases h0
  ·rw [hb] at hg
   cases hg
   exact ⟨b, cap, cur, e, xs, hb, rfl, hh, hle, hmx, hcs, htk, hz, hal.1, (fun hh => by cases hh), fun _ => ⟨hal, hn⟩⟩
theorem Hc (r : Rel T0 B σ a w X h) {o : Oper} {T : TypeId} {x : Operand} {v : V} (hop : o.op = .load T x) (hs : YK P σ o.op o.type v) :
  ∃ val, (execOp a.eval o).run P w = .ok (.value val) w ∧ XO (Tof T0 X) h σ.ob w v val := by
 simp only [hop, YK] at hs
 obtain ⟨hg, hty, hs⟩ := hs
 have hx := r.arg (P := P) 0 x rfl hg
 have key : ∀ (b off : Nat) (xs : List At) (cs : List Value), a.eval x = .pointer (some ⟨b, off, none⟩) → v = ldV P T xs → cs.length = P.cellsOf T →
   (∀ j u, cs[j]? = some u → w.cell? ⟨b, off + j, none⟩ = some u) → Zs (Z3 (Tof T0 X) h σ.ob w) xs cs → ∃ val, (execOp a.eval o).run P w = .ok (.value val) w ∧ XO (Tof T0 X) h σ.ob w v val := by
  intro b off xs cs he hv hl hc hal
  obtain ⟨val, hr, h1, h2⟩ := EA (P := P) hty hl hc
  refine ⟨val, ?_, ?_⟩
  ·simp only [execOp, hop, he, Sem.run_bind, hr, Result.andThen_ok, Sem.run_pure]
  ·rw [hv]; exact GD hty hal h1 h2
 split at hs
 ·rename_i t c heq
  rw [heq] at hx
  obtain ⟨cells, ho, hle, hv⟩ := hs
  obtain ⟨b, cs, e, hb, he, hh, hal⟩ := r.box ho hx
  have hlen := hal.length
  refine key b c _ (cut cs.toList c (P.cellsOf T)) he hv (X3 _ _ _ (by omega)) (fun j u hu => KS hh _ _ (qJ _ _ _ _ _ hu)) (hal.cut _ _)
 ·rename_i t j i c heq
  rw [heq] at hx
  obtain ⟨q, size, rows, ho, hi, hle, hv⟩ := hs
  obtain ⟨b, cap, cur, e, xs, hb, he, hh, hcap, hmx, hcs, htk, hz, hxl, hal, hown⟩ := r.arr ho hx
  have hrow : rows[i]? = some (rows.getD i []) := by simp [List.getD_eq_getElem?_getD, List.getElem?_eq_getElem hi]
  have hrl : (rows.getD i []).length = size := hz _ (List.mem_of_getElem? hrow)
  have hfl := YH rows size hz
  have hmul : i * size + size ≤ rows.length * size := by rw [← Nat.succ_mul]; exact Nat.mul_le_mul_right _ hi
  have hdat : ∀ k d', (cut (rows.getD i []) c (P.cellsOf T))[k]? = some d' → rows.flatten[i * size + c + k]? = some d' := by
   intro k d' hd'
   have h2 := K6 rows size hz i _ hrow (c + k) d' (qJ _ _ _ _ _ hd')
   rw [show i * size + c + k = i * size + (c + k) by omega]; exact h2
  refine key b (i * size + c) _ (cut xs (i * size + c) (P.cellsOf T)) he hv (X3 _ _ _ (by omega)) (fun j u hu => ?_) ?_
  ·have h1 := qJ _ _ _ _ _ hu
   refine KS hh _ _ ?_
   rw [← htk, List.getElem?_take] at h1
   split at h1
   ·exact h1
   ·cases h1
  ·refine Zs.zk (by rw [X3 _ _ _ (by omega), Om, X3 _ _ _ (by omega)]) (fun k x u hx hu => ?_)
   have h1 := qJ _ _ _ _ _ hu
   cases q with
   | false =>
    obtain ⟨d, hd, hr⟩ := (hal rfl).get _ _ h1
    simp only [kA] at hx
    rw [List.getElem?_map] at hx
    cases hd' : (cut (rows.getD i []) c (P.cellsOf T))[k]? with
    | none => rw [hd'] at hx; cases hx
    | some d' =>
     rw [hd'] at hx
     cases hx
     rw [hdat k d' hd'] at hd
     cases hd
     exact hr
   | true =>
    obtain ⟨⟨_, Sk, hown, _, _⟩, hn⟩ := hown rfl
    simp only [kA] at hx
    obtain ⟨d', hd', rfl⟩ := Po hx
    have ho' := hown _ _ _ h1 (hdat k d' hd')
    cases d' with
    | sl s rs =>
     refine ⟨ho'.XP, fun size' rows' ho2 => ?_⟩
     rw [ho] at ho2; cases ho2
     show _ = _
     rw [← hn _ _ _ h1 (hdat k _ hd') rfl, Nat.add_assoc]
    | int k n => cases ho'; exact .int _ _
    | bool b => cases ho'; exact .bool _
    | str s => cases ho'; exact .str _
 ·rename_i rr c heq
  rw [heq] at hx
  obtain ⟨hle, hv⟩ := hs
  obtain ⟨b, off, g, he, hk⟩ := hx
  refine key b (off + c) _ ((List.range (P.cellsOf T)).map fun j => g (c + j)) he hv (by simp) (fun j u hu => ?_) ?_
  ·rw [List.getElem?_map] at hu
   rcases Nat.lt_or_ge j (P.cellsOf T) with hj | hj
   ·rw [List.getElem?_range hj] at hu
    cases hu
    have hd := hk (c + j) (rr[c + j]'(by omega)) (List.getElem?_eq_getElem _)
    rw [Nat.add_assoc]; exact hd.1
   ·rw [List.getElem?_eq_none (by simpa using hj)] at hu; cases hu
  ·refine Zs.zk (by rw [List.length_map, X3 _ _ _ (by omega)]; simp) (fun k x u hx hu => ?_)
   rw [List.getElem?_map] at hx hu
   cases hd' : (cut rr c (P.cellsOf T))[k]? with
   | none => rw [hd'] at hx; cases hx
   | some d' =>
    rw [hd'] at hx
    cases hx
    have hkl : k < P.cellsOf T := by have := (List.getElem?_eq_some_iff.1 hd').1; rw [X3 _ _ _ (by omega)] at this; exact this
    rw [List.getElem?_range hkl] at hu
    cases hu
    exact (hk (c + k) d' (qJ _ _ _ _ _ hd')).2.2
 ·exact hs.elim
theorem qb {T : TypeId} {f : Nat} (hf : ZQ P T f = true) (b off : Nat) : (Instr.fieldAt T (.pointer (some ⟨b, off, none⟩)) f).run P w = .ok (.pointer (some ⟨b, off + ZJ P T f, none⟩)) w := by
 obtain ⟨fs, fd, i, hu, hfd, hoff, hty, hi, hne⟩ := W5 hf
 have hne' : P.cellsOf fd.type ≠ 0 := by simpa [Program.cellsOf, hi] using hne
 simp [Instr.fieldAt, run_underlying hu, hfd, Instr.sureAddr, fieldPlace, QM hi, hne', zo, hoff]
theorem SB (r : Rel T0 B σ a w X h) {o : Oper} {T : TypeId} {x : Operand} {f : Nat} {v : V} (hop : o.op = .fieldAddr T x f) (hs : YK P σ o.op o.type v) :
  ∃ val, (execOp a.eval o).run P w = .ok (.value val) w ∧ XO (Tof T0 X) h σ.ob w v val := by
 simp only [hop, YK] at hs
 obtain ⟨hg, hf, hs⟩ := hs
 have hx := r.arg (P := P) 0 x rfl hg
 split at hs
 ·rename_i t c heq
  rw [heq] at hx
  obtain ⟨⟨cells, ho⟩, rfl⟩ := hs
  obtain ⟨b, hb, he⟩ := hx.2 cells ho
  refine ⟨.pointer (some ⟨b, c + ZJ P T f, none⟩), by simp only [execOp, hop, he, Sem.run_bind, qb hf, Result.andThen_ok, Sem.run_pure], rfl, fun cells' _ => ⟨b, hb, rfl⟩⟩
 ·rename_i t j i c heq
  rw [heq] at hx
  obtain ⟨⟨q, size, rows, ho⟩, rfl⟩ := hs
  obtain ⟨b, n, cap, hb, he⟩ := hx.2 q size rows ho
  refine ⟨.pointer (some ⟨b, i * size + c + ZJ P T f, none⟩), by simp only [execOp, hop, he, Sem.run_bind, qb hf, Result.andThen_ok, Sem.run_pure], rfl, fun q' size' rows' ho' => ?_⟩
  rw [ho] at ho'
  cases ho'
  exact ⟨b, n, cap, hb, by rw [Nat.add_assoc]⟩
 ·rename_i rr c heq
  rw [heq] at hx
  subst hs
  obtain ⟨b, off, g, he, hk⟩ := hx
  exact ⟨.pointer (some ⟨b, off + c + ZJ P T f, none⟩), by simp only [execOp, hop, he, Sem.run_bind, qb hf, Result.andThen_ok, Sem.run_pure], b, off, g, by rw [Nat.add_assoc], hk⟩
 ·rename_i t j i c k heq
  rw [heq] at hx
  obtain ⟨⟨size, rows, ho⟩, rfl⟩ := hs
  obtain ⟨b, n, cap, hb, he⟩ := hx.2 size rows ho
  refine ⟨.pointer (some ⟨b, k + ZJ P T f, none⟩), by simp only [execOp, hop, he, Sem.run_bind, qb hf, Result.andThen_ok, Sem.run_pure], rfl, fun size' rows' ho' => ?_⟩
  rw [ho] at ho'
  cases ho'
  exact ⟨b, n, cap, hb, rfl⟩
 ·exact hs.elim
theorem Rk (r : Rel T0 B σ a w X h) {o : Oper} {x : Operand} {v : V} (hop : o.op = .nilCheck x) (hs : YK P σ o.op o.type v) :
  ∃ val, (execOp a.eval o).run P w = .ok (.value val) w ∧ XO (Tof T0 X) h σ.ob w v val := by
 simp only [hop, YK] at hs
 obtain ⟨hg, hs⟩ := hs
 have hx := r.arg (P := P) 0 x rfl hg
 split at hs
 ·rename_i t c heq
  rw [heq] at hx
  obtain ⟨⟨cells, ho⟩, rfl⟩ := hs
  obtain ⟨b, hb, he⟩ := hx.2 cells ho
  exact ⟨.pointer (some ⟨b, c, none⟩), by simp only [execOp, hop, he, Sem.run_pure], rfl, fun cells' _ => ⟨b, hb, rfl⟩⟩
 ·exact hs.elim
theorem kc {T : TypeId} (ht : YJ P T = true) (ad : Addr) (hsp : ad.spot = none) (len cap : Nat) (k : IntKind) (i : Int) (h0 : 0 ≤ i) (hl : i < (len : Int)) :
  (Instr.indexAt T (.slice (some ad) len cap) (.int k i)).run P w = .ok (.pointer (some ⟨ad.block, ad.off + i.toNat * P.cellsOf (ZM P T), none⟩)) w := by
 obtain ⟨ti, hu, hi, hsz⟩ := XD ht
 obtain ⟨b, off, sp⟩ := ad
 simp at hsp; subst hsp
 simp [Instr.indexAt, asIntOf, run_underlying hu, h0, hl, QM hi, zo]
theorem M1 {T : TypeId} {n : Nat} (ht : Hn P T = some n) (_h1 : 1 < n) (b off : Nat) (k : IntKind) (i : Int) (h0 : 0 ≤ i) (hl : i < (n : Int)) :
  (Instr.indexAt T (.pointer (some ⟨b, off, none⟩)) (.int k i)).run P w = .ok (.pointer (some ⟨b, off + i.toNat * P.cellsOf (ZM P T), none⟩)) w := by
 obtain ⟨ti, hu, hi, hsz⟩ := PU ht
 simp [Instr.indexAt, Instr.sureAddr, asIntOf, run_underlying hu, h0, hl, QM hi, zo]
theorem Own.hdr {v : Value} {n : Nat} {s : List (List D)} {S : Nat → Prop} (h : Own w v (.sl n s) S) (hp : 0 < s.length) : ∃ b cap, v = .slice (some ⟨b, 0, none⟩) s.length cap := by
 cases h with
 | sl v size rows S e xs Sk ho hz hb hl hk hs hd =>
  obtain ⟨_, ⟨_, h0⟩ | ⟨g, cap, cur, hv, _⟩⟩ := ho
  ·omega
  ·exact ⟨g, cap, hv⟩
theorem Rel.nest (r : Rel T0 B σ a w X h) {t j i c size n : Nat} {rows s : List (List D)} (ho : σ.ob t j = .arr true size rows) (hi : i < rows.length) (hcell : (rows.getD i [])[c]? = some (.sl n s)) : ∃ v0 S, (h t j).n (i * size + c) = v0 ∧ Own w v0 (.sl n s) S := by
 have h0 := r.obj t j
 rw [ho] at h0
 obtain ⟨e, vs, how, hz, ⟨hl, Sk, o1, o2, o3⟩, hn⟩ := h0
 have hrow : rows[i]? = some (rows.getD i []) := by simp [List.getD_eq_getElem?_getD, List.getElem?_eq_getElem hi]
 have hflat : rows.flatten[i * size + c]? = some (.sl n s) := K6 rows size hz i _ hrow c _ hcell
 have hlt : i * size + c < vs.length := by rw [hl]; exact (List.getElem?_eq_some_iff.1 hflat).1
 have hvs : vs[i * size + c]? = some vs[i * size + c] := List.getElem?_eq_getElem hlt
 exact ⟨_, _, hn _ _ _ hvs hflat rfl, o1 _ _ _ hvs hflat⟩
theorem SQ (r : Rel T0 B σ a w X h) {o : Oper} {T : TypeId} {x ix : Operand} {v : V} (hop : o.op = .indexAddr T x ix) (hs : YK P σ o.op o.type v) :
  ∃ val, (execOp a.eval o).run P w = .ok (.value val) w ∧ XO (Tof T0 X) h σ.ob w v val := by
 simp only [hop, YK] at hs
 obtain ⟨k, i, hix, h0, hg, hs⟩ := hs
 have hx := r.arg (P := P) 0 x rfl hg
 have hie := KI r hix
 split at hs
 ·rename_i size rows heq
  rw [heq] at hx
  obtain ⟨ht, rfl, hpos, hlt, rfl⟩ := hs
  have hil : i.toNat < rows.length := by omega
  obtain ⟨ad, len, cap, he, hlen, hsp, g, hk⟩ := Rd.row (show Rd _ _ _ _ from hx) i.toNat hil hpos
  refine ⟨.pointer (some ⟨ad.block, ad.off + i.toNat * P.cellsOf (ZM P T), none⟩), by simp only [execOp, hop, he, hie, Sem.run_bind, kc ht ad hsp len cap k i h0 (by omega), Result.andThen_ok, Sem.run_pure], ad.block, ad.off + i.toNat * P.cellsOf (ZM P T), g, by simp, hk⟩
 ·rename_i t j lo len heq
  rw [heq] at hx
  obtain ⟨ht, hpos, ⟨q, rows, ho⟩, hlt, rfl⟩ := hs
  obtain ⟨hle, _, _, base, cap, he, hcap, _, _, hb⟩ := hx.2.1 _ _ rows ho
  obtain ⟨b, cap0, hh, hbase⟩ := hb (by omega)
  rw [hbase] at he
  refine ⟨.pointer (some ⟨b, lo * P.cellsOf (ZM P T) + i.toNat * P.cellsOf (ZM P T), none⟩), by simp only [execOp, hop, he, hie, Sem.run_bind, kc ht ⟨b, lo * P.cellsOf (ZM P T), none⟩ rfl len cap k i h0 hlt, Result.andThen_ok, Sem.run_pure], rfl, fun q' size' rows' ho' => ?_⟩
  rw [ho] at ho'
  cases ho'
  exact ⟨b, rows.length, cap0, hh, by simp [Nat.add_mul]⟩
 ·rename_i t c heq
  rw [heq] at hx
  obtain ⟨⟨cells, ho⟩, ⟨n, hn, h1, hlt⟩, rfl⟩ := hs
  obtain ⟨b, hb, he⟩ := hx.2 cells ho
  exact ⟨.pointer (some ⟨b, c + i.toNat * P.cellsOf (ZM P T), none⟩), by simp only [execOp, hop, he, hie, Sem.run_bind, M1 hn h1 b c k i h0 hlt, Result.andThen_ok, Sem.run_pure], rfl, fun cells' _ => ⟨b, hb, rfl⟩⟩
 ·rename_i t j m c heq
  rw [heq] at hx
  obtain ⟨ht, hpos, ⟨size, rows, s, ho, hm, hcell, hlt⟩, rfl⟩ := hs
  obtain ⟨v0, S, hn, hown⟩ := r.nest ho hm hcell
  have he : a.eval x = v0 := by rw [← hn]; exact hx.2 size rows ho
  obtain ⟨b, cap, hv0⟩ := hown.hdr (by omega)
  rw [hv0] at he hn
  refine ⟨.pointer (some ⟨b, 0 + i.toNat * P.cellsOf (ZM P T), none⟩), by simp only [execOp, hop, he, hie, Sem.run_bind, kc ht ⟨b, 0, none⟩ rfl s.length cap k i h0 hlt, Result.andThen_ok, Sem.run_pure], rfl, fun size' rows' ho' => ?_⟩
  rw [ho] at ho'
  cases ho'
  exact ⟨b, s.length, cap, hn, by simp⟩
 ·exact hs.elim
end
end Go.Vm
namespace Go.Vm
section
variable {P : Program} {T0 : CS} {B : Nat → Prop} {σ : St} {a : Act} {w : World} {X : Nat → Prop} {h : Nat → Nat → Hd}
theorem FV {T : TypeId} (ht : YU P T = true) {cs : Array Value} {off : Nat} (hl : off + P.cellsOf T ≤ cs.size) :
  ∃ val, (part T cs off).run P w = .ok val w ∧ (Yg P T = true → val = .agg (cut cs.toList off (P.cellsOf T)).toArray) ∧ (Yg P T = false → cut cs.toList off (P.cellsOf T) = [val]) := by
 obtain ⟨d, i, hd, hi, hsz, hor⟩ := yA ht
 cases hag : Yg P T with
 | true =>
  refine ⟨.agg (cs.extract off (off + P.cellsOf T)), ?_, fun _ => ?_, (fun hh => by cases hh)⟩
  ·simp only [part, Sem.run_bind, Wg hd, hag, Result.andThen_ok, if_true, QM hi, Sem.run_pure]
  ·congr 1
   apply Array.toList_inj.1
   simp [cut, Array.toList_extract, List.extract_eq_take_drop]
 | false =>
  rcases hor with hor | hor
  ·rw [hag] at hor; cases hor
  ·rw [hor] at hl ⊢
   have hlt : off < cs.size := by omega
   refine ⟨cs[off], ?_, (fun hh => by cases hh), fun _ => ?_⟩
   ·simp [part, Wg hd, hag, Array.getElem?_eq_getElem hlt]
   ·have : cut cs.toList off 1 = [cs.toList[off]'(by simpa using hlt)] := by
     simp only [cut]
     rw [List.drop_eq_getElem_cons (by simpa using hlt)]
     simp
    rw [this]
    simp
theorem IF {T : TypeId} (ht : YU P T = true) {xs : List At} {x : Value} {off : Nat} (hx : XO (Tof T0 X) h σ.ob w (.agg xs) x) (hl : off + P.cellsOf T ≤ xs.length) :
  ∃ cs : Array Value, x = .agg cs ∧ ∃ val, (part T cs off).run P w = .ok val w ∧ XO (Tof T0 X) h σ.ob w (ldV P T (cut xs off (P.cellsOf T))) val := by
 obtain ⟨cs, rfl, hal⟩ := hx
 obtain ⟨val, hr, h1, h2⟩ := FV (P := P) (w := w) ht (cs := cs) (off := off) (by have := hal.length; simp at this; omega)
 exact ⟨cs, rfl, val, hr, GD ht (hal.cut _ _) h1 h2⟩
theorem Ih (r : Rel T0 B σ a w X h) {o : Oper} {T : TypeId} {x ix : Operand} {v : V} (hop : o.op = .index T x ix) (hs : YK P σ o.op o.type v) :
  ∃ val, (execOp a.eval o).run P w = .ok (.value val) w ∧ XO (Tof T0 X) h σ.ob w v val := by
 simp only [hop, YK] at hs
 obtain ⟨k, i, hix, h0, hg, hs⟩ := hs
 have hx := r.arg (P := P) 0 x rfl hg
 have hie := KI r hix
 split at hs
 ·rename_i s heq
  rw [heq] at hx
  obtain ⟨ht, hlt, rfl⟩ := hs
  have he := kv hx
  have hil : i.toNat < s.size := by omega
  refine ⟨.int .u8 (s.data.toList.getD i.toNat 0).toNat, ?_, .int _ _⟩
  have hget : s[i.toNat]? = some (s.data.toList.getD i.toNat 0) := by
   rw [List.getD_eq_getElem?_getD]
   have h1 : s.data.toList[i.toNat]? = some (s.data[i.toNat]'hil) := by
    rw [List.getElem?_eq_getElem (by simpa using hil)]; simp
   rw [h1, getElem?_pos s i.toNat hil]
   rfl
  simp [execOp, hop, he, hie, Instr.index, asIntOf, run_underlying (Kz ht), h0, hget]
 ·rename_i xs heq
  rw [heq] at hx
  obtain ⟨⟨n, hn, hlt⟩, ht, hl, rfl⟩ := hs
  obtain ⟨ti, hu, hi, hsz⟩ := PU hn
  obtain ⟨cs, he, val, hr, hv⟩ := IF ht hx hl
  refine ⟨val, ?_, hv⟩
  simp [execOp, hop, he, hie, Instr.index, asIntOf, run_underlying hu, h0, hlt, QM hi, hr]
 ·exact hs.elim
theorem IY (r : Rel T0 B σ a w X h) {o : Oper} {T : TypeId} {x : Operand} {f : Nat} {v : V} (hop : o.op = .field T x f) (hs : YK P σ o.op o.type v) :
  ∃ val, (execOp a.eval o).run P w = .ok (.value val) w ∧ XO (Tof T0 X) h σ.ob w v val := by
 simp only [hop, YK] at hs
 obtain ⟨hg, hf, ht, hs⟩ := hs
 have hx := r.arg (P := P) 0 x rfl hg
 split at hs
 ·rename_i xs heq
  rw [heq] at hx
  obtain ⟨hl, rfl⟩ := hs
  obtain ⟨fs, fd, i, hu, hfd, hoff, hty, hi, hne⟩ := W5 hf
  obtain ⟨cs, he, val, hr, hv⟩ := IF ht hx hl
  refine ⟨val, ?_, hv⟩
  rw [← hoff, ← hty] at hr
  simp [execOp, hop, he, Instr.field, run_underlying hu, hfd, asAgg, hr]
 ·exact hs.elim
theorem MN (r : Rel T0 B σ a w X h) {dflt n y : Nat} {x : Option Operand} {code : BoundsCode} (hb : bnd P σ dflt x n) (hy : n ≤ y) (hne : x ≠ none) :
  (Instr.sliceBound ((x.map a.eval).getD undef) y code).run P w = .ok n w := by
 cases x with
 | none => exact absurd rfl hne
 | some x =>
  obtain ⟨k, i, hg, hx, h0, rfl⟩ := hb
  have he := jk (r.arg (P := P) 0 x hx hg)
  have : i ≤ (y : Int) := by omega
  simp [he, Instr.sliceBound, asIntOf, h0, this]
theorem VZ (r : Rel T0 B σ a w X h) {sl : Bool} {len cap l hh : Nat} {lo hi : Option Operand} (hlo : bnd P σ 0 lo l) (hhi : bnd P σ len hi hh) (h1 : l ≤ hh) (h2 : hh ≤ cap) :
  (Instr.sliceBounds sl len cap (lo.map a.eval) (hi.map a.eval) none).run P w = .ok (l, hh, cap) w := by
 unfold Instr.sliceBounds
 cases hi with
 | none =>
  cases hhi
  cases lo with
  | none => cases hlo; simp
  | some x =>
   have := MN (w := w) r (code := .sliceB) hlo h1 (by simp)
   simp at this
   simp [this]
 | some y =>
  have hb := MN (w := w) r (code := if sl then .sliceAcap else .sliceAlen) hhi h2 (by simp)
  simp at hb
  cases lo with
  | none => cases hlo; simp [hb]
  | some x =>
   have := MN (w := w) r (code := .sliceB) hlo h1 (by simp)
   simp at this
   simp [this, hb]
theorem zL {α : Type} (rows : List (List α)) (size l n : Nat) (hz : ∀ r ∈ rows, r.length = size) (k : Nat) (d : α) (hd : (cut rows l n).flatten[k]? = some d) : rows.flatten[l * size + k]? = some d := by
 induction rows generalizing l with
 | nil => simp [cut] at hd
 | cons r rows ih =>
  have hr : r.length = size := hz r (by simp)
  cases l with
  | zero =>
   simp only [cut, List.drop_zero, Nat.zero_mul, Nat.zero_add] at hd ⊢
   have hsplit : (r :: rows).flatten = ((r :: rows).take n).flatten ++ ((r :: rows).drop n).flatten := by rw [← List.flatten_append, List.take_append_drop]
   rw [hsplit, List.getElem?_append_left (List.getElem?_eq_some_iff.1 hd).1]; exact hd
  | succ l =>
   have := ih l (fun r hr => hz r (by simp [hr])) (by simpa [cut] using hd)
   rw [List.flatten_cons, List.getElem?_append_right (by rw [hr, Nat.add_mul]; omega), hr]
   rw [show (l + 1) * size + k - size = l * size + k by rw [Nat.add_mul]; omega]; exact this
theorem Rd.cut {T : CS} {v : Value} {size : Nat} {rows : List (List D)} {base : Option Addr} {len cap : Nat} (hv : v = .slice base len cap) (r : Rd T w v (.sl size rows)) (l hh : Nat) (h1 : l ≤ hh) (h2 : hh ≤ rows.length) (_hsz : 0 < size ∨ True) :
  Rd T w (.slice (if cap = l then base else base.map (·.add (l * size))) (hh - l) (cap - l)) (.sl size (Vm.cut rows l (hh - l))) := by
 subst hv
 cases r with
 | nil =>
  simp at h2; subst h2
  have : l = 0 := by omega
  subst this
  simp [Vm.cut]; exact .nil _
 | sl a len cap size rows g hl hc hm hz hs hg hr =>
  have hlen : (Vm.cut rows l (hh - l)).length = hh - l := X3 _ _ _ (by omega)
  have hz' : ∀ r ∈ Vm.cut rows l (hh - l), r.length = size := fun r hr => hz r (List.mem_of_mem_drop (List.mem_of_mem_take hr))
  by_cases hcl : cap = l
  ·have h0 : hh - l = 0 := by omega
   have hnil : Vm.cut rows l (hh - l) = [] := List.eq_nil_of_length_eq_zero (by omega)
   rw [if_pos hcl, hnil, h0]
   exact .sl a 0 (cap - l) size [] g rfl (Nat.zero_le _) (by omega) (by intro r hr; cases hr) (by simp) (by simp) (by simp)
  ·rw [if_neg hcl]
   refine .sl (a.add (l * size)) (hh - l) (cap - l) size _ (fun k => g (l * size + k)) hlen (by omega) (by omega) hz' (fun hne => ?_) (fun k d hd => ?_) (fun k d hd => hr _ _ (zL rows size l _ hz k d hd))
   ·have : rows.flatten ≠ [] := by
     intro he
     apply hne
     cases hc' : (Vm.cut rows l (hh - l)).flatten with
     | nil => rfl
     | cons d ds =>
      have := zL rows size l (hh - l) hz 0 d (by rw [hc']; rfl)
      rw [he] at this; simp at this
    have hsp := hs this
    unfold Addr.add; split <;> simp [hsp]
   ·have hsp : a.spot = none := hs (by
     intro he
     have := zL rows size l (hh - l) hz k d hd
     rw [he] at this; simp at this)
    have := hg _ _ (zL rows size l (hh - l) hz k d hd)
    obtain ⟨b, off, sp⟩ := a
    simp at hsp; subst hsp
    rw [zo]
    simp only [Nat.add_assoc] at this ⊢
    exact this
theorem Lp (r : Rel T0 B σ a w X h) {o : Oper} {T : TypeId} {x : Operand} {lo hi : Option Operand} {v : V} (hop : o.op = .slice T x lo hi none) (hs : YK P σ o.op o.type v) :
  ∃ val, (execOp a.eval o).run P w = .ok (.value val) w ∧ XO (Tof T0 X) h σ.ob w v val := by
 simp only [hop, YK] at hs
 obtain ⟨hg, hs⟩ := hs
 have hx := r.arg (P := P) 0 x rfl hg
 split at hs
 ·rename_i s heq
  rw [heq] at hx
  obtain ⟨ht, l, hh, hlo, hhi, h1, h2, rfl⟩ := hs
  have he := kv hx
  have hb := VZ (w := w) r (sl := false) hlo hhi h1 h2
  refine ⟨.string (s.extract l hh), ?_, .str _⟩
  simp [execOp, hop, he, Instr.sliceAt, Instr.slice, run_underlying (Kz ht), hb]
 ·rename_i size rows heq
  rw [heq] at hx
  obtain ⟨ht, rfl, l, hh, hlo, hhi, h1, h2, rfl⟩ := hs
  obtain ⟨ti, hu, hi', hsz⟩ := XD ht
  obtain ⟨base, cap, he, hcap, hmx⟩ := HX (show Rd _ _ _ _ from hx)
  have hb := VZ (w := w) r (sl := true) (cap := cap) hlo hhi h1 (by omega)
  refine ⟨_, ?_, Rd.cut he hx l hh h1 h2 (.inr trivial)⟩
  simp [execOp, hop, he, Instr.sliceAt, Instr.slice, run_underlying hu, hb, QM hi']
 ·rename_i t j lo0 len heq
  rw [heq] at hx
  obtain ⟨ht, ⟨q, rows, ho⟩, l, hh, hlo, hhi, h1, h2, rfl⟩ := hs
  obtain ⟨ti, hu, hi', hsz⟩ := XD ht
  obtain ⟨hle, hfull, hpre, base, cap, he, hcap, hmx, hnn, hbs⟩ := hx.2.1 _ _ rows ho
  have hb := VZ (w := w) r (sl := true) (cap := cap) hlo hhi h1 (by omega)
  refine ⟨.slice (if cap = l then base else base.map (·.add (l * P.cellsOf (ZM P T)))) (hh - l) (cap - l), ?_, rfl, fun q' size' rows' ho' => ?_, fun size' rows' ho' => by rw [ho] at ho'; cases ho'⟩
  ·simp [execOp, hop, he, Instr.sliceAt, Instr.slice, run_underlying hu, hb, QM hi']
  ·rw [ho] at ho'
   cases ho'
   refine ⟨by omega, fun hl0 hl1 => ?_, fun hl1 => ?_, _, cap - l, rfl, by omega, by omega, fun hn => ?_, fun hpos => ?_⟩
   ·have hl : l = 0 := by omega
    subst hl
    have : len = rows.length := by omega
    have hv := hfull this (by omega)
    rw [← hv, he]
    simp only [Nat.sub_zero, Nat.zero_mul]
    have h3 : hh = len := by omega
    rw [h3]
    congr 1
    split
    ·rfl
    ·cases base <;> simp [Addr.add]
   ·have hl : l = 0 := by omega
    subst hl
    have hv := hpre (by omega)
    rw [he] at hv
    have hh0 : (if cap = 0 then base else base.map (·.add (0 * P.cellsOf (ZM P T)))) = base := by
     split
     ·rfl
     ·cases base <;> simp [Addr.add]
    rw [hh0]
    unfold I8 at hv ⊢
    revert hv
    cases (h t j).v with
    | slice b n c => intro hv; cases hv; simp
    | _ => intro hv; cases hv
   ·have hb0 : base = none := by
     by_cases hcl : cap = l
     ·rw [if_pos hcl] at hn; exact hn
     ·rw [if_neg hcl] at hn; simpa using hn
    have := hnn hb0; omega
   ·obtain ⟨b, cap0, hhd, hbase⟩ := hbs (by omega)
    refine ⟨b, cap0, hhd, ?_⟩
    rw [if_neg (by omega), hbase]
    simp [zo, Nat.add_mul]
 ·exact hs.elim
end
end Go.Vm
namespace Go.Vm
section
variable {P : Program} {T0 : CS} {B : Nat → Prop} {σ : St} {a : Act} {w : World} {X : Nat → Prop} {h : Nat → Nat → Hd}
theorem H0 {α : Type} (l : List α) (k : Nat) (v : α) (vs : List α) (hk : k + (vs.length + 1) ≤ l.length) : place (l.set k v) (k + 1) vs = place l k (v :: vs) := by
 unfold place
 have h1 : (l.set k v).take (k + 1) = l.take k ++ [v] := by
  rw [List.take_set, List.take_succ_eq_append_getElem (by omega)]
  rw [List.set_append_right _ _ (by simp; omega)]
  simp [Nat.min_eq_left (show k ≤ l.length by omega)]
 have h2 : (l.set k v).drop (k + 1 + vs.length) = l.drop (k + (vs.length + 1)) := by
  rw [List.drop_set_of_lt (by omega)]; congr 1; omega
 rw [h1, h2]; simp
theorem Tm (off : Nat) : ∀ (vs : List Value) (j : Nat) (cs : Array Value), off + j + vs.length ≤ cs.size →
  ((vs.zipIdx j).foldl (fun cs x => cs.setIfInBounds (off + x.2) x.1) cs).toList = place cs.toList (off + j) vs
 | [], j, cs, _ => by simp [place]
 | v :: vs, j, cs, hl => by
  rw [List.zipIdx_cons, List.foldl_cons, Tm off vs (j + 1) _ (by simp at hl ⊢; omega)]
  rw [Array.toList_setIfInBounds, show off + (j + 1) = off + j + 1 by omega, H0 _ _ _ _ (by simp at hl ⊢; omega)]
theorem j6 (off : Nat) (vs cs : Array Value) (hl : off + vs.size ≤ cs.size) :
  (vs.zipIdx.foldl (fun cs x => cs.setIfInBounds (off + x.2) x.1) cs).toList = place cs.toList off vs.toList := by
 rw [← Array.foldl_toList, Array.toList_zipIdx, Tm off vs.toList 0 cs (by simpa using hl)]
 rfl
theorem YV {α : Type} (r : List α) (off : Nat) (xs : List α) (hl : off + xs.length ≤ r.length) : (place r off xs).length = r.length := by
 simp [place]; omega
theorem Zs.place {α β : Type} {R : α → β → Prop} {l : List α} {m : List β} (x : Zs R l m) (off : Nat) {l' : List α} {m' : List β} (y : Zs R l' m') : Zs R (Vm.place l off l') (Vm.place m off m') := by
 unfold Vm.place
 rw [y.length]
 exact ((x.take _).append y).append (x.drop _)
theorem y2 {T' : CS} {ob : Nat → Nat → Ob} {x : V} {v : Value} (hf : x.flat = true) (hv : XO T' h ob w x v) : Zs (Z3 T' h ob w) x.cells v.cells.toList := by
 cases x with
 | one c =>
  have h1 := Z3.XP (show Z3 _ _ _ _ _ _ from hv)
  have : v.cells = #[v] := by cases v <;> first | rfl | (simp [Value.oneCell'] at h1)
  rw [this]
  exact .cons hv .nil
 | agg xs => obtain ⟨cs, rfl, hal⟩ := hv; exact hal
 | any => cases hf
 | tup xs => cases hf
 | cnd g x => cases hf
 | fix u x => cases hf
theorem RS (r : Rel T0 B σ a w X h) (T : TypeId) (pl : Nat → Option (Nat × Nat)) (hpl : ∀ i, bOk P T i = true → pl i = some (Z2 P T i, P.cellsOf (bTy P T i))) :
  ∀ (ps : List (Nat × Operand)) (row out : List At) (cells : Array Value), Zs (Z3 (Tof T0 X) h σ.ob w) row cells.toList → jB P σ T ps row out →
   ∃ cells', Instr.fill pl cells (ps.map fun x => (x.1, a.eval x.2)) = some cells' ∧ Zs (Z3 (Tof T0 X) h σ.ob w) out cells'.toList
 | [], row, out, cells, hal, hb => by cases hb; exact ⟨cells, rfl, hal⟩
 | (i, x) :: ps, row, out, cells, hal, hb => by
  obtain ⟨hok, hg, hf, hlen, hle, hb⟩ := hb
  have hx := y2 hf (r.arg (P := P) (bTy P T i) x rfl hg)
  have hl2 := hx.length
  have hl1 := hal.length
  have e1 : cells.toList.length = cells.size := Array.length_toList
  have e2 : (a.eval x).cells.toList.length = (a.eval x).cells.size := Array.length_toList
  have hstep := hal.place (Z2 P T i) hx
  have heq := j6 (Z2 P T i) (a.eval x).cells cells (by omega)
  rw [← heq] at hstep
  obtain ⟨cells', h1, h2⟩ := RS r T pl hpl ps _ out _ hstep hb
  refine ⟨cells', ?_, h2⟩
  have hsz : (a.eval x).cells.size = P.cellsOf (bTy P T i) := by omega
  simp only [List.map_cons, Instr.fill, hpl i hok]
  rw [if_neg (by simp [hsz]; omega)]
  exact h1
theorem run_places (fs : List Field) (hfs : ∀ f ∈ fs, (P.info? f.type).isSome = true) (w : World) :
  (fs.mapM (m := Sem) fun f => do pure (f.offset, ← sizeOf f.type)).run P w = .ok (fs.map fun f => (f.offset, P.cellsOf f.type)) w := by
 induction fs with
 | nil => simp
 | cons f fs ih =>
  obtain ⟨i, hi⟩ := Option.isSome_iff_exists.1 (hfs f (by simp))
  simp only [List.mapM_cons, Sem.run_bind, QM hi, Result.andThen_ok, Sem.run_pure, ih (fun f hf => hfs f (by simp [hf])), List.map_cons]
theorem I6 (r : Rel T0 B σ a w X h) {o : Oper} {T : TypeId} {parts : Array (Nat × Operand)} {v : V} (hop : o.op = .build T parts) (hs : YK P σ o.op o.type v) :
  ∃ val, (execOp a.eval o).run P w = .ok (.value val) w ∧ XO (Tof T0 X) h σ.ob w v val := by
 simp only [hop, YK] at hs
 obtain ⟨hz, hag, z, out, hzr, hb, rfl⟩ := hs
 obtain ⟨i, zv, hi, hzv, hsz, hzal⟩ := P3 hz hzr
 have hzrun : (zeroValue T).run P w = .ok zv w := by simp [zeroValue, typeInfo, hi, hzv]
 have hmap : (parts.map fun (x : Nat × Operand) => (x.1, a.eval x.2)).toList = parts.toList.map fun x => (x.1, a.eval x.2) := by simp
 unfold Yg at hag
 split at hag
 ·rename_i fs hu
  by_cases hall : ∀ f ∈ fs.toList, (P.info? f.type).isSome = true
  ·have hpl : ∀ i, bOk P T i = true → (fs.toList.map fun f => (f.offset, P.cellsOf f.type)).toArray[i]? = some (Z2 P T i, P.cellsOf (bTy P T i)) := by
    intro i hok
    simp only [bOk, hu, Bool.and_eq_true, decide_eq_true_eq] at hok
    have hlt := hok.2
    simp [Z2, bTy, hu, ZJ, ZP, hlt]
   obtain ⟨cells', h1, h2⟩ := RS r T _ hpl parts.toList z out zv.cells (hzal _ _ _ _) hb
   refine ⟨.agg cells', ?_, cells', rfl, h2⟩
   have hm := run_places (P := P) fs.toList hall w
   have : (fs.mapM (m := Sem) fun f => do pure (f.offset, ← sizeOf f.type)).run P w = .ok (fs.toList.map fun f => (f.offset, P.cellsOf f.type)).toArray w := by
    rw [Array.mapM_eq_mapM_toList]
    change ((fs.toList.mapM (m := Sem) fun f => do pure (f.offset, ← sizeOf f.type)) >>= fun l => pure l.toArray).run P w = _
    simp only [Sem.run_bind, hm, Result.andThen_ok, Sem.run_pure]
   simp only [execOp, hop, Instr.build, Sem.run_bind, hzrun, Result.andThen_ok, run_underlying hu, this, hmap, h1, Sem.run_pure]
  · -- no part can be placed: then there are none
   have hnil : parts.toList = [] := by
    cases hp : parts.toList with
    | nil => rfl
    | cons p ps =>
     obtain ⟨i, x⟩ := p
     rw [hp] at hb
     have hok := hb.1
     simp only [bOk, hu, Bool.and_eq_true] at hok
     exact absurd (by intro f hf; exact Array.all_eq_true'.1 hok.1 f (by simpa using hf)) hall
   exfalso
   -- a struct's zero row is read off its fields, all of them known
   rw [show (12 : Nat) = 11 + 1 from rfl, YW, hu] at hzr
   simp only [Option.map_eq_some_iff] at hzr
   obtain ⟨rs, hrs, _⟩ := hzr
   apply hall
   intro f hf
   have : ∀ (l : List Field) (rs : List (List At)), l.mapM (fun f => YW P 11 f.type) = some rs → ∀ f ∈ l, (P.info? f.type).isSome = true := by
    intro l
    induction l with
    | nil => intro rs _ f hf; cases hf
    | cons g l ih =>
     intro rs hrs f hf
     simp only [List.mapM_cons, Option.bind_eq_bind, Option.bind_eq_some_iff] at hrs
     obtain ⟨r0, hr0, rs', hrs', _⟩ := hrs
     rcases List.mem_cons.1 hf with rfl | hf
     ·rw [show (11 : Nat) = 10 + 1 from rfl, YW] at hr0
      cases hi0 : P.info? f.type with
      | some i => rfl
      | none => simp [Program.underlying, hi0] at hr0
     ·exact ih rs' hrs' f hf
   exact this fs.toList rs hrs f hf
 ·rename_i n e hu
  cases hie : P.info? e with
  | none =>
   exfalso
   rw [show (12 : Nat) = 11 + 1 from rfl, YW, hu] at hzr
   simp only [Option.map_eq_some_iff] at hzr
   obtain ⟨r0, hr0, _⟩ := hzr
   rw [show (11 : Nat) = 10 + 1 from rfl, YW] at hr0
   simp [Program.underlying, hie] at hr0
  | some ie =>
   have hpl : ∀ i, bOk P T i = true → (fun i => some (i * P.cellsOf e, P.cellsOf e)) i = some (Z2 P T i, P.cellsOf (bTy P T i)) := by
    intro i _
    simp [Z2, bTy, hu]
   obtain ⟨cells', h1, h2⟩ := RS r T _ hpl parts.toList z out zv.cells (hzal _ _ _ _) hb
   refine ⟨.agg cells', ?_, cells', rfl, h2⟩
   simp only [execOp, hop, Instr.build, Sem.run_bind, hzrun, Result.andThen_ok, run_underlying hu, QM hie, hmap, h1, Sem.run_pure]
 ·cases hag
theorem Ug {t : TypeId} (ht : Mx P t = true) {cs : Array Value} {i : Nat} {v : Value} (hv : cs[i]? = some v) : (part t cs i).run P w = .ok v w := by
 unfold Mx at ht
 split at ht <;> first | (rename_i hu; simp [part, isAgg, run_underlying hu, hv]) | cases ht
theorem F6 {t : TypeId} {T' : CS} {ob : Nat → Nat → Ob} {x y : At} {u v : Value} {p : Bool} (hp : EJ P t x y = some p) (hx : Z3 T' h ob w x u) (hy : Z3 T' h ob w y v) (d : Nat) (w' : World) :
  (Op.equalIn (d + 1) t u v).run P w' = .ok p w' := by
 unfold EJ at hp
 split at hp
 ·rename_i k a' k' b'
  split at hp
  ·rename_i hc
   obtain ⟨rfl, hi⟩ := hc
   obtain ⟨k2, hk2⟩ := Option.isSome_iff_exists.1 hi
   cases hp
   rw [jk hx, jk hy]
   exact Go.run_equalIn_int w' d t _ _ _ _ (P0 hk2)
  ·cases hp
 ·split at hp
  ·rename_i hc
   cases hp
   rw [za hx, za hy]
   have hu : P.underlying t = some .bool := by
    unfold Tr at hc; split at hc <;> first | assumption | cases hc
   exact Go.run_equalIn_bool' w' d t _ _ hu
  ·cases hp
 ·split at hp
  ·rename_i hc
   cases hp
   rw [kv hx, kv hy]
   rw [Go.run_equalIn_string w' d t _ _ (Kz hc), Hz]
  ·cases hp
 ·cases hp
theorem Nh {T' : CS} {ob : Nat → Nat → Ob} (d : Nat) (cs ds : Array Value) (w' : World) : ∀ (fs : List Field) (i : Nat) (xs ys : List At) (q : Bool), kF P fs i = true → zP P fs xs ys = some q →
  Zs (Z3 T' h ob w) xs (cs.toList.drop i) → Zs (Z3 T' h ob w) ys (ds.toList.drop i) → (Op.eqFields (d + 1) cs ds fs).run P w' = .ok q w'
 | [], i, xs, ys, q, _, hq, _, _ => by simp [zP] at hq; subst hq; simp [Op.eqFields]
 | f :: fs, i, [], ys, q, _, hq, _, _ => by simp [zP] at hq
 | f :: fs, i, x :: xs, [], q, _, hq, _, _ => by simp [zP] at hq
 | f :: fs, i, x :: xs, y :: ys, q, hok, hq, hx, hy => by
  simp only [kF, Bool.and_eq_true, decide_eq_true_eq, beq_iff_eq] at hok
  obtain ⟨⟨⟨hn, ho⟩, hsc⟩, hok⟩ := hok
  simp only [zP] at hq
  split at hq
  ·rename_i p q' hp hq'
   cases hq
   cases hcd : cs.toList.drop i with
   | nil => rw [hcd] at hx; cases hx
   | cons u us =>
    cases hdd : ds.toList.drop i with
    | nil => rw [hdd] at hy; cases hy
    | cons v vs =>
     rw [hcd] at hx; rw [hdd] at hy
     cases hx with
     | cons hxu hx =>
      cases hy with
      | cons hyv hy =>
       have hu : cs[i]? = some u := by
        have : (cs.toList.drop i)[0]? = some u := by rw [hcd]; rfl
        simpa using this
       have hv : ds[i]? = some v := by
        have : (ds.toList.drop i)[0]? = some v := by rw [hdd]; rfl
        simpa using this
       have hus : cs.toList.drop (i + 1) = us := by rw [← List.drop_drop, hcd]; rfl
       have hvs : ds.toList.drop (i + 1) = vs := by rw [← List.drop_drop, hdd]; rfl
       have ih := Nh d cs ds w' fs (i + 1) xs ys q' hok hq' (by rw [hus]; exact hx) (by rw [hvs]; exact hy)
       subst ho
       simp only [Op.eqFields, if_pos hn, Sem.run_bind, Ug hsc hu, Ug hsc hv, Result.andThen_ok, F6 hp hxu hyv d w']
       cases p
       ·simp
       ·simpa using ih
  ·cases hq
theorem FB {T : TypeId} {T' : CS} {ob : Nat → Nat → Ob} {xs ys : List At} {u v : Value} {q : Bool} (hok : jf P T = true) (hq : zP P (P.fieldsOf T).toList xs ys = some q)
  (hx : XO T' h ob w (.agg xs) u) (hy : XO T' h ob w (.agg ys) v) (op : BinOp) (x y : Operand) (w' : World) :
  (eqGuard op T x y u v).run P w' = .ok () w' ∧ (binOp .eql T u v).run P w' = .ok (.bool q) w' ∧ (binOp .neq T u v).run P w' = .ok (.bool (!q)) w' := by
 obtain ⟨cs, rfl, hcs⟩ := hx
 obtain ⟨ds, rfl, hds⟩ := hy
 unfold jf at hok
 split at hok
 ·rename_i fs hu
  simp only [Bool.and_eq_true, Bool.not_eq_true'] at hok
  have hf : P.fieldsOf T = fs := by simp [Program.fieldsOf, hu]
  have hu' : P.underlying T = some (.struct (P.fieldsOf T)) := by rw [hf]; exact hu
  have hrun : (Op.equalIn 10000 T (.agg cs) (.agg ds)).run P w' = .ok q w' := by
   rw [show (10000 : Nat) = 9999 + 1 from rfl, Go.run_equalIn_struct w' 9999 T cs ds hu' hok.1.1, show (9999 : Nat) = 9998 + 1 from rfl]
   exact Nh 9998 cs ds w' _ 0 xs ys q (by rw [hf]; exact hok.2) hq (by simpa using hcs) (by simpa using hds)
  refine ⟨Go.run_eqGuard_agg w' op T x y cs ds hok.1.2, ?_, ?_⟩
  ·rw [Go.run_eql_struct, hrun]; rfl
  ·rw [Go.run_neq_struct, hrun]; rfl
 ·cases hok
end
end Go.Vm
namespace Go.Vm
section
variable {P : Program} {T0 : CS} {B : Nat → Prop} {σ : St} {a : Act} {w : World} {X : Nat → Prop} {h : Nat → Nat → Hd}
theorem Rq (r : Rel T0 B σ a w X h) {o : Oper} {x : Operand} {v : V} (hop : o.op = .move x ∨ o.op = .assign x) (hs : YK P σ o.op o.type v) :
  ∃ val, (execOp a.eval o).run P w = .ok (.value val) w ∧ XO (Tof T0 X) h σ.ob w v val := by
 rcases hop with hop | hop <;>
 ·simp only [hop, YK] at hs
  subst hs
  exact ⟨a.eval x, by simp [execOp, hop], r.look _ x⟩
theorem Hr (r : Rel T0 B σ a w X h) {o : Oper} {c x y : Operand} {v : V} (hop : o.op = .pick c x y) (hs : YK P σ o.op o.type v) :
  ∃ val, (execOp a.eval o).run P w = .ok (.value val) w ∧ XO (Tof T0 X) h σ.ob w v val := by
 simp only [hop, YK] at hs
 obtain ⟨bc, p, q, hg, hc, hp, hq, hgp, hgq, rfl⟩ := hs
 have he := za (r.arg (P := P) o.type c hc hg)
 cases bc with
 | true =>
  have hx := za (r.arg (P := P) o.type x (hp rfl) (hgp rfl))
  exact ⟨.bool p, by simp [execOp, hop, he, asBool, hx], .bool _⟩
 | false =>
  have hy := za (r.arg (P := P) o.type y (hq rfl) (hgq rfl))
  exact ⟨.bool q, by simp [execOp, hop, he, asBool, hy], .bool _⟩
theorem zT (op : BinOp) (T : TypeId) (x y : Operand) {v u : Value} (hv : ∀ cs, v ≠ .agg cs) (hn : v ≠ .nilIface) : (eqGuard op T x y v u).run P w = .ok () w := by
 unfold eqGuard
 cases op <;> simp <;> (split <;> first | exact absurd rfl hn | exact absurd rfl (hv _) | simp)
theorem Gb (r : Rel T0 B σ a w X h) {o : Oper} {op : BinOp} {T T' : TypeId} {x y : Operand} {v : V} (hop : o.op = .binOp op T x y T') (hs : YK P σ o.op o.type v) :
  ∃ val, (execOp a.eval o).run P w = .ok (.value val) w ∧ XO (Tof T0 X) h σ.ob w v val := by
 simp only [hop, YK] at hs
 obtain ⟨hgx, hgy, hs⟩ := hs
 have hx := r.arg (P := P) T x rfl hgx
 have hy := r.arg (P := P) T y rfl hgy
 unfold Ij at hs
 split at hs
 ·rename_i k m k' n heq heq'
  rw [heq] at hx; rw [heq'] at hy
  have ex := jk hx
  have ey := jk hy
  obtain ⟨d, rfl, val, hr, hd⟩ := Hi (P := P) (t := T) hs.1 hs.2 w
  refine ⟨val, ?_, hd _ _⟩
  simp only [execOp, hop, ex, ey, Sem.run_bind, zT op T x y (v := .int k m) (u := .int k' n) (by simp) (by simp), Result.andThen_ok, hr, Sem.run_pure]
 ·rename_i m n heq heq'
  rw [heq] at hx; rw [heq'] at hy
  have ex := kv hx
  have ey := kv hy
  obtain ⟨d, rfl, val, hr, hd⟩ := HZ (P := P) (t := T) hs w
  refine ⟨val, ?_, hd _ _⟩
  simp only [execOp, hop, ex, ey, Sem.run_bind, zT op T x y (v := .string m) (u := .string n) (by simp) (by simp), Result.andThen_ok, hr, Sem.run_pure]
 ·rename_i m n heq heq'
  rw [heq] at hx; rw [heq'] at hy
  have ex := za hx
  have ey := za hy
  obtain ⟨d, rfl, val, hr, hd⟩ := L3 (P := P) (t := T) hs.1 hs.2 w
  refine ⟨val, ?_, hd _ _⟩
  simp only [execOp, hop, ex, ey, Sem.run_bind, zT op T x y (v := .bool m) (u := .bool n) (by simp) (by simp), Result.andThen_ok, hr, Sem.run_pure]
 ·rename_i xs ys heq heq'
  rw [heq] at hx; rw [heq'] at hy
  obtain ⟨hok, q, hq, hs⟩ := hs
  obtain ⟨h1, h2, h3⟩ := FB (P := P) hok hq hx hy op x y w
  rcases hs with ⟨rfl, rfl⟩ | ⟨rfl, rfl⟩
  ·exact ⟨.bool q, by simp only [execOp, hop, Sem.run_bind, h1, Result.andThen_ok, h2, Sem.run_pure], .bool _⟩
  ·exact ⟨.bool (!q), by simp only [execOp, hop, Sem.run_bind, h1, Result.andThen_ok, h3, Sem.run_pure], .bool _⟩
 ·exact hs.elim
theorem F5 (r : Rel T0 B σ a w X h) {o : Oper} {op : UnOp} {T : TypeId} {x : Operand} {v : V} (hop : o.op = .unOp op T x) (hs : YK P σ o.op o.type v) :
  ∃ val, (execOp a.eval o).run P w = .ok (.value val) w ∧ XO (Tof T0 X) h σ.ob w v val := by
 simp only [hop, YK] at hs
 obtain ⟨hg, hs⟩ := hs
 have hx := r.arg (P := P) 0 x rfl hg
 split at hs
 ·rename_i b heq
  rw [heq] at hx
  subst hs
  have he := za hx
  exact ⟨.bool (!b), by simp [execOp, hop, he, Op.unary], .bool _⟩
 ·rename_i k n heq
  rw [heq] at hx
  subst hs
  have he := jk hx
  exact ⟨.int k (k.wrap (-n)), by simp [execOp, hop, he, Op.unary, Op.intArith], .int _ _⟩
 ·exact hs.elim
theorem NA (r : Rel T0 B σ a w X h) {o : Oper} {S T : TypeId} {x : Operand} {v : V} (hop : o.op = .convert S T x) (hS : (P.underlying S).isSome = true) (hs : YK P σ o.op o.type v) :
  ∃ val, (execOp a.eval o).run P w = .ok (.value val) w ∧ XO (Tof T0 X) h σ.ob w v val := by
 simp only [hop, YK] at hs
 obtain ⟨hg, _, hs⟩ := hs
 have hx := r.arg (P := P) 0 x rfl hg
 split at hs
 ·rename_i k' n heq
  rw [heq] at hx
  obtain ⟨k, hk, rfl⟩ := hs
  have he := jk hx
  obtain ⟨d, hd⟩ := Option.isSome_iff_exists.1 hS
  exact ⟨.int k (k.wrap n), by simp [execOp, hop, he, convert, run_underlying hd, run_underlying (P0 hk), Conv.intToInt], .int _ _⟩
 ·exact hs.elim
theorem O8 (r : Rel T0 B σ a w X h) {o : Oper} {x : Operand} {i : Nat} {v : V} (hop : o.op = .extract x i) (hs : YK P σ o.op o.type v) :
  ∃ val, (execOp a.eval o).run P w = .ok (.value val) w ∧ XO (Tof T0 X) h σ.ob w v val := by
 simp only [hop, YK] at hs
 obtain ⟨hg, hs⟩ := hs
 have hx := r.arg (P := P) 0 x rfl hg
 split at hs
 ·rename_i xs heq
  rw [heq] at hx
  obtain ⟨vs, he, hal⟩ := hx
  obtain ⟨val, hval, hr⟩ := hal.get i v hs.1
  have : vs[i]? = some val := by simpa using hval
  exact ⟨val, by simp [execOp, hop, he, Instr.extract, this], hr.up⟩
 ·exact hs.elim
theorem IH (r : Rel T0 B σ a w X h) {o : Oper} {c : Call} {v : V} (hop : o.op = .call c) (hs : YK P σ o.op o.type v) :
  ∃ val, (execOp a.eval o).run P w = .ok (.value val) w ∧ XO (Tof T0 X) h σ.ob w v val := by
 simp only [hop, YK] at hs
 obtain ⟨callee, args, argTypes⟩ := c
 simp only at hs
 split at hs
 ·rename_i x t ha ht
  obtain rfl : args = #[x] := by apply Array.toList_inj.1; simpa using ha
  obtain rfl : argTypes = #[t] := by apply Array.toList_inj.1; simpa using ht
  obtain ⟨hg, hs⟩ := hs
  have hx := r.arg (P := P) t x rfl hg
  split at hs
  ·rename_i s heq
   rw [heq] at hx
   obtain ⟨hst, rfl⟩ := hs
   have he := kv hx
   exact ⟨.int .i64 s.size, by simp [execOp, hop, resolve, invoke, builtin, he, Builtin.len_, run_underlying (Kz hst), goInt], .int _ _⟩
  ·rename_i size rows heq
   rw [heq] at hx
   obtain ⟨hst, rfl⟩ := hs
   obtain ⟨ti, hu, _, _⟩ := XD hst
   obtain ⟨base, cap, he, _, _⟩ := HX (show Rd _ _ _ _ from hx)
   exact ⟨.int .i64 rows.length, by simp [execOp, hop, resolve, invoke, builtin, he, Builtin.len_, run_underlying hu, goInt], .int _ _⟩
  ·rename_i size heq
   rw [heq] at hx
   obtain ⟨hst, rfl⟩ := hs
   obtain ⟨ti, hu, _, _⟩ := XD hst
   have he : a.eval x = .slice none 0 0 := hx
   exact ⟨.int .i64 0, by simp [execOp, hop, resolve, invoke, builtin, he, Builtin.len_, run_underlying hu, goInt], .int _ _⟩
  ·rename_i u j lo len heq
   rw [heq] at hx
   obtain ⟨hst, ho, rfl⟩ := hs
   obtain ⟨ti, hu, _, _⟩ := XD hst
   have hhd : ∃ base cap, a.eval x = .slice base len cap := by
    rcases ho with ⟨q, size, rows, ho⟩ | ⟨size, rows, ho⟩
    ·obtain ⟨_, _, _, base, cap, he, _, _, _, _⟩ := hx.2.1 _ _ _ ho
     exact ⟨base, cap, he⟩
    ·obtain ⟨_, _, _, base, cap, he, _, _, _, _⟩ := hx.2.2 _ _ ho
     exact ⟨base, cap, he⟩
   obtain ⟨base, cap, he⟩ := hhd
   exact ⟨.int .i64 len, by simp [execOp, hop, resolve, invoke, builtin, he, Builtin.len_, run_underlying hu, goInt], .int _ _⟩
  ·exact hs.elim
 ·rename_i x y ha
  obtain rfl : args = #[x, y] := by apply Array.toList_inj.1; simpa using ha
  obtain ⟨k, m, n, hx, hy, rfl⟩ := hs
  have ex := KI r hx
  have ey := KI r hy
  exact ⟨.int k (if n > m then n else m), by simp [execOp, hop, resolve, invoke, builtin, ex, ey, Builtin.max_, Builtin.max2], .int _ _⟩
 ·rename_i x y ha
  obtain rfl : args = #[x, y] := by apply Array.toList_inj.1; simpa using ha
  obtain ⟨k, m, n, hx, hy, rfl⟩ := hs
  have ex := KI r hx
  have ey := KI r hy
  exact ⟨.int k (if n < m then n else m), by simp [execOp, hop, resolve, invoke, builtin, ex, ey, Builtin.min_, Builtin.min2], .int _ _⟩
 ·exact hs.elim
theorem Ty (r : Rel T0 B σ a w X h) {o : Oper} {v : V} (hs : YK P σ o.op o.type v) :
  ∃ val, (execOp a.eval o).run P w = .ok (.value val) w ∧ XO (Tof T0 X) h σ.ob w v val := by
 cases hop : o.op with
 | move x => exact Rq r (.inl hop) hs
 | assign x => exact Rq r (.inr hop) hs
 | pick c x y => exact Hr r hop hs
 | load T x => exact Hc r hop hs
 | fieldAddr T x f => exact SB r hop hs
 | nilCheck x => exact Rk r hop hs
 | indexAddr T x i => exact SQ r hop hs
 | index T x i => exact Ih r hop hs
 | field T x f => exact IY r hop hs
 | slice T x lo hi m =>
  cases m with
  | none => exact Lp r hop hs
  | some m => rw [hop] at hs; exact hs.elim
 | binOp op T x y T' => exact Gb r hop hs
 | unOp op T x => exact F5 r hop hs
 | convert S T x => rw [hop] at hs; exact NA r hop hs.2.1 (by rw [hop]; exact hs)
 | extract x i => exact O8 r hop hs
 | call c => exact IH r hop hs
 | build T ps => exact I6 r hop hs
 | _ => rw [hop] at hs; exact hs.elim
end
end Go.Vm
namespace Go.Vm
def At.ref (d : Nat) : At → Bool
 | .sref t _ _ _ => t == d
 | .ptr t _ _ _ => t == d
 | .bptr t _ => t == d
 | .fn _ t => t == d
 | .tref t _ _ _ _ => t == d
 | _ => false
def YA (d : Nat) : List At → Bool
 | [] => false
 | x :: xs => x.ref d || YA d xs
def V.UC (d : Nat) : V → Bool
 | .one x => x.ref d
 | .agg xs => YA d xs
 | _ => false
def jG (d : Nat) : List V → Bool
 | [] => false
 | x :: xs => x.UC d || jG d xs
def V.ref (d : Nat) : V → Bool
 | .tup xs => jG d xs
 | .cnd _ x => x.UC d || (match x with | .tup xs => jG d xs | _ => false)
 | .one x => x.ref d
 | .agg xs => YA d xs
 | .fix _ x => x.UC d || (match x with | .tup xs => jG d xs | _ => false)
 | .any => false
def YQ (d : Nat) : List Ob → Bool
 | [] => false
 | .box cells :: os => YA d cells || YQ d os
 | .lit _ rows :: os => YA d rows.flatten || YQ d os
 | _ :: os => YQ d os
def yJ (d : Nat) : Nat → St → Bool
 | _, [] => true
 | k, e :: σ => (k == d || (!e.1.ref d && !YQ d e.2)) && yJ d (k + 1) σ
def St.fresh (σ : St) (d : Nat) : Bool := decide (d < σ.length) && yJ d 0 σ
theorem Ko {d : Nat} : ∀ {σ : St} {k : Nat}, yJ d k σ = true → ∀ t e, σ[t]? = some e → k + t ≠ d → e.1.ref d = false ∧ YQ d e.2 = false
 | [], _, _, t, e, he, _ => by simp at he
 | e0 :: σ, k, hf, t, e, he, hne => by
  simp only [yJ, Bool.and_eq_true, Bool.or_eq_true, beq_iff_eq, Bool.not_eq_true'] at hf
  cases t with
  | zero =>
   simp at he; subst he
   rcases hf.1 with h | h
   ·omega
   ·exact h
  | succ t => exact Ko hf.2 t e (by simpa using he) (by omega)
theorem St.Gy {σ : St} {d : Nat} (hf : σ.fresh d = true) (t : Nat) (hne : t ≠ d) : (σ.get t).ref d = false := by
 simp only [St.fresh, Bool.and_eq_true] at hf
 unfold St.get
 cases he : σ[t]? with
 | none => rfl
 | some e => exact (Ko hf.2 t e he (by omega)).1
theorem N0 {d : Nat} : ∀ {os : List Ob}, YQ d os = false → ∀ j cells, YL os j = .box cells → YA d cells = false
 | [], _, j, cells, h => by simp [YL] at h
 | o :: os, hr, j, cells, h => by
  cases j with
  | zero =>
   simp [YL] at h; subst h
   simp [YQ] at hr; exact hr.1
  | succ j =>
   have : YL os j = .box cells := by simpa [YL] using h
   refine N0 (os := os) ?_ j cells this
   cases o <;> simp_all [YQ]
theorem R7 {d : Nat} : ∀ {os : List Ob}, YQ d os = false → ∀ j size rows, YL os j = .lit size rows → YA d rows.flatten = false
 | [], _, j, _, _, h => by simp [YL] at h
 | o :: os, hr, j, size, rows, h => by
  cases j with
  | zero =>
   simp [YL] at h; subst h
   simp [YQ] at hr; exact hr.1
  | succ j =>
   have : YL os j = .lit size rows := by simpa [YL] using h
   refine R7 (os := os) ?_ j size rows this
   cases o <;> simp_all [YQ]
theorem St.Gu {σ : St} {d : Nat} (hf : σ.fresh d = true) (t j : Nat) (hne : t ≠ d) (size : Nat) (rows : List (List At)) (ho : σ.ob t j = .lit size rows) : YA d rows.flatten = false := by
 simp only [St.fresh, Bool.and_eq_true] at hf
 unfold St.ob at ho
 cases he : σ[t]? with
 | none => rw [he] at ho; cases ho
 | some e => rw [he] at ho; exact R7 (Ko hf.2 t e he (by omega)).2 j size rows ho
theorem St.EH {σ : St} {d : Nat} (hf : σ.fresh d = true) (t j : Nat) (hne : t ≠ d) (cells : List At) (ho : σ.ob t j = .box cells) : YA d cells = false := by
 simp only [St.fresh, Bool.and_eq_true] at hf
 unfold St.ob at ho
 cases he : σ[t]? with
 | none => rw [he] at ho; cases ho
 | some e => rw [he] at ho; exact N0 (Ko hf.2 t e he (by omega)).2 j cells ho
theorem St.zp {σ : St} {d : Nat} (hf : σ.fresh d = true) : d < σ.length := by
 simp only [St.fresh, Bool.and_eq_true, decide_eq_true_eq] at hf; exact hf.1
def Cpt (h h' : Nat → Nat → Hd) (ob ob' : Nat → Nat → Ob) (t j : Nat) : Prop :=
 (∀ q size rows, ob' t j = .arr q size rows → h' t j = h t j ∧ ∃ rows0, ob t j = .arr q size rows0 ∧ rows0.length = rows.length) ∧
 (∀ size rows, ob' t j = .lit size rows → h' t j = h t j ∧ ∃ rows0, ob t j = .lit size rows0 ∧ rows0.length = rows.length) ∧
 (∀ cells, ob' t j = .box cells → h' t j = h t j ∧ ∃ cells0, ob t j = .box cells0)
theorem Cpt.same {h h' : Nat → Nat → Hd} {ob ob' : Nat → Nat → Ob} {t j : Nat} (hh : h' t j = h t j) (ho : ob' t j = ob t j) : Cpt h h' ob ob' t j :=
 ⟨fun q size rows e => ⟨hh, rows, by rw [← ho]; exact e, rfl⟩, fun size rows e => ⟨hh, rows, by rw [← ho]; exact e, rfl⟩, fun cells e => ⟨hh, cells, by rw [← ho]; exact e⟩⟩
section
variable {T T' : CS} {h h' : Nat → Nat → Hd} {ob ob' : Nat → Nat → Ob} {w w' : World} {d : Nat}
theorem Z3.carry (hT : ∀ b k v, T b k → w.cell? ⟨b, k, none⟩ = some v → w'.cell? ⟨b, k, none⟩ = some v ∧ T' b k) (hc : ∀ t j, t ≠ d → Cpt h h' ob ob' t j)
  {x : At} {v : Value} (hx : x.ref d = false) (r : Z3 T h ob w x v) : Z3 T' h' ob' w' x v := by
 cases x with
 | any => exact r
 | d x => exact Rd.mono hT r
 | nil s => exact r
 | sref t j lo len =>
  have ht : t ≠ d := by simpa [At.ref] using hx
  refine ⟨r.1, fun q size rows ho => ?_, fun size rows ho => ?_⟩
  ·obtain ⟨hh, rows0, ho0, hl⟩ := (hc t j ht).1 q size rows ho
   rw [hh, ← hl]; exact r.2.1 q size rows0 ho0
  ·obtain ⟨hh, rows0, ho0, hl⟩ := (hc t j ht).2.1 size rows ho
   rw [hh, ← hl]; exact r.2.2 size rows0 ho0
 | ptr t j i c =>
  have ht : t ≠ d := by simpa [At.ref] using hx
  refine ⟨r.1, fun q size rows ho => ?_⟩
  obtain ⟨hh, rows0, ho0, hl⟩ := (hc t j ht).1 q size rows ho
  rw [hh]; exact r.2 q size rows0 ho0
 | bptr t c =>
  have ht : t ≠ d := by simpa [At.ref] using hx
  refine ⟨r.1, fun cells ho => ?_⟩
  obtain ⟨hh, cells0, ho0⟩ := (hc t 0 ht).2.2 cells ho
  rw [hh]; exact r.2 cells0 ho0
 | fn f t =>
  have ht : t ≠ d := by simpa [At.ref] using hx
  refine ⟨r.1, fun cells ho => ?_⟩
  obtain ⟨hh, cells0, ho0⟩ := (hc t 0 ht).2.2 cells ho
  rw [hh]; exact r.2 cells0 ho0
 | tref t j i c o =>
  have ht : t ≠ d := by simpa [At.ref] using hx
  refine ⟨r.1, fun size rows ho => ?_⟩
  obtain ⟨hh, rows0, ho0, hl⟩ := (hc t j ht).1 true size rows ho
  rw [hh]; exact r.2 size rows0 ho0
 | rptr rr c =>
  obtain ⟨b, off, g, e, hk⟩ := r
  exact ⟨b, off, g, e, fun k d hd => ⟨(hT _ _ _ (hk k d hd).2.1 (hk k d hd).1).1, (hT _ _ _ (hk k d hd).2.1 (hk k d hd).1).2, Rd.mono hT (hk k d hd).2.2⟩⟩
theorem xf (hT : ∀ b k v, T b k → w.cell? ⟨b, k, none⟩ = some v → w'.cell? ⟨b, k, none⟩ = some v ∧ T' b k) (hc : ∀ t j, t ≠ d → Cpt h h' ob ob' t j)
  {xs : List At} {vs : List Value} (hx : YA d xs = false) (r : Zs (Z3 T h ob w) xs vs) : Zs (Z3 T' h' ob' w') xs vs := by
 induction r with
 | nil => exact .nil
 | cons r _ ih =>
  simp only [YA, Bool.or_eq_false_iff] at hx
  exact .cons (Z3.carry hT hc hx.1 r) (ih hx.2)
theorem QP.carry (hT : ∀ b k v, T b k → w.cell? ⟨b, k, none⟩ = some v → w'.cell? ⟨b, k, none⟩ = some v ∧ T' b k) (hc : ∀ t j, t ≠ d → Cpt h h' ob ob' t j)
  {x : V} {v : Value} (hx : x.UC d = false) (r : QP T h ob w x v) : QP T' h' ob' w' x v := by
 cases x with
 | any => exact r
 | one x => exact Z3.carry hT hc hx r
 | agg xs => obtain ⟨cs, e, r⟩ := r; exact ⟨cs, e, xf hT hc hx r⟩
 | tup xs => exact r.elim
 | cnd g x => exact r.elim
 | fix u x => exact r.elim
theorem XO.carry (hT : ∀ b k v, T b k → w.cell? ⟨b, k, none⟩ = some v → w'.cell? ⟨b, k, none⟩ = some v ∧ T' b k) (hc : ∀ t j, t ≠ d → Cpt h h' ob ob' t j)
  {x : V} {v : Value} (hx : x.ref d = false) (r : XO T h ob w x v) : XO T' h' ob' w' x v := by
 cases x with
 | any => exact r
 | one x => exact Z3.carry hT hc hx r
 | agg xs => obtain ⟨cs, e, r⟩ := r; exact ⟨cs, e, xf hT hc hx r⟩
 | tup xs =>
  obtain ⟨vs, e, r⟩ := r
  refine ⟨vs, e, ?_⟩
  clear e
  generalize vs.toList = vl at r
  simp only [V.ref] at hx
  induction r with
  | nil => exact .nil
  | cons r _ ih =>
   simp only [jG, Bool.or_eq_false_iff] at hx
   exact .cons (QP.carry hT hc hx.1 r) (ih hx.2)
 | cnd g x =>
  simp only [V.ref, Bool.or_eq_false_iff] at hx
  exact ⟨fun hg => QP.carry hT hc hx.1 (r.1 hg), r.2⟩
 | fix u x =>
  simp only [V.ref, Bool.or_eq_false_iff] at hx
  exact ⟨r.1, QP.carry hT hc hx.1 r.2⟩
end
section
variable {P : Program} {T0 : CS} {B : Nat → Prop} {σ : St} {a : Act} {w w' : World} {X X' : Nat → Prop} {h : Nat → Nat → Hd}
theorem Rel.Tlt (r : Rel T0 B σ a w X h) {b k : Nat} (hb : Tof T0 X b k) : b < w.heap.size := by
 rcases hb with hb | hb
 ·exact r.hB b (r.hT b k hb)
 ·exact (r.hX b hb).2
theorem Jx {e : TypeId} {size n : Nat} {v : Value} {xs : List Value} (hb : ∀ b, blk v = some b → w'.heap[b]? = w.heap[b]?) (ho : w.ownsRow 0 e size v n xs) : w'.ownsRow 0 e size v n xs := by
 refine ⟨ho.1, ?_⟩
 rcases ho.2 with hn | ⟨g, cap, cur, rfl, h0, hg, rest⟩
 ·exact .inl hn
 ·exact .inr ⟨g, cap, cur, rfl, h0, by rw [hb g rfl]; exact hg, rest⟩
theorem Own.Wq {v : Value} {d : D} {S : Nat → Prop} (hb : ∀ b, S b → w'.heap[b]? = w.heap[b]?) (ho : Own w v d S) : Own w' v d S := by
 induction ho with
 | int k n S => exact .int k n S
 | bool b S => exact .bool b S
 | str s S => exact .str s S
 | sl v size rows S e xs Sk ho hz hb' hl hk hs hd ih =>
  exact .sl v size rows S e xs Sk (Jx (fun b h => hb b (hb' b h)) ho) hz hb' hl (fun k x d hx hd' => ih k x d hx hd' (fun b h => hb b (hs k b h).1)) hs hd
theorem Own.mono {v : Value} {d : D} {S S' : Nat → Prop} (hS : ∀ b, S b → S' b) (ho : Own w v d S) : Own w v d S' := by
 cases ho with
 | int k n S => exact .int k n S'
 | bool b S => exact .bool b S'
 | str s S => exact .str s S'
 | sl v size rows S e xs Sk ho hz hb' hl hk hs hd => exact .sl v size rows S' e xs Sk ho hz (fun b h => hS b (hb' b h)) hl hk (fun k b h => ⟨hS b (hs k b h).1, (hs k b h).2⟩) hd
theorem Qw.Wq {xs : List Value} {ds : List D} {S : Nat → Prop} (hb : ∀ b, S b → w'.heap[b]? = w.heap[b]?) (ho : Qw w xs ds S) : Qw w' xs ds S := by
 obtain ⟨hl, Sk, h1, h2, h3⟩ := ho
 exact ⟨hl, Sk, fun k x d hx hd => (h1 k x d hx hd).Wq (fun b h => hb b (h2 k b h)), h2, h3⟩
theorem JO.Wq {T T' : CS} {h h' : Nat → Nat → Hd} {ob ob' : Nat → Nat → Ob} {d : Nat} {hd : Hd} {o : Ob}
  (hT : ∀ b k v, T b k → w.cell? ⟨b, k, none⟩ = some v → w'.cell? ⟨b, k, none⟩ = some v ∧ T' b k) (hc : ∀ t j, t ≠ d → Cpt h h' ob ob' t j)
  (hub : o ≠ .none → ∀ b, blk hd.v = some b → hd.u b) (hb : o ≠ .none → ∀ b, hd.u b → w'.heap[b]? = w.heap[b]?) (hr : YQ d [o] = false) (r : JO T h ob w hd o) : JO T' h' ob' w' hd o := by
 cases o with
 | none => trivial
 | box cells =>
  obtain ⟨b, cs, e, hv, hh, hal⟩ := r
  simp only [YQ, Bool.or_false] at hr
  exact ⟨b, cs, e, hv, by rw [hb (by simp) b (hub (by simp) b (by rw [hv]; rfl))]; exact hh, xf hT hc hr hal⟩
 | arr q size rows =>
  have hk : ∀ {e : TypeId} {n : Nat} {xs : List Value}, w.ownsRow 0 e size hd.v n xs → w'.ownsRow 0 e size hd.v n xs := fun ho => Jx (fun b h => hb (by simp) b (hub (by simp) b h)) ho
  cases q with
  | false =>
   obtain ⟨e, xs, ho, hz, hal⟩ := r
   exact ⟨e, xs, hk ho, hz, hal.imp fun _ _ => Rd.mono hT⟩
  | true =>
   obtain ⟨e, xs, ho, hz, hal, hn⟩ := r
   exact ⟨e, xs, hk ho, hz, hal.Wq (fun b h => hb (by simp) b h.1), hn⟩
 | lit size rows =>
  obtain ⟨e, xs, ho, hz, hal⟩ := r
  simp only [YQ, Bool.or_false] at hr
  exact ⟨e, xs, Jx (fun b h => hb (by simp) b (hub (by simp) b h)) ho, hz, xf hT hc hr hal⟩
theorem St.GY {σ : St} {d : Nat} (hf : σ.fresh d = true) (t j : Nat) (hne : t ≠ d) : YQ d [σ.ob t j] = false := by
 cases ho : σ.ob t j with
 | none => rfl
 | box cells => simp [YQ, St.EH hf t j hne cells ho]
 | arr q size rows => rfl
 | lit size rows => simp only [YQ, St.Gu hf t j hne size rows ho, Bool.or_false]
theorem Rel.D6 (r : Rel T0 B σ a w X h) {d : Nat} (hf : σ.fresh d = true) (M : Nat → Prop) (hsz : w.heap.size ≤ w'.heap.size) (hg : ∀ k, k < w.heap.size → ¬ M k → w'.heap[k]? = w.heap[k]?)
  (hm : ∀ b, M b → ¬ B b ∧ ¬ X b ∧ ∀ t j, t ≠ d → σ.ob t j ≠ .none → ¬ (h t j).u b) (hX : ∀ b, X b → X' b) (hX' : ∀ b, X' b → X b ∨ (w.heap.size ≤ b ∧ b < w'.heap.size))
  (v : V) (val : Value) (os : List Ob) (hd : Nat → Hd)
  (hv : XO (Tof T0 X') (fun t j => if t = d then hd j else h t j) (σ.new d v os).ob w' v val)
  (hos : ∀ j, JO (Tof T0 X') (fun t j => if t = d then hd j else h t j) (σ.new d v os).ob w' (hd j) (YL os j))
  (hub : ∀ j b, YL os j ≠ .none → blk (hd j).v = some b → (hd j).u b)
  (hown : ∀ j b, YL os j ≠ .none → (hd j).u b → (w.heap.size ≤ b ∨ M b) ∧ ¬ X' b ∧ b < w'.heap.size)
  (hinj : ∀ j j' b, YL os j ≠ .none → YL os j' ≠ .none → (hd j).u b → (hd j').u b → j = j') :
  Rel T0 B (σ.new d v os) (a.put (some d) val) w' X' (fun t j => if t = d then hd j else h t j) := by
 have hlt := St.zp hf
 have hTm : ∀ b k, Tof T0 X b k → ¬ M b := by
  intro b k hb hmb
  rcases hb with hb | hb
  ·exact (hm b hmb).1 (r.hT b k hb)
  ·exact (hm b hmb).2.1 hb
 have hT : ∀ b k v, Tof T0 X b k → w.cell? ⟨b, k, none⟩ = some v → w'.cell? ⟨b, k, none⟩ = some v ∧ Tof T0 X' b k := by
  intro b k v hb hcell
  refine ⟨?_, hb.imp id (hX b)⟩
  rw [World.cell?_of_block (hg b (r.Tlt hb) (hTm b k hb))]; exact hcell
 have hc : ∀ t j, t ≠ d → Cpt h (fun t j => if t = d then hd j else h t j) σ.ob (σ.new d v os).ob t j := by
  intro t j hne
  have he : (σ.new d v os).ob t j = σ.ob t j := by rw [St.Jh, if_neg (fun hh => hne hh.1)]
  exact Cpt.same (by simp [hne]) he
 refine ⟨by simp [Act.put, r.size, St.VJ], r.defers, fun b hb => Nat.lt_of_lt_of_le (r.hB b hb) hsz, fun b hb => ?_, r.hT, fun t ht => ?_, fun t j => ?_, fun t j b ho hb => ?_, fun t j b ho hb => ?_, fun t j t' j' b ho ho' hb hb' => ?_⟩
 ·rcases hX' b hb with hb | hb
  ·have := r.hX b hb; exact ⟨this.1, by omega⟩
  ·exact ⟨fun hbb => by have := r.hB b hbb; omega, hb.2⟩
 ·rw [St.VJ] at ht
  rw [St.ML]
  by_cases hd' : t = d
  ·subst hd'
   simp only [hlt, and_self, if_true]
   have : (a.tmps.setIfInBounds t val).getD t undef = val := by simp [r.size, hlt]
   simp only [Act.put, this]; exact hv
  ·rw [if_neg (fun hh => hd' hh.1)]
   have : (a.tmps.setIfInBounds d val).getD t undef = a.tmps.getD t undef := by simp [Array.getElem?_setIfInBounds_ne (Ne.symm hd')]
   simp only [Act.put, this]
   exact XO.carry hT hc (St.Gy hf t hd') (r.slot t ht)
 ·rw [St.Jh]
  by_cases hd' : t = d
  ·subst hd'
   simp only [hlt, and_self, if_true]; exact hos j
  ·have hne : ¬ (t = d ∧ d < σ.length) := fun hh => hd' hh.1
   rw [if_neg hne]
   simp only [if_neg hd']
   exact JO.Wq hT hc (fun ho b => r.ub t j b ho) (fun ho b hu => hg b (r.own t j b ho hu).2.2 (fun hmb => (hm b hmb).2.2 t j hd' ho hu)) (St.GY hf t j hd') (r.obj t j)
 ·rw [St.Jh] at ho
  by_cases hd' : t = d
  ·subst hd'
   simp only [hlt, and_self, if_true] at ho hb ⊢
   exact hub j b ho hb
  ·rw [if_neg (fun hh => hd' hh.1)] at ho
   simp only [hd', if_false] at hb ⊢
   exact r.ub t j b ho hb
 ·rw [St.Jh] at ho
  by_cases hd' : t = d
  ·subst hd'
   simp only [hlt, and_self, if_true] at ho hb
   have h1 := hown j b ho hb
   refine ⟨?_, h1.2.1, h1.2.2⟩
   rcases h1.1 with h2 | h2
   ·exact fun hbb => by have := r.hB b hbb; omega
   ·exact (hm b h2).1
  ·rw [if_neg (fun hh => hd' hh.1)] at ho
   simp only [hd', if_false] at hb
   have := r.own t j b ho hb
   refine ⟨this.1, fun hx => ?_, by omega⟩
   rcases hX' b hx with hx | hx
   ·exact this.2.1 hx
   ·omega
 ·rw [St.Jh] at ho ho'
  by_cases hd1 : t = d
  ·by_cases hd2 : t' = d
   ·subst hd1; subst hd2
    simp only [hlt, and_self, if_true] at ho hb ho' hb'
    exact ⟨rfl, hinj j j' b ho ho' hb hb'⟩
   ·subst hd1
    simp only [hlt, and_self, if_true] at ho hb
    rw [if_neg (fun hh => hd2 hh.1)] at ho'
    simp only [hd2, if_false] at hb'
    have h1 := hown j b ho hb
    have h2 := r.own t' j' b ho' hb'
    rcases h1.1 with h3 | h3
    ·omega
    ·exact absurd hb' ((hm b h3).2.2 t' j' hd2 ho')
  ·by_cases hd2 : t' = d
   ·subst hd2
    simp only [hlt, and_self, if_true] at ho' hb'
    rw [if_neg (fun hh => hd1 hh.1)] at ho
    simp only [hd1, if_false] at hb
    have h1 := hown j' b ho' hb'
    have h2 := r.own t j b ho hb
    rcases h1.1 with h3 | h3
    ·omega
    ·exact absurd hb ((hm b h3).2.2 t j hd1 ho)
   ·rw [if_neg (fun hh => hd1 hh.1)] at ho
    rw [if_neg (fun hh => hd2 hh.1)] at ho'
    simp only [hd1, hd2, if_false] at hb hb'
    exact r.inj t j t' j' b ho ho' hb hb'
theorem Rel.new (r : Rel T0 B σ a w X h) {d : Nat} (hf : σ.fresh d = true) (hg : w.grownBy w' none) (hX : ∀ b, X b → X' b) (hX' : ∀ b, X' b → X b ∨ (w.heap.size ≤ b ∧ b < w'.heap.size))
  (v : V) (val : Value) (os : List Ob) (hd : Nat → Hd)
  (hv : XO (Tof T0 X') (fun t j => if t = d then hd j else h t j) (σ.new d v os).ob w' v val)
  (hos : ∀ j, JO (Tof T0 X') (fun t j => if t = d then hd j else h t j) (σ.new d v os).ob w' (hd j) (YL os j))
  (hub : ∀ j b, YL os j ≠ .none → blk (hd j).v = some b → (hd j).u b)
  (hown : ∀ j b, YL os j ≠ .none → (hd j).u b → w.heap.size ≤ b ∧ ¬ X' b ∧ b < w'.heap.size)
  (hinj : ∀ j j' b, YL os j ≠ .none → YL os j' ≠ .none → (hd j).u b → (hd j').u b → j = j') :
  Rel T0 B (σ.new d v os) (a.put (some d) val) w' X' (fun t j => if t = d then hd j else h t j) :=
 r.D6 hf (fun _ => False) hg.size (fun k hk _ => hg.block k hk (by simp)) (fun _ hh => hh.elim) hX hX' v val os hd hv hos hub (fun j b h1 h2 => ⟨.inl (hown j b h1 h2).1, (hown j b h1 h2).2⟩) hinj
end
end Go.Vm
namespace Go.Vm
open Go.RowKit
def QN (v : Value) (cs : List Value) : Prop := (∃ c, cs = [c] ∧ v = c ∧ c.oneCell' = true) ∨ (cs.length ≠ 1 ∧ v = .agg cs.toArray)
def T2 : List Value → Value
 | [v] => v
 | vs => .tuple vs.toArray
def Xk (T : CS) (w : World) (v : Value) : D → Prop
 | .sl size rows => ∃ e xs, w.ownsRow 0 e size v rows.length xs ∧ (∀ r ∈ rows, r.length = size) ∧ Zs (Rd T w) xs rows.flatten
 | d => Rd T w v d
def KP (own : Bool) (T : CS) (w : World) (v : Value) (d : D) : Prop := if own then Xk T w v d else Rd T w v d
def TU (P : Program) (f : FuncId) : Bool :=
 match P.funcs[f]? with
 | some fn => fn.body.isSome && fn.name != "runtime.NumGoroutine"
 | none => false
def CH (B N : Nat) (Y : Nat → Prop) (cs : List Value) (ds : List D) : Prop :=
 (∀ (i : Nat) (c : Value) (d : D) (b : Nat), cs[i]? = some c → ds[i]? = some d → d.scalar = false → blk c = some b → B ≤ b ∧ b < N ∧ ¬ Y b) ∧
 (∀ (i j : Nat) (c c' : Value) (d d' : D) (b : Nat), cs[i]? = some c → ds[i]? = some d → cs[j]? = some c' → ds[j]? = some d' → d.scalar = false → d'.scalar = false → blk c = some b → blk c' = some b → i = j)
def Cl (own : Bool) (T : CS) (w : World) (res : List (List D)) (e : Ending) (w' : World) : Prop :=
 ∃ (vs : List Value) (css : List (List Value)) (Y : Nat → Prop), e = .returned (T2 vs) ∧ Below w.heap.size w w' ∧ (∀ b, Y b → w.heap.size ≤ b ∧ b < w'.heap.size) ∧
  Zs QN vs css ∧ Zs (fun cs row => Zs (KP own (Tof T Y) w') cs row) css res ∧ (own = true → CH w.heap.size w'.heap.size Y css.flatten res.flatten)
def XU (P : Program) (f : FuncId) (own : Bool) (args res : List (List D)) : Prop :=
 TU P f = true ∧ ∀ (T : CS) (w : World) (vals : List Value), (∀ b k, T b k → b < w.heap.size) → Zs (fun v row => ∃ cs, QN v cs ∧ Zs (Rd T w) cs row) vals args →
  Calls P f vals.toArray w (Cl own T w res)
def vOf : List At → V
 | [x] => .one x
 | xs => .agg xs
def X8 (t : Nat) : Nat → List D → List At
 | _, [] => []
 | k, .sl _ rows :: ds => .sref t k 0 rows.length :: X8 t (k + 1) ds
 | k, d :: ds => .d d :: X8 t (k + 1) ds
def J1 : List D → List Ob
 | [] => []
 | .sl size rows :: ds => .arr false size rows :: J1 ds
 | _ :: ds => .none :: J1 ds
def Nw (t : Nat) : Nat → List (List D) → List V
 | _, [] => []
 | k, r :: rs => vOf (X8 t k r) :: Nw t (k + r.length) rs
def qv (t : Nat) : List (List D) → V
 | [r] => vOf (X8 t 0 r)
 | rs => .tup (Nw t 0 rs)
def zx : List (List D) → V
 | [r] => vOf (r.map .d)
 | rs => .tup (rs.map fun r => vOf (r.map .d))
def JR (σ : St) : At → Option D
 | .d x => some x
 | .nil s => some (.sl s [])
 | .sref t j lo len => (match σ.ob t j with | .arr _ size rows => some (.sl size (cut rows lo len)) | _ => none)
 | _ => none
def rowOf (σ : St) : List At → Option (List D)
 | [] => some []
 | x :: xs => (match JR σ x, rowOf σ xs with | some d, some ds => some (d :: ds) | _, _ => none)
def V.QQ (σ : St) : V → Option (List D)
 | .one x => rowOf σ [x]
 | .agg [_] => none
 | .agg xs => rowOf σ xs
 | _ => none
def Y8 (P : Program) (σ : St) : List Operand → List TypeId → List (List D) → Prop
 | [], _, rs => rs = []
 | x :: xs, t :: ts, rs => gOf (look P σ t x) = true ∧ ∃ r rest, (unc (look P σ t x)).QQ σ = some r ∧ Y8 P σ xs ts rest ∧ rs = r :: rest
 | _ :: _, [], _ => False
def At.My : At → Bool
 | .sref _ _ _ _ => false
 | .tref _ _ _ _ _ => false
 | _ => true
def Qb : List At → Bool
 | [] => true
 | x :: xs => x.My && Qb xs
def YG (P : Program) (σ : St) : List Operand → List TypeId → Bool
 | x :: xs, t :: ts => Qb (unc (look P σ t x)).cells && YG P σ xs ts
 | _, _ => true
section
variable {P : Program} {T0 : CS} {B : Nat → Prop} {σ : St} {a : Act} {w w' : World} {X X' : Nat → Prop} {h : Nat → Nat → Hd}
theorem Rel.grow (r : Rel T0 B σ a w X h) (hg : w.grownBy w' none) (hX : ∀ b, X b → X' b) (hX' : ∀ b, X' b → X b ∨ (w.heap.size ≤ b ∧ b < w'.heap.size)) : Rel T0 B σ a w' X' h := by
 have hT : ∀ b k v, Tof T0 X b k → w.cell? ⟨b, k, none⟩ = some v → w'.cell? ⟨b, k, none⟩ = some v ∧ Tof T0 X' b k := by
  intro b k v hb hcell
  refine ⟨?_, hb.imp id (hX b)⟩
  rw [World.cell?_of_block (hg.block b (r.Tlt hb) (by simp))]; exact hcell
 have hB : w.heap.size ≤ w'.heap.size := hg.size
 refine ⟨r.size, r.defers, fun b hb => Nat.lt_of_lt_of_le (r.hB b hb) hB, fun b hb => ?_, r.hT, fun t ht => XO.mono hT (r.slot t ht), fun t j => ?_, r.ub, fun t j b ho hb => ?_, r.inj⟩
 ·rcases hX' b hb with hb | hb
  ·have := r.hX b hb; exact ⟨this.1, by omega⟩
  ·exact ⟨fun hbb => by have := r.hB b hbb; omega, hb.2⟩
 ·have h0 := r.obj t j
  have hk : σ.ob t j ≠ .none → ∀ b, (h t j).u b → w'.heap[b]? = w.heap[b]? := fun ho b hu => hg.block b (r.own t j b ho hu).2.2 (by simp)
  have hob := r.ub t j
  cases ho : σ.ob t j with
  | none => trivial
  | box cells =>
   rw [ho] at h0 hk hob
   obtain ⟨b, cs, e, hv, hh, hal⟩ := h0
   exact ⟨b, cs, e, hv, by rw [hk (by simp) b (hob b (by simp) (by rw [hv]; rfl))]; exact hh, hal.imp fun _ _ => Z3.mono hT⟩
  | arr q size rows =>
   rw [ho] at h0 hk hob
   cases q with
   | false =>
    obtain ⟨e, xs, how, hz, hal⟩ := h0
    exact ⟨e, xs, Jx (fun b hb => hk (by simp) b (hob b (by simp) hb)) how, hz, hal.imp fun _ _ => Rd.mono hT⟩
   | true =>
    obtain ⟨e, xs, how, hz, hal, hn⟩ := h0
    exact ⟨e, xs, Jx (fun b hb => hk (by simp) b (hob b (by simp) hb)) how, hz, hal.Wq (fun b hb => hk (by simp) b hb.1), hn⟩
  | lit size rows =>
   rw [ho] at h0 hk hob
   obtain ⟨e, xs, how, hz, hal⟩ := h0
   exact ⟨e, xs, Jx (fun b hb => hk (by simp) b (hob b (by simp) hb)) how, hz, hal.imp fun _ _ => Z3.mono hT⟩
 ·have := r.own t j b ho hb
  refine ⟨this.1, fun hx => ?_, by omega⟩
  rcases hX' b hx with hx | hx
  ·exact this.2.1 hx
  ·omega
def VI (T0 : CS) (X : Nat → Prop) (h : Nat → Nat → Hd) (σ : St) : CS := fun b k => Tof T0 X b k ∨ ∃ t j q size rows, σ.ob t j = .arr q size rows ∧ (h t j).u b
theorem Rel.MK (r : Rel T0 B σ a w X h) {b k : Nat} (hb : VI T0 X h σ b k) : b < w.heap.size := by
 rcases hb with hb | ⟨t, j, q, size, rows, ho, hb⟩
 ·exact r.Tlt hb
 ·exact (r.own t j b (by rw [ho]; simp) hb).2.2
theorem E2 {T : CS} {w : World} {e : TypeId} {size : Nat} {v : Value} {rows : List (List D)} {xs : List Value} (ho : w.ownsRow 0 e size v rows.length xs) (hz : ∀ r ∈ rows, r.length = size) (hT : ∀ b k, blk v = some b → T b k)
  (hal : Zs (Rd T w) xs rows.flatten) : Rd T w v (.sl size rows) := by
 rcases ho.2 with ⟨rfl, hn⟩ | ⟨g, cap, cur, rfl, _, hh, hnc, hmx, hcs, htk⟩
 ·have : rows = [] := List.eq_nil_of_length_eq_zero hn
  subst this; exact .nil _
 ·refine .sl ⟨g, 0, none⟩ _ cap size rows (fun k => (xs[k]?).getD undef) rfl hnc hmx hz (fun _ => rfl) (fun k d hd => ?_) (fun k d hd => ?_)
  ·obtain ⟨u, hu, _⟩ := hal.get' k d hd
   have hlt : k < rows.length * size := by
    have := (List.getElem?_eq_some_iff.1 hd).1
    rw [YH rows size hz] at this; exact this
   rw [hu]
   refine ⟨?_, hT g _ rfl⟩
   simp only [Nat.zero_add]
   refine KS hh _ _ ?_
   rw [← htk, List.getElem?_take, if_pos hlt] at hu
   exact hu
  ·obtain ⟨u, hu, hr⟩ := hal.get' k d hd
   rw [hu]; exact hr
theorem Own.rd {T : CS} {w : World} {v : Value} {d : D} {S : Nat → Prop} (ho : Own w v d S) (hT : ∀ b k, S b → T b k) : Rd T w v d := by
 induction ho with
 | int k n S => exact .int k n
 | bool b S => exact .bool b
 | str s S => exact .str s
 | sl v size rows S e xs Sk ho hz hb' hl hk hs hd ih =>
  exact E2 ho hz (fun b k hb => hT b k (hb' b hb)) (Zs.zk hl (fun k x d hx hd' => ih k x d hx hd' (fun b k' hb => hT b k' (hs k b hb).1)))
theorem Qw.rd {T : CS} {w : World} {xs : List Value} {ds : List D} {S : Nat → Prop} (ho : Qw w xs ds S) (hT : ∀ b k, S b → T b k) : Zs (Rd T w) xs ds := by
 obtain ⟨hl, Sk, h1, h2, h3⟩ := ho
 exact Zs.zk hl (fun k x d hx hd => (h1 k x d hx hd).rd (fun b k' hb => hT b k' (h2 k b hb)))
theorem Rel.cells (r : Rel T0 B σ a w X h) {t j size : Nat} {q : Bool} {rows : List (List D)} (ho : σ.ob t j = .arr q size rows) :
  ∃ e xs, w.ownsRow 0 e size (h t j).v rows.length xs ∧ (∀ r ∈ rows, r.length = size) ∧ ∀ T : CS, (∀ b k, Tof T0 X b k → T b k) → (∀ b k, (h t j).u b → T b k) → Zs (Rd T w) xs rows.flatten := by
 have h0 := r.obj t j
 rw [ho] at h0
 cases q with
 | false =>
  obtain ⟨e, xs, how, hz, hal⟩ := h0
  exact ⟨e, xs, how, hz, fun T h1 _ => hal.imp fun _ _ => Rd.mono (fun b k v hb hc => ⟨hc, h1 b k hb⟩)⟩
 | true =>
  obtain ⟨e, xs, how, hz, hal, hn⟩ := h0
  exact ⟨e, xs, how, hz, fun T _ h2 => hal.rd (fun b k hb => h2 b k hb.1)⟩
theorem Rel.GS (r : Rel T0 B σ a w X h) {t j lo len size : Nat} {q : Bool} {rows : List (List D)} (ho : σ.ob t j = .arr q size rows) {v : Value} (hv : Z3 (Tof T0 X) h σ.ob w (.sref t j lo len) v)
  (T : CS) (hT1 : ∀ b k, Tof T0 X b k → T b k) (hT2 : ∀ b k, (h t j).u b → T b k) : Rd T w v (.sl size (cut rows lo len)) := by
 obtain ⟨hle, hfull, _, base, cap, rfl, hcap, hcm, hnn, hb⟩ := hv.2.1 q size rows ho
 obtain ⟨e, xs, ⟨hl, hown⟩, hz, hal0⟩ := r.cells ho
 have hal := hal0 T hT1 hT2
 have hub := r.ub t j
 have hcl : (cut rows lo len).length = len := X3 _ _ _ hle
 have hz' : ∀ x ∈ cut rows lo len, x.length = size := fun x hx => hz x (List.mem_of_mem_drop (List.mem_of_mem_take hx))
 by_cases hpos : 0 < len
 ·obtain ⟨b, cap0, hh, rfl⟩ := hb hpos
  rcases hown with ⟨hn, _⟩ | ⟨g, cap', cur, hv', _, hgg, hnc, hmx, hcs, htk⟩
  ·rw [hh] at hn; cases hn
  ·rw [hh] at hv'
   cases hv'
   have key : ∀ k d, (cut rows lo len).flatten[k]? = some d → ∃ u, w.cell? ⟨b, lo * size + k, none⟩ = some u ∧ T b (lo * size + k) ∧ Rd T w u d := by
    intro k d hd
    have hd' := zL rows size lo len hz k d hd
    obtain ⟨u, hu, hr⟩ := hal.get' _ _ hd'
    have hlt : lo * size + k < rows.length * size := by
     have := (List.getElem?_eq_some_iff.1 hd').1
     rw [YH rows size hz] at this; exact this
    refine ⟨u, KS hgg _ _ ?_, hT2 b _ (hub b (by rw [ho]; simp) (by rw [hh]; rfl)), hr⟩
    rw [← htk, List.getElem?_take, if_pos hlt] at hu
    exact hu
   refine .sl ⟨b, lo * size, none⟩ len cap size _ (fun k => (w.cell? ⟨b, lo * size + k, none⟩).getD undef) hcl hcap hcm hz' (fun _ => rfl) (fun k d hd => ?_) (fun k d hd => ?_)
   ·obtain ⟨u, hu, ht, _⟩ := key k d hd
    rw [hu]; exact ⟨rfl, ht⟩
   ·obtain ⟨u, hu, _, hr⟩ := key k d hd
    rw [hu]; exact hr
 ·have h0' : len = 0 := by omega
  subst h0'
  have hnil : cut rows lo 0 = [] := by simp [cut]
  rw [hnil]
  cases base with
  | none => have := hnn rfl; subst this; exact .nil _
  | some ad => exact .sl ad 0 cap size [] (fun _ => undef) rfl hcap hcm (by intro r hr; cases hr) (by simp) (by simp) (by simp)
end
end Go.Vm
namespace Go.Vm
open Go.RowKit
def D.LG : D → Prop
 | .sl _ rows => ∀ r ∈ rows, ∀ d ∈ r, d.scalar = true
 | _ => True
def QS (own : Bool) (res : List (List D)) : Prop := ∀ r ∈ res, ∀ d ∈ r, if own = true then d.LG else d.scalar = true
theorem Rd.scalar {T T' : CS} {w : World} {v : Value} {d : D} (hd : d.scalar = true) (r : Rd T w v d) : Rd T' w v d := by
 cases r with
 | int k n => exact .int k n
 | bool b => exact .bool b
 | str s => exact .str s
 | nil => cases hd
 | sl => cases hd
theorem Xk.flat {T T' : CS} {w : World} {v : Value} {d : D} (hd : d.LG) (r : Xk T w v d) : Xk T' w v d := by
 cases d with
 | sl size rows =>
  obtain ⟨e, xs, ho, hz, hal⟩ := r
  refine ⟨e, xs, ho, hz, ?_⟩
  refine Zs.zk hal.length (fun i x d hx hd' => ?_)
  obtain ⟨d2, hd2, hr⟩ := hal.get i x hx
  rw [hd'] at hd2; cases hd2
  have hm : d ∈ rows.flatten := List.mem_of_getElem? hd'
  obtain ⟨r0, hr0, hdr⟩ := List.mem_flatten.1 hm
  exact Rd.scalar (hd r0 hr0 d hdr) hr
 | int k n => exact Rd.scalar rfl r
 | bool b => exact Rd.scalar rfl r
 | str s => exact Rd.scalar rfl r
theorem Wf {w : World} {e : TypeId} {size : Nat} {v : Value} {n : Nat} {xs : List Value} (ho : w.ownsRow 0 e size v n xs) : Fc v size n 0 n v := by
 refine ⟨by omega, fun _ _ => rfl, ?_, ?_⟩
 ·intro _
  rcases ho.2 with ⟨rfl, rfl⟩ | ⟨g, cap, cur, rfl, _⟩ <;> rfl
 rcases ho.2 with ⟨rfl, rfl⟩ | ⟨g, cap, cur, rfl, _, _, hnc, hmx, _, _⟩
 ·exact ⟨none, 0, rfl, by omega, by simp [maxLen], fun _ => rfl, fun hh => by omega⟩
 ·exact ⟨_, cap, rfl, hnc, hmx, (fun hh => by cases hh), fun _ => ⟨g, cap, rfl, by simp⟩⟩
theorem Jn {w : World} {e : TypeId} {size : Nat} {v : Value} {n : Nat} {xs : List Value} (ho : w.ownsRow 0 e size v n xs) : v.oneCell' = true := by
 rcases ho.2 with ⟨rfl, rfl⟩ | ⟨g, cap, cur, rfl, _⟩ <;> rfl
theorem Xk.XP {T : CS} {w : World} {v : Value} {d : D} (r : Xk T w v d) : v.oneCell' = true := by
 cases d with
 | sl size rows => obtain ⟨e, xs, ho, _⟩ := r; exact Jn ho
 | int k n => exact Rd.XP r
 | bool b => exact Rd.XP r
 | str s => exact Rd.XP r
theorem Xk.rd {T T' : CS} {w : World} {v : Value} {d : D} (r : Xk T w v d) (h1 : ∀ b k, T b k → T' b k) (h2 : d.scalar = false → ∀ b k, blk v = some b → T' b k) : Rd T' w v d := by
 cases d with
 | sl size rows =>
  obtain ⟨e, xs, ⟨hl, hown⟩, hz, hal⟩ := r
  rcases hown with ⟨rfl, hn⟩ | ⟨g, cap, cur, rfl, _, hh, hnc, hmx, hcs, htk⟩
  ·have : rows = [] := List.eq_nil_of_length_eq_zero hn
   subst this; exact .nil _
  ·refine .sl ⟨g, 0, none⟩ _ cap size rows (fun k => (xs[k]?).getD undef) rfl hnc hmx hz (fun _ => rfl) (fun k d hd => ?_) (fun k d hd => ?_)
   ·obtain ⟨u, hu, _⟩ := hal.get' k d hd
    have hlt : k < rows.length * size := by
     have := (List.getElem?_eq_some_iff.1 hd).1
     rw [YH rows size hz] at this; exact this
    rw [hu]
    refine ⟨?_, h2 rfl g _ rfl⟩
    simp only [Nat.zero_add]
    refine KS hh _ _ ?_
    rw [← htk, List.getElem?_take, if_pos hlt] at hu
    exact hu
   ·obtain ⟨u, hu, hr⟩ := hal.get' k d hd
    rw [hu]; exact Rd.mono (fun b k v hb hc => ⟨hc, h1 b k hb⟩) hr
 | int k n => exact Rd.scalar rfl r
 | bool b => exact Rd.scalar rfl r
 | str s => exact Rd.scalar rfl r
section
variable {P : Program} {T0 : CS} {B : Nat → Prop} {σ : St} {a : Act} {w w' : World} {X X' : Nat → Prop} {h : Nat → Nat → Hd}
theorem Rel.JR (r : Rel T0 B σ a w X h) {x : At} {v : Value} {d : D} (hd : JR σ x = some d) (hv : Z3 (Tof T0 X) h σ.ob w x v) (st : Bool) (hst : st = true → x.My = true) :
  Rd (if st then Tof T0 X else VI T0 X h σ) w v d := by
 cases x with
 | d x => simp [Vm.JR] at hd; subst hd; cases st <;> simp <;> first | exact hv | exact Rd.mono (fun b k v hb hc => ⟨hc, .inl hb⟩) hv
 | nil s => simp [Vm.JR] at hd; subst hd; cases hv; exact .nil _
 | sref t j lo len =>
  cases st with
  | true => have := hst rfl; simp [At.My] at this
  | false =>
   simp only [Vm.JR] at hd
   split at hd
   ·rename_i q size rows ho
    cases hd
    exact r.GS ho hv _ (fun b k hb => .inl hb) (fun b k hb => .inr ⟨t, j, _, size, rows, ho, hb⟩)
   ·cases hd
 | any => simp [Vm.JR] at hd
 | ptr => simp [Vm.JR] at hd
 | bptr => simp [Vm.JR] at hd
 | fn => simp [Vm.JR] at hd
 | rptr => simp [Vm.JR] at hd
 | tref => simp [Vm.JR] at hd
theorem Rel.rowOf (r : Rel T0 B σ a w X h) (st : Bool) : ∀ {xs : List At} {vs : List Value} {ds : List D}, rowOf σ xs = some ds → Zs (Z3 (Tof T0 X) h σ.ob w) xs vs → (st = true → Qb xs = true) →
  Zs (Rd (if st then Tof T0 X else VI T0 X h σ) w) vs ds
 | [], _, ds, hd, hal, _ => by cases hal; simp [Vm.rowOf] at hd; subst hd; exact .nil
 | x :: xs, _, ds, hd, hal, hst => by
  cases hal with
  | cons hx hal =>
   simp only [Vm.rowOf] at hd
   split at hd
   ·rename_i d ds' h1 h2
    cases hd
    refine .cons (r.JR h1 hx st (fun hs => ?_)) (Rel.rowOf r st h2 hal (fun hs => ?_))
    ·have := hst hs; simp [Qb] at this; exact this.1
    ·have := hst hs; simp [Qb] at this; exact this.2
   ·cases hd
theorem Rel.QQ (r : Rel T0 B σ a w X h) (st : Bool) {v : V} {val : Value} {row : List D} (hr : v.QQ σ = some row) (hv : XO (Tof T0 X) h σ.ob w v val) (hst : st = true → Qb v.cells = true) :
  ∃ cs, QN val cs ∧ Zs (Rd (if st then Tof T0 X else VI T0 X h σ) w) cs row := by
 cases v with
 | one x => exact ⟨[val], .inl ⟨val, rfl, rfl, Z3.XP (show Z3 _ _ _ _ _ _ from hv)⟩, r.rowOf st (xs := [x]) hr (.cons hv .nil) hst⟩
 | agg xs =>
  obtain ⟨cs, rfl, hal⟩ := hv
  have hl := hal.length
  match xs, hr, hal, hl, hst with
  | [], hr, hal, hl, hst => exact ⟨cs.toList, .inr ⟨by rw [← hl]; simp, by simp⟩, r.rowOf st hr hal hst⟩
  | [_], hr, _, _, _ => simp [V.QQ] at hr
  | x :: y :: xs, hr, hal, hl, hst => exact ⟨cs.toList, .inr ⟨by rw [← hl]; simp, by simp⟩, r.rowOf st hr hal hst⟩
 | any => simp [V.QQ] at hr
 | tup xs => simp [V.QQ] at hr
 | cnd g x => simp [V.QQ] at hr
 | fix u x => simp [V.QQ] at hr
theorem Rel.Y8 (r : Rel T0 B σ a w X h) (st : Bool) : ∀ {xs : List Operand} {ts : List TypeId} {rs : List (List D)}, Y8 P σ xs ts rs → (st = true → YG P σ xs ts = true) →
  Zs (fun v row => ∃ cs, QN v cs ∧ Zs (Rd (if st then Tof T0 X else VI T0 X h σ) w) cs row) (xs.map a.eval) rs
 | [], _, rs, hr, _ => by cases hr; exact .nil
 | x :: xs, [], rs, hr, _ => hr.elim
 | x :: xs, t :: ts, rs, hr, hst => by
  obtain ⟨hg, row, rest, h1, h2, rfl⟩ := hr
  refine .cons (r.QQ st h1 (r.arg t x rfl hg) (fun hs => ?_)) (Rel.Y8 r st h2 (fun hs => ?_))
  ·have := hst hs; simp [YG] at this; exact this.1
  ·have := hst hs; simp [YG] at this; exact this.2
theorem qB {o : Oper} {c : Call} {f : FuncId} (hop : o.op = .call c) (hc : c.callee = .value (.func f)) (hf : TU P f = true) : (execOp a.eval o).run P w = .ok (.enter f (c.args.toList.map a.eval).toArray) w := by
 unfold TU at hf
 split at hf
 ·rename_i fn hfn
  simp only [Bool.and_eq_true, bne_iff_ne, ne_eq] at hf
  obtain ⟨cd, hb⟩ := Option.isSome_iff_exists.1 hf.1
  obtain ⟨callee, args, ats⟩ := c
  simp only at hc; subst hc
  have hm : (args.toList.map a.eval).toArray = args.map a.eval := by apply Array.toList_inj.1; simp
  rw [hm]
  simp [execOp, hop, resolve, Act.eval, Deferred.ofValue, invoke, callFunc, hfn, hf.2, hb]
 ·cases hf
end
end Go.Vm
namespace Go.Vm
open Go.RowKit
section
variable {P : Program} {T0 : CS} {B : Nat → Prop} {σ : St} {a : Act} {w w' : World} {X X' : Nat → Prop} {h : Nat → Nat → Hd}
theorem Below.grownBy (hb : Below w.heap.size w w') : w.grownBy w' none := ⟨hb.os, hb.tape, hb.output, hb.size, fun k hk _ => hb.block k hk⟩
theorem UJ {T : CS} {ob : Nat → Nat → Ob} {xs : List At} {v : Value} {cs : List Value} (hf : QN v cs) (hal : Zs (Z3 T h ob w) xs cs) : QP T h ob w (vOf xs) v := by
 have hl := hal.length
 rcases hf with ⟨c, rfl, rfl, h1⟩ | ⟨hne, rfl⟩
 ·cases hal with
  | cons hx hal => cases hal; exact hx
 ·match xs, hal, hl with
  | [], hal, _ => exact ⟨_, rfl, by simpa using hal⟩
  | [x], hal, hl => exact absurd hl.symm (by simpa using hne)
  | x :: y :: xs, hal, _ => exact ⟨_, rfl, by simpa using hal⟩
theorem TZ {T : CS} {ob : Nat → Nat → Ob} {cs : List Value} {row : List D} (hal : Zs (Rd T w) cs row) : Zs (Z3 T h ob w) (row.map .d) cs := by
 induction hal with
 | nil => exact .nil
 | cons r _ ih => exact .cons r ih
theorem HR {T : CS} {ob : Nat → Nat → Ob} {res : List (List D)} {vs : List Value} {css : List (List Value)} (hf : Zs QN vs css) (hal : Zs (fun cs row => Zs (Rd T w) cs row) css res) :
  Zs (QP T h ob w) (res.map fun r => vOf (r.map .d)) vs := by
 induction hf generalizing res with
 | nil => cases hal; exact .nil
 | cons f _ ih => cases hal with
  | cons r hal => exact .cons (UJ f (TZ r)) (ih hal)
theorem G9 {T : CS} {ob : Nat → Nat → Ob} {res : List (List D)} {vs : List Value} {css : List (List Value)} (hf : Zs QN vs css) (hal : Zs (fun cs row => Zs (Rd T w) cs row) css res) :
  XO T h ob w (zx res) (T2 vs) := by
 have hl := HR (h := h) (ob := ob) hf hal
 have h1 := hl.length
 match res, vs, hl, h1 with
 | [r], [v], hl, _ => cases hl with | cons x _ => exact x.up
 | [], [], hl, _ => exact ⟨_, rfl, by simpa using hl⟩
 | r :: r' :: rs, v :: v' :: vs, hl, _ => exact ⟨_, rfl, by simpa using hl⟩
 | [], v :: vs, _, h1 => simp at h1
 | [r], [], _, h1 => simp at h1
 | [r], v :: v' :: vs, _, h1 => simp at h1
 | r :: r' :: rs, [], _, h1 => simp at h1
 | r :: r' :: rs, [v], _, h1 => simp at h1
theorem NV {α β : Type} {R S : α → β → Prop} {l : List (List α)} {m : List (List β)} (hrs : ∀ (a : α) (b : β) (row : List β), row ∈ m → b ∈ row → R a b → S a b) (hal : Zs (fun x y => Zs R x y) l m) : Zs (fun x y => Zs S x y) l m := by
 induction hal with
 | nil => exact .nil
 | @cons x y _ _ hxy _ ih =>
  refine .cons ?_ (ih (fun a b row hr => hrs a b row (by simp [hr])))
  have hmem : ∀ b ∈ y, ∀ a, R a b → S a b := fun b hb a hr => hrs a b y (by simp) hb hr
  clear ih hrs
  induction hxy with
  | nil => exact .nil
  | cons r _ ih2 => exact .cons (hmem _ (by simp) _ r) (ih2 (fun b hb => hmem b (by simp [hb])))
theorem xP (r : Rel T0 B σ a w X h) {o : Oper} {c : Call} {f : FuncId} {d : Nat} {own : Bool} {rows res : List (List D)} (hop : o.op = .call c) (hc : c.callee = .value (.func f)) (hd : o.dst = some d)
  (hargs : Y8 P σ c.args.toList c.argTypes.toList rows) (st : Bool) (hst : st = true → YG P σ c.args.toList c.argTypes.toList = true) (hfl : st = false → QS own res) (hs : XU P f own rows res)
  {K : Act → World → Prop} {Q : Exit → Act → World → Prop} (hK : ∀ a' w', QV T0 B (σ.put d (zx res)) a' w' → Yk B w w' → K a' w') : o.wp P a w K Q := by
 unfold Oper.wp
 rw [qB hop hc hs.1, Oper.upon_enter]
 refine (hs.2 (if st then Tof T0 X else VI T0 X h σ) w _ (fun b k hb => ?_) (r.Y8 st hargs hst)).mono ?_
 ·cases st
  ·exact r.MK hb
  ·exact r.Tlt hb
 ·rintro e w' ⟨vs, css, Y, rfl, hbel, hY, hform, hcells, hap⟩
  have hX' : ∀ b, (X b ∨ (w.heap.size ≤ b ∧ b < w'.heap.size)) → X b ∨ (w.heap.size ≤ b ∧ b < w'.heap.size) := fun b hb => hb
  have r2 := r.grow (X' := fun b => X b ∨ (w.heap.size ≤ b ∧ b < w'.heap.size)) (Below.grownBy hbel) (fun b hb => .inl hb) hX'
  have hcells2 : Zs (fun cs row => Zs (Rd (Tof T0 fun b => X b ∨ (w.heap.size ≤ b ∧ b < w'.heap.size)) w') cs row) css res := by
   -- index by index, with the blocks' bounds at hand
   have hmem : ∀ (i : Nat) (c : Value) (d : D), css.flatten[i]? = some c → res.flatten[i]? = some d → own = true → d.scalar = false → ∀ b, blk c = some b → w.heap.size ≤ b ∧ b < w'.heap.size := by
    intro i c d h1 h2 ho hsc b hb
    have := (hap ho).1 i c d b h1 h2 hsc hb
    exact ⟨this.1, this.2.1⟩
   have conv : ∀ (c : Value) (d : D), (∀ b, own = true → d.scalar = false → blk c = some b → w.heap.size ≤ b ∧ b < w'.heap.size) → (st = false → if own = true then d.LG else d.scalar = true) →
     KP own (Tof (if st then Tof T0 X else VI T0 X h σ) Y) w' c d → Rd (Tof T0 fun b => X b ∨ (w.heap.size ≤ b ∧ b < w'.heap.size)) w' c d := by
    intro c d hblk hfl' hr
    cases own with
    | true =>
     have hr' : Xk (Tof (if st then Tof T0 X else VI T0 X h σ) Y) w' c d := by simpa [KP] using hr
     cases st with
     | true =>
      refine Xk.rd hr' (fun b k hb => ?_) (fun hsc b k hb => .inr (.inr (hblk b rfl hsc hb)))
      rcases hb with hb | hb
      ·rcases (show Tof T0 X b k from by simpa using hb) with hb | hb
       ·exact .inl hb
       ·exact .inr (.inl hb)
      ·exact .inr (.inr (hY b hb))
     | false =>
      exact Xk.rd (Xk.flat (T' := fun _ _ => False) (by simpa using hfl' rfl) hr') (fun b k hb => hb.elim) (fun hsc b k hb => .inr (.inr (hblk b rfl hsc hb)))
    | false =>
     have hr' : Rd (Tof (if st then Tof T0 X else VI T0 X h σ) Y) w' c d := by simpa [KP] using hr
     cases st with
     | true =>
      refine Rd.mono (fun b k v hb hc => ⟨hc, ?_⟩) hr'
      rcases hb with hb | hb
      ·rcases (show Tof T0 X b k from by simpa using hb) with hb | hb
       ·exact .inl hb
       ·exact .inr (.inl hb)
      ·exact .inr (.inr (hY b hb))
     | false => exact Rd.scalar (by simpa using hfl' rfl) hr'
   -- carry 'conv' through the two lists
   have go : ∀ (css : List (List Value)) (res : List (List D)), Zs (fun cs row => Zs (KP own (Tof (if st then Tof T0 X else VI T0 X h σ) Y) w') cs row) css res →
     (∀ (i : Nat) (c : Value) (d : D), css.flatten[i]? = some c → res.flatten[i]? = some d → own = true → d.scalar = false → ∀ b, blk c = some b → w.heap.size ≤ b ∧ b < w'.heap.size) →
     (st = false → QS own res) → Zs (fun cs row => Zs (Rd (Tof T0 fun b => X b ∨ (w.heap.size ≤ b ∧ b < w'.heap.size)) w') cs row) css res := by
    intro css res hal
    induction hal with
    | nil => intro _ _; exact .nil
    | @cons cs row css' res' hrow _ ih =>
     intro hm hf
     have hlen := hrow.length
     refine .cons (Zs.zk hlen (fun i c d hc hd' => ?_)) (ih (fun i c d h1 h2 => ?_) (fun hs r hr => hf hs r (by simp [hr])))
     ·obtain ⟨d2, hd2, hr⟩ := hrow.get i c hc
      rw [hd'] at hd2; cases hd2
      refine conv c d (fun b ho hsc hb => hm i c d ?_ ?_ ho hsc b hb) (fun hs => hf hs row (by simp) d (List.mem_of_getElem? hd')) hr
      ·rw [List.flatten_cons, List.getElem?_append_left (List.getElem?_eq_some_iff.1 hc).1]; exact hc
      ·rw [List.flatten_cons, List.getElem?_append_left (List.getElem?_eq_some_iff.1 hd').1]; exact hd'
     ·refine hm (cs.length + i) c d ?_ ?_
      ·rw [List.flatten_cons, List.getElem?_append_right (by omega)]; simpa using h1
      ·rw [List.flatten_cons, List.getElem?_append_right (by omega), hlen]; simpa using h2
   exact go css res hcells hmem hfl
  rw [hd]
  exact hK _ _ ⟨_, _, r2.put d _ _ (G9 hform hcells2)⟩ (Yk.Rt hbel r.hB)
end
end Go.Vm
namespace Go.Vm
open Go.RowKit
section
variable {P : Program} {T0 : CS} {B : Nat → Prop} {σ : St} {a : Act} {w w' : World} {X X' : Nat → Prop} {h : Nat → Nat → Hd}
theorem jj : ∀ (ds : List D) (k : Nat), YL (J1 ds) k = (match ds[k]? with | some (.sl size rows) => .arr false size rows | _ => .none)
 | [], k => by simp [J1, YL]
 | d :: ds, 0 => by cases d <;> simp [J1, YL]
 | d :: ds, k + 1 => by
  have := jj ds k
  cases d <;> simpa [J1, YL] using this
def xJ (T : CS) (w : World) (v : Value) : D → Prop
 | .sl size rows => ∃ e xs, w.ownsRow 0 e size v rows.length xs
 | d => Rd T w v d
theorem Xk.top {T : CS} {v : Value} {d : D} (r : Xk T w v d) : xJ T w v d := by
 cases d with
 | sl size rows => obtain ⟨e, xs, ho, _⟩ := r; exact ⟨e, xs, ho⟩
 | int k n => exact r
 | bool b => exact r
 | str s => exact r
theorem xJ.XP {T : CS} {v : Value} {d : D} (r : xJ T w v d) : v.oneCell' = true := by
 cases d with
 | sl size rows => obtain ⟨e, xs, ho⟩ := r; exact Jn ho
 | int k n => exact Rd.XP r
 | bool b => exact Rd.XP r
 | str s => exact Rd.XP r
theorem VK {T : CS} {ob : Nat → Nat → Ob} {t : Nat} : ∀ {ds : List D} {cs : List Value} {k : Nat}, Zs (xJ T w) cs ds →
  (∀ i size rows, ds[i]? = some (.sl size rows) → ∃ q, ob t (k + i) = .arr q size rows) → (∀ i c, cs[i]? = some c → (h t (k + i)).v = c) → Zs (Z3 T h ob w) (X8 t k ds) cs
 | [], _, k, hal, _, _ => by cases hal; exact .nil
 | d :: ds, _, k, hal, ho, hh => by
  cases hal with
  | @cons c _ cs _ hc hal =>
   have ih := VK (k := k + 1) hal (fun i size rows hi => by have := ho (i + 1) size rows (by simpa using hi); rw [show k + 1 + i = k + (i + 1) by omega]; exact this)
    (fun i c' hc' => by have := hh (i + 1) c' (by simpa using hc'); rw [show k + 1 + i = k + (i + 1) by omega]; exact this)
   cases d with
   | sl size rows =>
    obtain ⟨q0, h0⟩ := ho 0 size rows (by simp)
    have h1 := hh 0 c (by simp)
    rw [Nat.add_zero] at h0 h1
    refine .cons ⟨xJ.XP hc, fun q' size' rows' ho' => ?_, fun size' rows' ho' => by rw [h0] at ho'; cases ho'⟩ ih
    rw [h0] at ho'; cases ho'
    obtain ⟨e, xs, hown⟩ := hc
    rw [h1]; exact Wf hown
   | int k' n => exact .cons hc ih
   | bool b => exact .cons hc ih
   | str s => exact .cons hc ih
theorem Gc {T : CS} {ob : Nat → Nat → Ob} {t : Nat} {vs : List Value} {css : List (List Value)} (hf : Zs QN vs css) : ∀ {res : List (List D)} {k : Nat}, Zs (fun cs row => Zs (xJ T w) cs row) css res →
  (∀ i size rows, res.flatten[i]? = some (.sl size rows) → ∃ q, ob t (k + i) = .arr q size rows) → (∀ i c, css.flatten[i]? = some c → (h t (k + i)).v = c) → Zs (QP T h ob w) (Nw t k res) vs := by
 induction hf with
 | nil => intro res k hal _ _; cases hal; exact .nil
 | @cons v cs vs' css' f _ ih =>
  intro res k hal ho hh
  cases hal with
  | @cons _ row _ res' r hal =>
   have hlen := r.length
   refine .cons (UJ f (VK r (fun i size rows hi => ho i size rows ?_) (fun i c hc => hh i c ?_))) (ih hal (fun i size rows hi => ?_) (fun i c hc => ?_))
   ·rw [List.flatten_cons, List.getElem?_append_left (List.getElem?_eq_some_iff.1 hi).1]; exact hi
   ·rw [List.flatten_cons, List.getElem?_append_left (List.getElem?_eq_some_iff.1 hc).1]; exact hc
   ·have := ho (row.length + i) size rows (by rw [List.flatten_cons, List.getElem?_append_right (by omega)]; simpa using hi)
    rw [Nat.add_assoc]; exact this
   ·have := hh (row.length + i) c (by rw [List.flatten_cons, List.getElem?_append_right (by omega), ← hlen]; simpa using hc)
    rw [Nat.add_assoc]; exact this
theorem Lq {T : CS} {ob : Nat → Nat → Ob} {t : Nat} {vs : List Value} {css : List (List Value)} {res : List (List D)} (hf : Zs QN vs css) (hal : Zs (fun cs row => Zs (xJ T w) cs row) css res)
  (ho : ∀ i size rows, res.flatten[i]? = some (.sl size rows) → ∃ q, ob t i = .arr q size rows) (hh : ∀ i c, css.flatten[i]? = some c → (h t i).v = c) : XO T h ob w (qv t res) (T2 vs) := by
 have hl := Gc (k := 0) hf hal (by simpa using ho) (by simpa using hh)
 have h1 : res.length = vs.length := by rw [hf.length, hal.length]
 match res, vs, hl, h1 with
 | [r], [v], hl, _ => cases hl with | cons x _ => exact x.up
 | [], [], hl, _ => exact ⟨_, rfl, by simpa using hl⟩
 | r :: r' :: rs, v :: v' :: vs, hl, _ => exact ⟨_, rfl, by simpa using hl⟩
 | [], v :: vs, _, h1 => simp at h1
 | [r], [], _, h1 => simp at h1
 | [r], v :: v' :: vs, _, h1 => simp at h1
 | r :: r' :: rs, [], _, h1 => simp at h1
 | r :: r' :: rs, [v], _, h1 => simp at h1
theorem zm {α β : Type} {R : α → β → Prop} {l : List (List α)} {m : List (List β)} (hal : Zs (fun x y => Zs R x y) l m) : Zs R l.flatten m.flatten := by
 induction hal with
 | nil => exact .nil
 | cons r _ ih => rw [List.flatten_cons, List.flatten_cons]; exact r.append ih
theorem W0 (r : Rel T0 B σ a w X h) {o : Oper} {c : Call} {f : FuncId} {d : Nat} {rows res : List (List D)} (hop : o.op = .call c) (hc : c.callee = .value (.func f)) (hd : o.dst = some d) (hfr : σ.fresh d = true)
  (hargs : Y8 P σ c.args.toList c.argTypes.toList rows) (st : Bool) (hst : st = true → YG P σ c.args.toList c.argTypes.toList = true) (hfl : st = false → QS true res) (hs : XU P f true rows res)
  {K : Act → World → Prop} {Q : Exit → Act → World → Prop} (hK : ∀ a' w', QV T0 B (σ.new d (qv d res) (J1 res.flatten)) a' w' → Yk B w w' → K a' w') : o.wp P a w K Q := by
 have hlt := St.zp hfr
 unfold Oper.wp
 rw [qB hop hc hs.1, Oper.upon_enter]
 refine (hs.2 (if st then Tof T0 X else VI T0 X h σ) w _ (fun b k hb => ?_) (r.Y8 st hargs hst)).mono ?_
 ·cases st
  ·exact r.MK hb
  ·exact r.Tlt hb
 ·rintro e w' ⟨vs, css, Y, rfl, hbel, hY, hform, hcells, hap⟩
  have hap := hap rfl
  have hcells2 : Zs (fun cs row => Zs (Xk (Tof T0 fun b => X b ∨ Y b) w') cs row) css res := by
   refine NV (fun c d row hrow hdr hr => ?_) hcells
   have hr' : Xk (Tof (if st then Tof T0 X else VI T0 X h σ) Y) w' c d := by simpa [KP] using hr
   cases st with
   | true =>
    have hT : ∀ b k, Tof (if true = true then Tof T0 X else VI T0 X h σ) Y b k → Tof T0 (fun b => X b ∨ Y b) b k := by
     intro b k hb
     rcases hb with hb | hb
     ·rcases (show Tof T0 X b k from by simpa using hb) with hb | hb
      ·exact .inl hb
      ·exact .inr (.inl hb)
     ·exact .inr (.inr hb)
    cases d with
    | sl size rows =>
     obtain ⟨e, xs, ho, hz, hal⟩ := hr'
     exact ⟨e, xs, ho, hz, hal.imp fun _ _ => Rd.mono (fun b k v hb hc => ⟨hc, hT b k hb⟩)⟩
    | int k n => exact Rd.scalar rfl hr'
    | bool b => exact Rd.scalar rfl hr'
    | str s => exact Rd.scalar rfl hr'
   | false => exact Xk.flat (by simpa using hfl rfl row hrow d hdr) hr'
  have hflat := zm hcells2
  rw [hd]
  refine hK _ _ ⟨fun b => X b ∨ Y b, fun t j => if t = d then Hd.of ((css.flatten[j]?).getD undef) else h t j, ?_⟩ (Yk.Rt hbel r.hB)
  have hcell : ∀ (j size : Nat) (rows : List (List D)), res.flatten[j]? = some (D.sl size rows) → ∃ c, css.flatten[j]? = some c ∧ Xk (Tof T0 fun b => X b ∨ Y b) w' c (D.sl size rows) := fun j size rows hj => hflat.get' j _ hj
  have hob : ∀ j, (σ.new d (qv d res) (J1 res.flatten)).ob d j = YL (J1 res.flatten) j := fun j => by rw [St.Jh]; simp [hlt]
  have hsl : ∀ j, YL (J1 res.flatten) j ≠ .none → ∃ size rows, res.flatten[j]? = some (D.sl size rows) := by
   intro j hne
   rw [jj] at hne
   split at hne
   ·rename_i size rows hj; exact ⟨size, rows, hj⟩
   ·exact absurd rfl hne
  refine r.new hfr (Below.grownBy hbel) (fun b hb => .inl hb) (fun b hb => hb.imp id (fun hy => hY b hy)) (qv d res) (T2 vs) (J1 res.flatten) (fun j => Hd.of ((css.flatten[j]?).getD undef)) ?_ (fun j => ?_) (fun j b _ hb => hb) (fun j b hne hb => ?_) (fun j j' b hne hne' hb hb' => ?_)
  ·refine Lq hform (NV (fun _ _ _ _ _ hr => Xk.top hr) hcells2) (fun i size rows hi => ⟨false, ?_⟩) (fun i c hi => by simp [hi, Hd.of])
   rw [hob, jj, hi]
  ·rw [jj]
   split
   ·rename_i size rows hj
    obtain ⟨c, hc', hown⟩ := hcell j size rows hj
    obtain ⟨e, xs, ho, hz, hal⟩ := hown
    exact ⟨e, xs, by rw [hc']; exact ho, hz, hal⟩
   ·trivial
  ·obtain ⟨size, rows, hj⟩ := hsl j hne
   obtain ⟨c, hc', _⟩ := hcell j size rows hj
   have hb' : blk c = some b := by simpa [Hd.of, hc'] using hb
   have := hap.1 j c _ b hc' hj rfl hb'
   refine ⟨this.1, ?_, this.2.1⟩
   rintro (hx | hy)
   ·have := r.hX b hx; omega
   ·exact this.2.2 hy
  ·obtain ⟨size, rows, hj⟩ := hsl j hne
   obtain ⟨size', rows', hj'⟩ := hsl j' hne'
   obtain ⟨c, hc', _⟩ := hcell j size rows hj
   obtain ⟨c2, hc2, _⟩ := hcell j' size' rows' hj'
   exact hap.2 j j' c c2 _ _ b hc' hj hc2 hj' rfl rfl (by simpa [Hd.of, hc'] using hb) (by simpa [Hd.of, hc2] using hb')
end
end Go.Vm
namespace Go.Vm
open Go.RowKit
section
variable {P : Program} {T0 : CS} {B : Nat → Prop} {σ : St} {a : Act} {w w' : World} {X X' : Nat → Prop} {h : Nat → Nat → Hd}
theorem Yk.kx {B : Nat → Prop} (hg : w.grownBy w' none) (hB : ∀ b, B b → b < w.heap.size) : Yk B w w' := ⟨hg.os, hg.tape, hg.output, hg.size, fun k hk => hg.block k (hB k hk) (by simp)⟩
theorem Rel.Fq (r : Rel T0 B σ a w X h) {d : Nat} (hf : σ.fresh d = true) (cs : Array Value) (T : TypeId) (xs : List At) (hx : YA d xs = false) (hal : Zs (Z3 (Tof T0 X) h σ.ob w) xs cs.toList) :
  QV T0 B (σ.new d (.one (.bptr d 0)) [.box xs]) (a.put (some d) (.pointer (some ⟨w.heap.size, 0, none⟩))) (w.alloc (.cells cs T)) ∧ Yk B w (w.alloc (.cells cs T)) := by
 have hg := World.grownBy_alloc w (.cells cs T) none
 have hlt := St.zp hf
 have hT : ∀ b k v, Tof T0 X b k → w.cell? ⟨b, k, none⟩ = some v → (w.alloc (.cells cs T)).cell? ⟨b, k, none⟩ = some v ∧ Tof T0 X b k := by
  intro b k v hb hcell
  refine ⟨?_, hb⟩
  rw [World.cell?_of_block (hg.block b (r.Tlt hb) (by simp))]; exact hcell
 refine ⟨⟨X, fun t j => if t = d then Hd.of (.pointer (some ⟨w.heap.size, 0, none⟩)) else h t j, ?_⟩, Yk.kx hg r.hB⟩
 have hob0 : (σ.new d (.one (.bptr d 0)) [.box xs]).ob d 0 = .box xs := by rw [St.Jh]; simp [hlt, YL]
 have hc : ∀ t j, t ≠ d → Cpt h (fun t j => if t = d then Hd.of (.pointer (some ⟨w.heap.size, 0, none⟩)) else h t j) σ.ob (σ.new d (.one (.bptr d 0)) [.box xs]).ob t j := by
  intro t j hne
  have he : (σ.new d (.one (.bptr d 0)) [.box xs]).ob t j = σ.ob t j := by rw [St.Jh, if_neg (fun hh => hne hh.1)]
  exact Cpt.same (by simp [hne]) he
 refine r.new hf hg (fun _ hb => hb) (fun _ hb => .inl hb) _ _ [.box xs] (fun _ => Hd.of (.pointer (some ⟨w.heap.size, 0, none⟩))) ?_ (fun j => ?_) (fun j b _ hb => hb) (fun j b _ hb => ?_) (fun j j' b hne hne' _ _ => ?_)
 ·exact ⟨rfl, fun cells _ => ⟨w.heap.size, by simp [Hd.of], rfl⟩⟩
 ·cases j with
  | zero =>
   refine ⟨w.heap.size, cs, T, rfl, ?_, xf hT hc hx hal⟩
   exact heap_alloc_new w _
  | succ j => simp [YL, JO]
 ·simp [Hd.of, blk] at hb; subst hb
  refine ⟨Nat.le_refl _, fun hx' => ?_, by simp⟩
  have := (r.hX _ hx').2; omega
 ·have : ∀ j, YL [Ob.box xs] j ≠ .none → j = 0 := by
   intro j hj
   cases j with
   | zero => rfl
   | succ j => simp [YL] at hj
  rw [this j hne, this j' hne']
theorem Rel.EB (r : Rel T0 B σ a w X h) {d : Nat} (hf : σ.fresh d = true) (hg : w.grownBy w' none) (v : Value) {size : Nat} {rows : List (List D)}
  (ho : Xk (Tof T0 X) w' v (.sl size rows)) (hb : ∀ b, blk v = some b → w.heap.size ≤ b ∧ b < w'.heap.size) :
  QV T0 B (σ.new d (.one (.sref d 0 0 rows.length)) [.arr false size rows]) (a.put (some d) v) w' ∧ Yk B w w' := by
 have hlt := St.zp hf
 refine ⟨⟨X, fun t j => if t = d then Hd.of v else h t j, ?_⟩, Yk.kx hg r.hB⟩
 have hob0 : (σ.new d (.one (.sref d 0 0 rows.length)) [.arr false size rows]).ob d 0 = .arr false size rows := by rw [St.Jh]; simp [hlt, YL]
 obtain ⟨e, xs, hown, hz, hal⟩ := ho
 refine r.new hf hg (fun _ hb => hb) (fun _ hb => .inl hb) _ _ [.arr false size rows] (fun _ => Hd.of v) ?_ (fun j => ?_) (fun j b _ hb => hb) (fun j b _ hb' => ?_) (fun j j' b hne hne' _ _ => ?_)
 ·refine ⟨Jn hown, fun q' size' rows' ho' => ?_, fun size' rows' ho' => by rw [hob0] at ho'; cases ho'⟩
  rw [hob0] at ho'; cases ho'
  simp only [if_true]
  exact Wf hown
 ·cases j with
  | zero => exact ⟨e, xs, hown, hz, hal⟩
  | succ j => simp [YL, JO]
 ·have := hb b hb'
  refine ⟨this.1, fun hx' => ?_, this.2⟩
  have := (r.hX _ hx').2; omega
 ·have : ∀ j, YL [Ob.arr false size rows] j ≠ .none → j = 0 := by
   intro j hj
   cases j with
   | zero => rfl
   | succ j => simp [YL] at hj
  rw [this j hne, this j' hne']
theorem Rel.Et (r : Rel T0 B σ a w X h) {d : Nat} (hf : σ.fresh d = true) (hg : w.grownBy w' none) (v : Value) {e : TypeId} {size : Nat} {rows : List (List D)} {xs : List Value}
  (hown : w'.ownsRow 0 e size v rows.length xs) (hz : ∀ r ∈ rows, r.length = size) (hal : Qw w' xs rows.flatten (fun _ => False)) (hb : ∀ b, blk v = some b → w.heap.size ≤ b ∧ b < w'.heap.size) :
  QV T0 B (σ.new d (.one (.sref d 0 0 rows.length)) [.arr true size rows]) (a.put (some d) v) w' ∧ Yk B w w' := by
 have hlt := St.zp hf
 refine ⟨⟨X, fun t j => if t = d then ⟨v, fun k => (xs[k]?).getD undef, fun b => blk v = some b⟩ else h t j, ?_⟩, Yk.kx hg r.hB⟩
 have hob0 : (σ.new d (.one (.sref d 0 0 rows.length)) [.arr true size rows]).ob d 0 = .arr true size rows := by rw [St.Jh]; simp [hlt, YL]
 refine r.new hf hg (fun _ hb => hb) (fun _ hb => .inl hb) _ _ [.arr true size rows] (fun _ => ⟨v, fun k => (xs[k]?).getD undef, fun b => blk v = some b⟩) ?_ (fun j => ?_) (fun j b _ hb => hb) (fun j b _ hb' => ?_) (fun j j' b hne hne' _ _ => ?_)
 ·refine ⟨Jn hown, fun q' size' rows' ho' => ?_, fun size' rows' ho' => by rw [hob0] at ho'; cases ho'⟩
  rw [hob0] at ho'; cases ho'
  simp only [if_true]
  exact Wf hown
 ·cases j with
  | zero =>
   obtain ⟨hl, Sk, h1, h2, h3⟩ := hal
   exact ⟨e, xs, hown, hz, ⟨hl, Sk, h1, fun k b hk => (h2 k b hk).elim, h3⟩, fun k x d hx _ _ => by simp [hx]⟩
  | succ j => simp [YL, JO]
 ·have := hb b hb'
  refine ⟨this.1, fun hx' => ?_, this.2⟩
  have := (r.hX _ hx').2; omega
 ·have : ∀ j, YL [Ob.arr true size rows] j ≠ .none → j = 0 := by
   intro j hj
   cases j with
   | zero => rfl
   | succ j => simp [YL] at hj
  rw [this j hne, this j' hne']
theorem Is (r : Rel T0 B σ a w X h) {o : Oper} {T : TypeId} {d : Nat} {row : List At} (hop : o.op = .alloc T) (hd : o.dst = some d) (hf : σ.fresh d = true) (hz : Zp P T = true) (hzr : YW P 12 T = some row) (hrow : YA d row = false)
  {K : Act → World → Prop} {Q : Exit → Act → World → Prop} (hK : ∀ a' w', QV T0 B (σ.new d (.one (.bptr d 0)) [.box row]) a' w' → Yk B w w' → K a' w') : o.wp P a w K Q := by
 obtain ⟨i, z, hi, hzv, hsz, hal⟩ := P3 hz hzr
 have hrun : (execOp a.eval o).run P w = .ok (.value (.pointer (some ⟨w.heap.size, 0, none⟩))) (w.alloc (.cells z.cells T)) := by
  simp [execOp, hop, Instr.alloc, zeroValue, typeInfo, hi, hzv, newVar, newRow]
 unfold Oper.wp
 rw [hrun, Oper.upon_value, hd]
 have := r.Fq hf z.cells T row hrow (hal _ _ _ _)
 exact hK _ _ this.1 this.2
theorem GZ (r : Rel T0 B σ a w X h) {o : Oper} {T : TypeId} {x : Operand} {d : Nat} (hop : o.op = .box T x) (hd : o.dst = some d) (hf : σ.fresh d = true) (hg : gOf (look P σ T x) = true) (hfl : (unc (look P σ T x)).flat = true) (hrow : YA d (unc (look P σ T x)).cells = false)
  {K : Act → World → Prop} {Q : Exit → Act → World → Prop} (hK : ∀ a' w', QV T0 B (σ.new d (.one (.bptr d 0)) [.box (unc (look P σ T x)).cells]) a' w' → Yk B w w' → K a' w') : o.wp P a w K Q := by
 have hal := y2 hfl (r.arg (P := P) T x rfl hg)
 have hrun : (execOp a.eval o).run P w = .ok (.value (.pointer (some ⟨w.heap.size, 0, none⟩))) (w.alloc (.cells (a.eval x).cells T)) := by
  simp [execOp, hop, Instr.box, newVar, newRow]
 unfold Oper.wp
 rw [hrun, Oper.upon_value, hd]
 have := r.Fq hf (a.eval x).cells T _ hrow hal
 exact hK _ _ this.1 this.2
end
end Go.Vm
