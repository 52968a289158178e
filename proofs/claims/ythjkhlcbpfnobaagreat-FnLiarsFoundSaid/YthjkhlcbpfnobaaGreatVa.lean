/- An abstract machine RH the model of Go, by value, and that it is sound: part Va. No condition. -/
import Derived.WalkKit
import Derived.Below
set_option linter.unusedVariables false
set_option linter.unusedSimpArgs false
namespace Go.Vm
inductive D where
 | int (k : IntKind) (n : Int)
 | bool (b : Bool)
 | str (s : ByteArray)
 | sl (size : Nat) (rows : List (List D))
 | unk
 deriving Inhabited
def D.scalar : D -> Bool
 | .sl _ _ => false
 | _ => true
abbrev CS := Nat -> Nat -> Prop
inductive Rd (T : CS) (w : World) : Value -> D -> Prop
 | int (k : IntKind) (n : Int) : Rd T w (.int k n) (.int k n)
 | bool (b : Bool) : Rd T w (.bool b) (.bool b)
 | str (s : ByteArray) : Rd T w (.string s) (.str s)
 | unk (v : Value) (h : v.oneCell' = true) : Rd T w v .unk
 | nil (size : Nat) : Rd T w (.slice none 0 0) (.sl size [])
 | sl (a : Addr) (len cap size : Nat) (rows : List (List D)) (g : Nat -> Value)
   (hl : rows.length = len) (hc : len <= cap) (hm : cap <= maxLen) (hz : ∀ r ∈ rows, r.length = size) (hs : rows.flatten ≠ [] -> a.spot = none)
   (hg : ∀ k d, rows.flatten[k]? = some d -> w.cell? ⟨a.block, a.off + k, none⟩ = some (g k) /\ T a.block (a.off + k))
   (hr : ∀ k d, rows.flatten[k]? = some d -> Rd T w (g k) d) : Rd T w (.slice (some a) len cap) (.sl size rows)
theorem Rd.mono {T T' : CS} {w w' : World} (hT : ∀ b k v, T b k -> w.cell? ⟨b, k, none⟩ = some v -> w'.cell? ⟨b, k, none⟩ = some v /\ T' b k)
  {v : Value} {d : D} (h : Rd T w v d) : Rd T' w' v d := by
 induction h with
 | int k n => exact .int k n
 | bool b => exact .bool b
 | str s => exact .str s
 | unk v h => exact .unk v h
 | nil s => exact .nil s
 | sl a len cap size rows g hl hc hm hz hs hg hr ih =>
  exact .sl a len cap size rows g hl hc hm hz hs (fun k d hk => hT _ _ _ (hg k d hk).2 (hg k d hk).1) (fun k d hk => ih k d hk)
theorem Rd.Y4 {T : CS} {w : World} {v : Value} {d : D} (h : Rd T w v d) : v.oneCell' = true := by
 cases h <;> first | rfl | assumption
inductive At where
 | any
 | d (x : D)
 | nil (size : Nat)
 | sref (t j lo len : Nat)
 | ptr (t j i c : Nat)
 | bptr (t c : Nat)
 | fn (f t : Nat)
 | rptr (r : List D) (c : Nat)
 | tref (t j i c : Nat) (o : Option Nat)
 deriving Inhabited
inductive V where
 | any
 | one (x : At)
 | agg (xs : List At)
 | tup (xs : List V)
 | cnd (g : Bool) (x : V)
 | fix (v : Value) (x : V)
 deriving Inhabited
inductive Ob where
 | none
 | box (cells : List At)
 | arr (q : Bool) (size : Nat) (rows : List (List D))
 | lit (size : Nat) (rows : List (List At))
 deriving Inhabited
structure Hd where
 v : Value
 n : Nat -> Value
 u : Nat -> Prop
abbrev Ent := V × List Ob
abbrev St := List Ent
def St.get (σ : St) (t : Nat) : V := match σ[t]? with | some e => e.1 | none => .any
def Zw (os : List Ob) (j : Nat) : Ob := match os[j]? with | some o => o | none => .none
def St.ob (σ : St) (t j : Nat) : Ob := match σ[t]? with | some e => Zw e.2 j | none => .none
def St.put : St -> Nat -> V -> St
 | [], _, _ => []
 | e :: σ, 0, v => (v, e.2) :: σ
 | e :: σ, t + 1, v => e :: St.put σ t v
def St.ZT : St -> Nat -> Nat -> Ob -> St
 | [], _, _, _ => []
 | e :: σ, 0, j, o => (e.1, e.2.set j o) :: σ
 | e :: σ, t + 1, j, o => e :: St.ZT σ t j o
def St.new : St -> Nat -> V -> List Ob -> St
 | [], _, _, _ => []
 | _ :: σ, 0, v, os => (v, os) :: σ
 | e :: σ, t + 1, v, os => e :: St.new σ t v os
theorem St.Xn (σ : St) (t : Nat) (v : V) : (σ.put t v).length = σ.length := by
 induction σ generalizing t with
 | nil => rfl
 | cons e σ ih => cases t <;> simp [St.put, ih]
theorem St.YR (σ : St) (t j : Nat) (o : Ob) : (σ.ZT t j o).length = σ.length := by
 induction σ generalizing t with
 | nil => rfl
 | cons e σ ih => cases t <;> simp [St.ZT, ih]
theorem St.yA (σ : St) (t : Nat) (v : V) (os : List Ob) : (σ.new t v os).length = σ.length := by
 induction σ generalizing t with
 | nil => rfl
 | cons e σ ih => cases t <;> simp [St.new, ih]
theorem St.JA (σ : St) (t : Nat) (v : V) (u : Nat) : (σ.put t v).get u = if u = t /\ t < σ.length then v else σ.get u := by
 induction σ generalizing t u with
 | nil => simp [St.put, St.get]
 | cons e σ ih =>
  cases t with
  | zero => cases u <;> simp [St.put, St.get]
  | succ t => cases u with
   | zero => simp [St.put, St.get]
   | succ u => have := ih t u; simp only [St.get, St.put] at this ⊢; simpa using this
theorem St.Xl (σ : St) (t : Nat) (v : V) : (σ.put t v).ob = σ.ob := by
 funext u j
 induction σ generalizing t u with
 | nil => simp [St.put, St.ob]
 | cons e σ ih =>
  cases t with
  | zero => cases u <;> simp [St.put, St.ob]
  | succ t => cases u with
   | zero => simp [St.put, St.ob]
   | succ u => have := ih t u; simp only [St.ob, St.put] at this ⊢; simpa using this
theorem St.Y2 (σ : St) (t j : Nat) (o : Ob) (u : Nat) : (σ.ZT t j o).get u = σ.get u := by
 induction σ generalizing t u with
 | nil => simp [St.ZT, St.get]
 | cons e σ ih =>
  cases t with
  | zero => cases u <;> simp [St.ZT, St.get]
  | succ t => cases u with
   | zero => simp [St.ZT, St.get]
   | succ u => have := ih t u; simp only [St.get, St.ZT] at this ⊢; simpa using this
theorem Nv (os : List Ob) (j : Nat) (o : Ob) (i : Nat) : Zw (os.set j o) i = if i = j /\ j < os.length then o else Zw os i := by
 unfold Zw
 rw [List.getElem?_set]
 by_cases h : j = i
 ·subst h
  by_cases h2 : j < os.length
  ·simp [h2]
  ·simp [h2]
 ·simp [h, Ne.symm h]
theorem St.Yj (σ : St) (t j : Nat) (o : Ob) (u i : Nat) (hl : σ.ob t j ≠ .none) : (σ.ZT t j o).ob u i = if u = t /\ i = j then o else σ.ob u i := by
 induction σ generalizing t u with
 | nil => simp [St.ob] at hl
 | cons e σ ih =>
  cases t with
  | zero =>
   have hj : j < e.2.length := by
    simp only [St.ob, List.getElem?_cons_zero, Zw] at hl
    rcases Nat.lt_or_ge j e.2.length with h | h
    ·exact h
    ·simp [List.getElem?_eq_none h] at hl
   cases u with
   | zero => simp [St.ZT, St.ob, Nv, hj]
   | succ u => simp [St.ZT, St.ob]
  | succ t => cases u with
   | zero => simp [St.ZT, St.ob]
   | succ u =>
    have := ih t u (by simpa [St.ob] using hl)
    simp only [St.ob, St.ZT] at this ⊢; simpa using this
theorem St.yn (σ : St) (t : Nat) (v : V) (os : List Ob) (u : Nat) : (σ.new t v os).get u = if u = t /\ t < σ.length then v else σ.get u := by
 induction σ generalizing t u with
 | nil => simp [St.new, St.get]
 | cons e σ ih =>
  cases t with
  | zero => cases u <;> simp [St.new, St.get]
  | succ t => cases u with
   | zero => simp [St.new, St.get]
   | succ u => have := ih t u; simp only [St.get, St.new] at this ⊢; simpa using this
theorem St.Xm (σ : St) (t : Nat) (v : V) (os : List Ob) (u j : Nat) : (σ.new t v os).ob u j = if u = t /\ t < σ.length then Zw os j else σ.ob u j := by
 induction σ generalizing t u with
 | nil => simp [St.new, St.ob]
 | cons e σ ih =>
  cases t with
  | zero => cases u <;> simp [St.new, St.ob]
  | succ t => cases u with
   | zero => simp [St.new, St.ob]
   | succ u => have := ih t u; simp only [St.ob, St.new] at this ⊢; simpa using this
def VU (h : Value) (len : Nat) : Value := match h with | .slice b _ c => .slice b len c | v => v
def Hs (h : Value) (size n lo len : Nat) (v : Value) : Prop :=
 lo + len <= n /\ (len = n -> lo = 0 -> v = h) /\ (lo = 0 -> v = VU h len) /\ ∃ base cap, v = .slice base len cap /\ len <= cap /\ cap <= maxLen /\ (base = none -> cap = 0) /\ (0 < len -> ∃ b tP, h = .slice (some ⟨b, 0, none⟩) n tP /\ base = some ⟨b, lo * size, none⟩)
def DC : Option Nat -> Value -> Value -> Prop
 | none, x, v => v = x
 | some k, x, v => ∃ b n cap, x = .slice (some ⟨b, 0, none⟩) n cap /\ v = .pointer (some ⟨b, k, none⟩)
def Zm (T : CS) (h : Nat -> Nat -> Hd) (ob : Nat -> Nat -> Ob) (w : World) : At -> Value -> Prop
 | .any, v => v.oneCell' = true
 | .d x, v => Rd T w v x
 | .nil _, v => v = .slice none 0 0
 | .sref t j lo len, v => v.oneCell' = true /\ (∀ q size rows, ob t j = .arr q size rows -> Hs (h t j).v size rows.length lo len v) /\ (∀ size rows, ob t j = .lit size rows -> Hs (h t j).v size rows.length lo len v)
 | .ptr t j i c, v => v.oneCell' = true /\ (∀ q size rows, ob t j = .arr q size rows -> ∃ b n cap, (h t j).v = .slice (some ⟨b, 0, none⟩) n cap /\ v = .pointer (some ⟨b, i * size + c, none⟩))
 | .bptr t c, v => v.oneCell' = true /\ ∀ cells, ob t 0 = .box cells -> ∃ b, (h t 0).v = .pointer (some ⟨b, 0, none⟩) /\ v = .pointer (some ⟨b, c, none⟩)
 | .fn f t, v => v.oneCell' = true /\ ∀ cells, ob t 0 = .box cells -> ∃ b, (h t 0).v = .pointer (some ⟨b, 0, none⟩) /\ v = .func (.func f) #[] #[.pointer (some ⟨b, 0, none⟩)]
 | .rptr r c, v => ∃ b off, ∃ g : Nat -> Value, v = .pointer (some ⟨b, off + c, none⟩) /\ ∀ k d, r[k]? = some d -> w.cell? ⟨b, off + k, none⟩ = some (g k) /\ T b (off + k) /\ Rd T w (g k) d
 | .tref t j i c o, v => v.oneCell' = true /\ ∀ size rows, ob t j = .arr true size rows -> DC o ((h t j).n (i * size + c)) v
theorem Zm.Y4 {T : CS} {h : Nat -> Nat -> Hd} {ob : Nat -> Nat -> Ob} {w : World} {x : At} {v : Value} (r : Zm T h ob w x v) : v.oneCell' = true := by
 cases x with
 | any => exact r
 | d x => exact Rd.Y4 r
 | nil s => cases r; rfl
 | sref => exact r.1
 | ptr => exact r.1
 | bptr => exact r.1
 | fn => exact r.1
 | tref => exact r.1
 | rptr r' c => obtain ⟨b, off, g, rfl, _⟩ := r; rfl
inductive Zg {α β : Type} (R : α -> β -> Prop) : List α -> List β -> Prop
 | nil : Zg R [] []
 | cons {a b l m} : R a b -> Zg R l m -> Zg R (a :: l) (b :: m)
theorem Zg.imp {α β : Type} {R S : α -> β -> Prop} (h : ∀ a b, R a b -> S a b) {l : List α} {m : List β} (x : Zg R l m) : Zg S l m := by
 induction x with
 | nil => exact .nil
 | cons r _ ih => exact .cons (h _ _ r) ih
theorem Zg.length {α β : Type} {R : α -> β -> Prop} {l : List α} {m : List β} (x : Zg R l m) : l.length = m.length := by
 induction x with
 | nil => rfl
 | cons r _ ih => simp [ih]
theorem Zg.get {α β : Type} {R : α -> β -> Prop} {l : List α} {m : List β} (x : Zg R l m) : ∀ (i : Nat) (a : α), l[i]? = some a -> ∃ b, m[i]? = some b /\ R a b := by
 induction x with
 | nil => intro i a h; simp at h
 | cons r _ ih =>
  intro i a h
  cases i with
  | zero => simp at h; subst h; exact ⟨_, by simp, r⟩
  | succ i => simpa using ih i a (by simpa using h)
theorem Zg.get' {α β : Type} {R : α -> β -> Prop} {l : List α} {m : List β} (x : Zg R l m) : ∀ (i : Nat) (b : β), m[i]? = some b -> ∃ a, l[i]? = some a /\ R a b := by
 induction x with
 | nil => intro i a h; simp at h
 | cons r _ ih =>
  intro i a h
  cases i with
  | zero => simp at h; subst h; exact ⟨_, by simp, r⟩
  | succ i => simpa using ih i a (by simpa using h)
theorem Zg.KD {α β : Type} {R : α -> β -> Prop} {l : List α} {m : List β} (hl : l.length = m.length) (h : ∀ (i : Nat) (a : α) (b : β), l[i]? = some a -> m[i]? = some b -> R a b) : Zg R l m := by
 induction l generalizing m with
 | nil => cases m with
  | nil => exact .nil
  | cons b m => simp at hl
 | cons a l ih => cases m with
  | nil => simp at hl
  | cons b m => exact .cons (h 0 a b (by simp) (by simp)) (ih (by simpa using hl) (fun i a b ha hb => h (i + 1) a b (by simpa using ha) (by simpa using hb)))
theorem Zg.append {α β : Type} {R : α -> β -> Prop} {l l' : List α} {m m' : List β} (x : Zg R l m) (y : Zg R l' m') : Zg R (l ++ l') (m ++ m') := by
 induction x with
 | nil => exact y
 | cons r _ ih => exact .cons r ih
theorem Zg.take {α β : Type} {R : α -> β -> Prop} {l : List α} {m : List β} (x : Zg R l m) (n : Nat) : Zg R (l.take n) (m.take n) := by
 induction x generalizing n with
 | nil => simpa using Zg.nil
 | cons r _ ih => cases n with
  | zero => simpa using Zg.nil
  | succ n => simpa using Zg.cons r (ih n)
theorem Zg.drop {α β : Type} {R : α -> β -> Prop} {l : List α} {m : List β} (x : Zg R l m) (n : Nat) : Zg R (l.drop n) (m.drop n) := by
 induction x generalizing n with
 | nil => simpa using Zg.nil
 | cons r x ih => cases n with
  | zero => simpa using Zg.cons r x
  | succ n => simpa using ih n
theorem Zg.set {α β : Type} {R : α -> β -> Prop} {l : List α} {m : List β} (x : Zg R l m) (i : Nat) {a : α} {b : β} (r : R a b) : Zg R (l.set i a) (m.set i b) := by
 induction x generalizing i with
 | nil => simpa using Zg.nil
 | cons r' x ih => cases i with
  | zero => simpa using Zg.cons r x
  | succ i => simpa using Zg.cons r' (ih i)
theorem Zg.mem {α β : Type} {R : α -> β -> Prop} {l : List α} {m : List β} (x : Zg R l m) {b : β} (h : b ∈ m) : ∃ a, a ∈ l /\ R a b := by
 obtain ⟨i, hi⟩ := List.mem_iff_getElem?.1 h
 obtain ⟨a, ha, r⟩ := x.get' i b hi
 exact ⟨a, List.mem_of_getElem? ha, r⟩
def Qs (T : CS) (h : Nat -> Nat -> Hd) (ob : Nat -> Nat -> Ob) (w : World) : V -> Value -> Prop
 | .any, _ => True
 | .one x, v => Zm T h ob w x v
 | .agg xs, v => ∃ cs : Array Value, v = .agg cs /\ Zg (Zm T h ob w) xs cs.toList
 | .tup _, _ => False
 | .cnd _ _, _ => False
 | .fix _ _, _ => False
def Xe (T : CS) (h : Nat -> Nat -> Hd) (ob : Nat -> Nat -> Ob) (w : World) : V -> Value -> Prop
 | .tup xs, v => ∃ vs : Array Value, v = .tuple vs /\ Zg (Qs T h ob w) xs vs.toList
 | .cnd g x, v => (g = true -> Qs T h ob w x v) /\ (g = false -> v = undef)
 | .any, _ => True
 | .one x, v => Zm T h ob w x v
 | .agg xs, v => Qs T h ob w (.agg xs) v
 | .fix u x, v => v = u /\ Qs T h ob w x v
theorem Qs.up {T : CS} {h : Nat -> Nat -> Hd} {ob : Nat -> Nat -> Ob} {w : World} {x : V} {v : Value} (r : Qs T h ob w x v) : Xe T h ob w x v := by
 cases x <;> first | exact r | exact r.elim
def blk : Value -> Option Nat
 | .slice (some a) _ _ => some a.block
 | .pointer (some a) => some a.block
 | _ => none
def Hd.of (v : Value) : Hd := ⟨v, fun _ => undef, fun b => blk v = some b⟩
inductive Own (w : World) : Value -> D -> (Nat -> Prop) -> Prop
 | int (k : IntKind) (n : Int) (S : Nat -> Prop) : Own w (.int k n) (.int k n) S
 | bool (b : Bool) (S : Nat -> Prop) : Own w (.bool b) (.bool b) S
 | str (s : ByteArray) (S : Nat -> Prop) : Own w (.string s) (.str s) S
 | unk (v : Value) (h : v.oneCell' = true) (S : Nat -> Prop) : Own w v .unk S
 | sl (v : Value) (size : Nat) (rows : List (List D)) (S : Nat -> Prop) (e : TypeId) (xs : List Value) (Sk : Nat -> Nat -> Prop) (ho : w.ownsRow 0 e size v rows.length xs) (hz : ∀ r ∈ rows, r.length = size)
   (hb : ∀ b, blk v = some b -> S b) (hl : xs.length = rows.flatten.length) (hk : ∀ k x d, xs[k]? = some x -> rows.flatten[k]? = some d -> Own w x d (Sk k))
   (hs : ∀ k b, Sk k b -> S b /\ blk v ≠ some b) (hd : ∀ i j b, Sk i b -> Sk j b -> i = j) : Own w v (.sl size rows) S
def Xz (w : World) (xs : List Value) (ds : List D) (S : Nat -> Prop) : Prop :=
 xs.length = ds.length /\ ∃ Sk : Nat -> Nat -> Prop, (∀ k x d, xs[k]? = some x -> ds[k]? = some d -> Own w x d (Sk k)) /\ (∀ k b, Sk k b -> S b) /\ (∀ i j b, Sk i b -> Sk j b -> i = j)
def Xs (T : CS) (h : Nat -> Nat -> Hd) (ob : Nat -> Nat -> Ob) (w : World) (hd : Hd) : Ob -> Prop
 | .none => True
 | .box cells => ∃ b cs e, hd.v = .pointer (some ⟨b, 0, none⟩) /\ w.heap[b]? = some (.cells cs e (0, 0)) /\ Zg (Zm T h ob w) cells cs.toList
 | .arr false size rows => ∃ e xs, w.ownsRow 0 e size hd.v rows.length xs /\ (∀ r ∈ rows, r.length = size) /\ Zg (Rd T w) xs rows.flatten
 | .arr true size rows => ∃ e xs, w.ownsRow 0 e size hd.v rows.length xs /\ (∀ r ∈ rows, r.length = size) /\ Xz w xs rows.flatten (fun b => hd.u b /\ blk hd.v ≠ some b) /\ (∀ k x d, xs[k]? = some x -> rows.flatten[k]? = some d -> d.scalar = false -> hd.n k = x)
 | .lit size rows => ∃ e xs, w.ownsRow 0 e size hd.v rows.length xs /\ (∀ r ∈ rows, r.length = size) /\ Zg (Zm T h ob w) rows.flatten xs
def Tof (T0 : CS) (X : Nat -> Prop) : CS := fun b k => T0 b k \/ X b
structure YQ (B : Nat -> Prop) (w w' : World) : Prop where
 os : w'.os = w.os
 tape : w'.tape = w.tape
 output : w'.output = w.output
 size : w.heap.size <= w'.heap.size
 block : ∀ k, B k -> w'.heap[k]? = w.heap[k]?
theorem YQ.refl (B : Nat -> Prop) (w : World) : YQ B w w := ⟨rfl, rfl, rfl, Nat.le_refl _, fun _ _ => rfl⟩
theorem YQ.trans {B : Nat -> Prop} {a b c : World} (h : YQ B a b) (k : YQ B b c) : YQ B a c :=
 ⟨k.os.trans h.os, k.tape.trans h.tape, k.output.trans h.output, Nat.le_trans h.size k.size, fun i hi => (k.block i hi).trans (h.block i hi)⟩
theorem YQ.Vy {B : Nat -> Prop} {w w' : World} (h : RowKit.Below w.heap.size w w') (hB : ∀ b, B b -> b < w.heap.size) : YQ B w w' := ⟨h.os, h.tape, h.output, h.size, fun k hk => h.block k (hB k hk)⟩
structure Rel (T0 : CS) (B : Nat -> Prop) (σ : St) (a : Act) (w : World) (X : Nat -> Prop) (h : Nat -> Nat -> Hd) : Prop where
 size : a.tmps.size = σ.length
 defers : a.defers = []
 hB : ∀ b, B b -> b < w.heap.size
 hX : ∀ b, X b -> ¬ B b /\ b < w.heap.size
 hT : ∀ b k, T0 b k -> B b
 slot : ∀ t, t < σ.length -> Xe (Tof T0 X) h σ.ob w (σ.get t) (a.tmps.getD t undef)
 obj : ∀ t j, Xs (Tof T0 X) h σ.ob w (h t j) (σ.ob t j)
 ub : ∀ t j b, σ.ob t j ≠ .none -> blk (h t j).v = some b -> (h t j).u b
 own : ∀ t j b, σ.ob t j ≠ .none -> (h t j).u b -> ¬ B b /\ ¬ X b /\ b < w.heap.size
 inj : ∀ t j t' j' b, σ.ob t j ≠ .none -> σ.ob t' j' ≠ .none -> (h t j).u b -> (h t' j').u b -> t = t' /\ j = j'
def X6 (T0 : CS) (B : Nat -> Prop) (σ : St) (a : Act) (w : World) : Prop := ∃ X h, Rel T0 B σ a w X h
theorem Rel.F6 {T0 : CS} {B : Nat -> Prop} {σ : St} {a : Act} {w : World} {X : Nat -> Prop} {h : Nat -> Nat -> Hd} (r : Rel T0 B σ a w X h) {t j b : Nat} (ho : σ.ob t j ≠ .none) (hb : blk (h t j).v = some b) : ¬ B b /\ ¬ X b /\ b < w.heap.size :=
 r.own t j b ho (r.ub t j b ho hb)
section
variable {T T' : CS} {h h' : Nat -> Nat -> Hd} {ob uE : Nat -> Nat -> Ob} {w w' : World}
theorem Zm.mono (hT : ∀ b k v, T b k -> w.cell? ⟨b, k, none⟩ = some v -> w'.cell? ⟨b, k, none⟩ = some v /\ T' b k) {x : At} {v : Value}
  (r : Zm T h ob w x v) : Zm T' h ob w' x v := by
 cases x with
 | any => exact r
 | d x => exact Rd.mono hT r
 | nil s => exact r
 | sref t j lo len => exact r
 | ptr t j i c => exact r
 | bptr t c => exact r
 | fn f t => exact r
 | tref t j i c o => exact r
 | rptr rr c =>
  obtain ⟨b, off, g, e, hk⟩ := r
  exact ⟨b, off, g, e, fun k d hd => ⟨(hT _ _ _ (hk k d hd).2.1 (hk k d hd).1).1, (hT _ _ _ (hk k d hd).2.1 (hk k d hd).1).2, Rd.mono hT (hk k d hd).2.2⟩⟩
theorem Qs.mono (hT : ∀ b k v, T b k -> w.cell? ⟨b, k, none⟩ = some v -> w'.cell? ⟨b, k, none⟩ = some v /\ T' b k) {x : V} {v : Value}
  (r : Qs T h ob w x v) : Qs T' h ob w' x v := by
 cases x with
 | any => exact r
 | one x => exact Zm.mono hT r
 | agg xs => obtain ⟨cs, e, r⟩ := r; exact ⟨cs, e, r.imp fun _ _ => Zm.mono hT⟩
 | tup xs => exact r.elim
 | cnd g x => exact r.elim
 | fix u x => exact r.elim
theorem Xe.mono (hT : ∀ b k v, T b k -> w.cell? ⟨b, k, none⟩ = some v -> w'.cell? ⟨b, k, none⟩ = some v /\ T' b k) {x : V} {v : Value}
  (r : Xe T h ob w x v) : Xe T' h ob w' x v := by
 cases x with
 | any => exact r
 | one x => exact Zm.mono hT r
 | agg xs => exact Qs.mono (x := .agg xs) hT r
 | tup xs => obtain ⟨vs, e, r⟩ := r; exact ⟨vs, e, r.imp fun _ _ => Qs.mono hT⟩
 | cnd g x => exact ⟨fun hg => Qs.mono hT (r.1 hg), r.2⟩
 | fix u x => exact ⟨r.1, Qs.mono hT r.2⟩
end
end Go.Vm
namespace Go.Vm
def unc : V -> V
 | .cnd _ x => x
 | .fix _ x => x
 | x => x
def gOf : V -> Bool
 | .cnd g _ => g
 | _ => true
def ZH (P : Program) (t : TypeId) : TypeId :=
 match P.underlying t with
 | some (.slice e) => e
 | some (.array _ e) => e
 | _ => 0
def YS (P : Program) (t : TypeId) : Bool :=
 match P.underlying t with
 | some (.slice e) => (P.info? e).isSome
 | _ => false
def T8 (P : Program) (t : TypeId) : Option Nat :=
 match P.underlying t with
 | some (.array n e) => if (P.info? e).isSome then some n else none
 | _ => none
def qc (P : Program) (t : TypeId) : Bool :=
 match P.underlying t with
 | some (.struct _) | some (.array _ _) => true
 | _ => false
def Kg (P : Program) (t : TypeId) : Bool :=
 (P.underlying t).isSome && (P.info? t).isSome && (qc P t || P.cellsOf t == 1)
def XS (P : Program) (t : TypeId) (f : Nat) : Nat :=
 match P.underlying t with
 | some (.struct fs) => (match fs[f]? with | some fd => fd.offset | none => 0)
 | _ => 0
def Kk (P : Program) (t : TypeId) (f : Nat) : TypeId :=
 match P.underlying t with
 | some (.struct fs) => (match fs[f]? with | some fd => fd.type | none => 0)
 | _ => 0
def zd (P : Program) (t : TypeId) (f : Nat) : Bool :=
 match P.underlying t with
 | some (.struct fs) => (match fs[f]? with | some fd => (P.info? fd.type).isSome && decide (P.cellsOf fd.type ≠ 0) | none => false)
 | _ => false
def My (P : Program) (t : TypeId) : Option IntKind :=
 match P.underlying t with
 | some (.int k) => some k
 | _ => none
def jT (P : Program) (t : TypeId) : Bool :=
 match P.underlying t with
 | some .string => true
 | _ => false
def Uv (P : Program) (t : TypeId) : Bool :=
 match P.underlying t with
 | some .bool => true
 | _ => false
def cst (P : Program) (ty : TypeId) : Value -> V
 | .int k n => .one (.d (.int k n))
 | .bool b => .one (.d (.bool b))
 | .string s => .one (.d (.str s))
 | .slice none 0 0 => .one (.nil (P.cellsOf (ZH P ty)))
 | _ => .any
def look (P : Program) (σ : St) (ty : TypeId) : Operand -> V
 | .tmp t => σ.get t
 | .const v => cst P ty v
 | _ => .any
section
variable {P : Program} {T0 : CS} {B : Nat -> Prop} {σ : St} {a : Act} {w : World} {X : Nat -> Prop} {h : Nat -> Nat -> Hd}
theorem Rel.get (r : Rel T0 B σ a w X h) (t : Nat) : Xe (Tof T0 X) h σ.ob w (σ.get t) (a.tmps.getD t undef) := by
 rcases Nat.lt_or_ge t σ.length with hl | hl
 ·exact r.slot t hl
 ·simp [St.get, List.getElem?_eq_none hl, Xe]
theorem G3 (T : CS) (h : Nat -> Nat -> Hd) (ob : Nat -> Nat -> Ob) (w : World) (ty : TypeId) (v : Value) : Xe T h ob w (cst P ty v) v := by
 unfold cst
 split
 ·exact .int _ _
 ·exact .bool _
 ·exact .str _
 ·rfl
 ·trivial
theorem Rel.look (r : Rel T0 B σ a w X h) (ty : TypeId) (x : Operand) : Xe (Tof T0 X) h σ.ob w (look P σ ty x) (a.eval x) := by
 cases x with
 | tmp t => exact r.get t
 | const v => exact G3 _ _ _ _ _ _
 | global g => trivial
 | func f => trivial
theorem Xe.unc {T : CS} {h : Nat -> Nat -> Hd} {ob : Nat -> Nat -> Ob} {w : World} {x : V} {v : Value} (r : Xe T h ob w x v) (hg : gOf x = true) : Xe T h ob w (unc x) v := by
 cases x with
 | cnd g x => exact Qs.up (r.1 hg)
 | fix u x => exact Qs.up r.2
 | _ => exact r
theorem Rel.arg (r : Rel T0 B σ a w X h) (ty : TypeId) (x : Operand) {v : V} (he : Vm.unc (Vm.look P σ ty x) = v) (hg : gOf (Vm.look P σ ty x) = true) : Xe (Tof T0 X) h σ.ob w v (a.eval x) := by
 subst he
 exact (r.look ty x).unc hg
theorem Rel.put (r : Rel T0 B σ a w X h) (d : Nat) (v : V) (val : Value) (hv : Xe (Tof T0 X) h σ.ob w v val) : Rel T0 B (σ.put d v) (a.put (some d) val) w X h := by
 refine ⟨by simp [Act.put, r.size, St.Xn], r.defers, r.hB, r.hX, r.hT, fun t ht => ?_, fun t j => ?_, fun t j b => ?_, fun t j b => ?_, fun t j t' j' b => ?_⟩
 ·rw [St.Xl, St.JA]
  rw [St.Xn] at ht
  by_cases hd : t = d /\ d < σ.length
  ·obtain ⟨rfl, hl⟩ := hd
   simp only [hl, and_self, if_true]
   have : (a.tmps.setIfInBounds t val).getD t undef = val := by simp [r.size, hl]
   simp only [Act.put, this]; exact hv
  ·rw [if_neg hd]
   have wB : d ≠ t := fun e => hd ⟨e.symm, e ▸ ht⟩
   have : (a.tmps.setIfInBounds d val).getD t undef = a.tmps.getD t undef := by simp [Array.getElem?_setIfInBounds_ne wB]
   simp only [Act.put, this]; exact r.slot t ht
 ·rw [St.Xl]; exact r.obj t j
 ·rw [St.Xl]; exact r.ub t j b
 ·rw [St.Xl]; exact r.own t j b
 ·rw [St.Xl]; exact r.inj t j t' j' b
end
def ldV (P : Program) (T : TypeId) (xs : List At) : V := if qc P T then .agg xs else (match xs with | [x] => .one x | _ => .any)
def PS (k : IntKind) (x y : Int) : Int := k.wrap (BitVec.ofInt k.bits x &&& BitVec.ofInt k.bits y).toNat
def iOr (k : IntKind) (x y : Int) : Int := k.wrap (BitVec.ofInt k.bits x ||| BitVec.ofInt k.bits y).toNat
def H6 (k : IntKind) (x y : Int) : Int := k.wrap (BitVec.ofInt k.bits x ^^^ BitVec.ofInt k.bits y).toNat
def RR (op : BinOp) (k : IntKind) (x y : Int) (v : V) : Prop :=
 match op with
 | .eql => v = .one (.d (.bool (x == y)))
 | .neq => v = .one (.d (.bool (x != y)))
 | .lss => v = .one (.d (.bool (decide (x < y))))
 | .leq => v = .one (.d (.bool (decide (x <= y))))
 | .gtr => v = .one (.d (.bool (decide (x > y))))
 | .geq => v = .one (.d (.bool (decide (x >= y))))
 | .add => v = .one (.d (.int k (k.wrap (x + y))))
 | .sub => v = .one (.d (.int k (k.wrap (x - y))))
 | .mul => v = .one (.d (.int k (k.wrap (x * y))))
 | .quo => y ≠ 0 /\ v = .one (.d (.int k (k.wrap (x.tdiv y))))
 | .rem => y ≠ 0 /\ v = .one (.d (.int k (x.tmod y)))
 | .and => v = .one (.d (.int k (PS k x y)))
 | .or => v = .one (.d (.int k (iOr k x y)))
 | .xor => v = .one (.d (.int k (H6 k x y)))
 | .shl => 0 <= y /\ v = .one (.d (.int k (k.wrap (x * 2 ^ (min y.toNat k.bits)))))
 | .shr => 0 <= y /\ v = .one (.d (.int k (x.fdiv (2 ^ (min y.toNat k.bits)))))
 | _ => False
def SB (op : BinOp) (x y : ByteArray) (v : V) : Prop :=
 match op with
 | .add => ((x.size + y.size : Nat) : Int) <= 9223372036854775807 /\ v = .one (.d (.str (x ++ y)))
 | .eql => v = .one (.d (.bool (decide (x = y))))
 | .neq => v = .one (.d (.bool (!decide (x = y))))
 | _ => False
def Vz (op : BinOp) (x y : Bool) (v : V) : Prop :=
 match op with
 | .eql => v = .one (.d (.bool (x == y)))
 | .neq => v = .one (.d (.bool (!(x == y))))
 | _ => False
theorem Mm {P : Program} {op : BinOp} {k : IntKind} {x y : Int} {v : V} {t : TypeId} {kk : IntKind} (hk : (op = .shl \/ op = .shr) \/ kk = k) (hb : RR op k x y v) (w : World) :
  ∃ d, v = .one (.d d) /\ ∃ val, (binOp op t (.int k x) (.int kk y)).run P w = .ok val w /\ ∀ T w', Rd T w' val d := by
 cases op <;> simp only [RR] at hb
 case shl => obtain ⟨h0, rfl⟩ := hb; exact ⟨_, rfl, _, by simp [binOp, Op.shift, Int.not_lt.2 h0], fun _ _ => .int _ _⟩
 case shr => obtain ⟨h0, rfl⟩ := hb; exact ⟨_, rfl, _, by simp [binOp, Op.shift, Int.not_lt.2 h0], fun _ _ => .int _ _⟩
 all_goals (have fH : kk = k := by rcases hk with (hk | hk) | hk <;> first | exact hk | cases hk)
 all_goals subst fH
 case quo => obtain ⟨h0, rfl⟩ := hb; exact ⟨_, rfl, _, by simp [binOp, Op.intDiv, h0], fun _ _ => .int _ _⟩
 case rem => obtain ⟨h0, rfl⟩ := hb; exact ⟨_, rfl, _, by simp [binOp, Op.intDiv, h0], fun _ _ => .int _ _⟩
 case add => subst hb; exact ⟨_, rfl, _, by simp [binOp, Op.intArith], fun _ _ => .int _ _⟩
 case sub => subst hb; exact ⟨_, rfl, _, by simp [binOp, Op.intArith], fun _ _ => .int _ _⟩
 case mul => subst hb; exact ⟨_, rfl, _, by simp [binOp, Op.intArith], fun _ _ => .int _ _⟩
 case and => subst hb; exact ⟨_, rfl, _, by simp [binOp, Op.intBits, PS], fun _ _ => .int _ _⟩
 case or => subst hb; exact ⟨_, rfl, _, by simp [binOp, Op.intBits, iOr], fun _ _ => .int _ _⟩
 case xor => subst hb; exact ⟨_, rfl, _, by simp [binOp, Op.intBits, H6], fun _ _ => .int _ _⟩
 all_goals (subst hb; exact ⟨_, rfl, .bool _, by simp only [binOp, Op.intCmp, ne_eq, not_true_eq_false, if_false]; rfl, fun _ _ => .bool _⟩)
theorem M5 (x y : ByteArray) : (x.toList == y.toList) = decide (x = y) := by
 rw [ByteArray.toList_eq, ByteArray.toList_eq, Bool.eq_iff_iff]
 simp only [beq_iff_eq, decide_eq_true_eq]
 constructor
 ·intro hh; cases x; cases y; simp_all
 ·rintro rfl; rfl
theorem M0 {P : Program} {op : BinOp} {x y : ByteArray} {v : V} {t : TypeId} (hb : SB op x y v) (w : World) :
  ∃ d, v = .one (.d d) /\ ∃ val, (binOp op t (.string x) (.string y)).run P w = .ok val w /\ ∀ T w', Rd T w' val d := by
 cases op <;> simp only [SB] at hb
 case add => obtain ⟨h0, rfl⟩ := hb; exact ⟨_, rfl, _, by simp only [binOp, Op.stringOp]; rw [if_neg (by simp [IntKind.max, IntKind.signed, IntKind.bits]; omega)]; rfl, fun _ _ => .str _⟩
 case eql => subst hb; exact ⟨_, rfl, .bool _, by simp only [binOp, Op.stringOp, M5]; rfl, fun _ _ => .bool _⟩
 case neq => subst hb; exact ⟨_, rfl, .bool _, by simp only [binOp, Op.stringOp, M5]; rfl, fun _ _ => .bool _⟩
theorem run_equalIn_bool {P : Program} {t : TypeId} (hu : P.underlying t = some .bool) (d : Nat) (x y : Bool) (w : World) : (Op.equalIn (d + 1) t (.bool x) (.bool y)).run P w = .ok (x == y) w := by
 simp [Op.equalIn, run_underlying hu]
theorem N4 {P : Program} {op : BinOp} {x y : Bool} {v : V} {t : TypeId} (ht : Uv P t = true) (hb : Vz op x y v) (w : World) :
  ∃ d, v = .one (.d d) /\ ∃ val, (binOp op t (.bool x) (.bool y)).run P w = .ok val w /\ ∀ T w', Rd T w' val d := by
 have hu : P.underlying t = some .bool := by
  unfold Uv at ht; split at ht <;> first | assumption | cases ht
 cases op <;> simp only [Vz] at hb
 case eql => subst hb; exact ⟨_, rfl, _, by simp only [binOp, Op.equal, Op.maxDepth, Sem.run_bind, run_equalIn_bool hu 9999, Result.andThen_ok, Sem.run_pure], fun _ _ => .bool _⟩
 case neq => subst hb; exact ⟨_, rfl, _, by simp only [binOp, Op.equal, Op.maxDepth, Sem.run_bind, run_equalIn_bool hu 9999, Result.andThen_ok, Sem.run_pure], fun _ _ => .bool _⟩
end Go.Vm
namespace Go.Vm
def y8 (P : Program) (σ : St) (x : Operand) (k : IntKind) (n : Int) : Prop := gOf (look P σ 0 x) = true /\ unc (look P σ 0 x) = .one (.d (.int k n))
def bnd (P : Program) (σ : St) (vk : Nat) : Option Operand -> Nat -> Prop
 | none, n => n = vk
 | some x, n => ∃ k i, gOf (look P σ 0 x) = true /\ unc (look P σ 0 x) = .one (.d (.int k i)) /\ 0 <= i /\ n = i.toNat
def cut {α : Type} (xs : List α) (off n : Nat) : List α := (xs.drop off).take n
def yM (P : Program) : Nat -> TypeId -> Option (List At)
 | 0, _ => none
 | n + 1, t =>
  match P.underlying t with
  | some .bool => some [.d (.bool false)]
  | some (.int k) => some [.d (.int k 0)]
  | some .string => some [.d (.str ⟨#[]⟩)]
  | some (.slice e) => some [.nil (P.cellsOf e)]
  | some (.struct fs) => (fs.toList.mapM (fun f => yM P n f.type)).map List.flatten
  | some (.array m e) => (yM P n e).map (fun r => (List.replicate m r).flatten)
  | _ => none
def zAt : At -> Value -> Bool
 | .d (.bool b), .bool b' => b == b'
 | .d (.int k n), .int k' n' => k == k' && n == n'
 | .d (.str s), .string s' => s.data.toList == s'.data.toList
 | .nil _, .slice none 0 0 => true
 | _, _ => false
def L5 : List At -> List Value -> Bool
 | [], [] => true
 | x :: xs, v :: vs => zAt x v && L5 xs vs
 | _, _ => false
def XD (P : Program) (t : TypeId) : Bool :=
 match yM P 12 t, P.info? t with
 | some row, some i => (match i.zero with | some z => L5 row z.cells.toList && i.size == row.length | none => false)
 | _, _ => false
theorem Gj {x : At} {v : Value} (hz : zAt x v = true) (T : CS) (h : Nat -> Nat -> Hd) (ob : Nat -> Nat -> Ob) (w : World) : Zm T h ob w x v := by
 unfold zAt at hz
 split at hz
 ·simp at hz; subst hz; exact .bool _
 ·simp at hz; obtain ⟨rfl, rfl⟩ := hz; exact .int _ _
 ·rename_i s s'
  simp at hz
  have : s = s' := by cases s; cases s'; simp_all
  subst this; exact .str _
 ·rfl
 ·cases hz
theorem HM {xs : List At} {vs : List Value} (hz : L5 xs vs = true) (T : CS) (h : Nat -> Nat -> Hd) (ob : Nat -> Nat -> Ob) (w : World) : Zg (Zm T h ob w) xs vs := by
 induction xs generalizing vs with
 | nil => cases vs with
  | nil => exact .nil
  | cons v vs => simp [L5] at hz
 | cons x xs ih => cases vs with
  | nil => simp [L5] at hz
  | cons v vs => simp [L5] at hz; exact .cons (Gj hz.1 _ _ _ _) (ih hz.2)
theorem T2 {P : Program} {t : TypeId} {row : List At} (hz : XD P t = true) (hr : yM P 12 t = some row) :
  ∃ i z, P.info? t = some i /\ i.zero = some z /\ i.size = row.length /\ (∀ T h ob w, Zg (Zm T h ob w) row z.cells.toList) := by
 unfold XD at hz
 rw [hr] at hz
 split at hz
 ·rename_i wE i vU hi
  cases vU
  split at hz
  ·rename_i z tO
   simp at hz
   exact ⟨i, z, hi, tO, hz.2, fun T h ob w => HM hz.1 T h ob w⟩
  ·cases hz
 ·cases hz
def V.cells : V -> List At
 | .one c => [c]
 | .agg xs => xs
 | _ => []
def V.flat : V -> Bool
 | .one _ => true
 | .agg _ => true
 | _ => false
def place {α : Type} (r : List α) (off : Nat) (xs : List α) : List α := r.take off ++ xs ++ r.drop (off + xs.length)
def zc (P : Program) (T : TypeId) (i : Nat) : Nat := match P.underlying T with | some (.array _ e) => i * P.cellsOf e | _ => XS P T i
def bTy (P : Program) (T : TypeId) (i : Nat) : TypeId := match P.underlying T with | some (.array _ e) => e | _ => Kk P T i
def bOk (P : Program) (T : TypeId) (i : Nat) : Bool := match P.underlying T with
 | some (.array _ e) => (P.info? e).isSome
 | some (.struct fs) => fs.all (fun f => (P.info? f.type).isSome) && decide (i < fs.size)
 | _ => false
def qS (P : Program) (σ : St) (T : TypeId) : List (Nat × Operand) -> List At -> List At -> Prop
 | [], r, out => out = r
 | (i, x) :: ps, r, out => bOk P T i = true /\ gOf (look P σ (bTy P T i) x) = true /\ (unc (look P σ (bTy P T i) x)).flat = true /\
   (unc (look P σ (bTy P T i) x)).cells.length = P.cellsOf (bTy P T i) /\ zc P T i + P.cellsOf (bTy P T i) <= r.length /\
   qS P σ T ps (place r (zc P T i) (unc (look P σ (bTy P T i) x)).cells) out
def kq (P : Program) (t : TypeId) : Bool := match P.underlying t with | some .bool => true | some (.int _) => true | some .string => true | _ => false
def xP (P : Program) : List Field -> Nat -> Bool
 | [], _ => true
 | f :: fs, i => decide (f.name ≠ "_") && f.offset == i && kq P f.type && xP P fs (i + 1)
def qi (P : Program) : List Field -> Nat -> Bool
 | [], _ => true
 | f :: fs, i => decide (f.name ≠ "_") && f.offset == i && (if kq P f.type then qi P fs (i + 1) else (match P.underlying f.type with | some (.struct gs) => Kg P f.type && qc P f.type && P.cellsOf f.type == gs.size && decide (0 < gs.size) && !P.stoodInHeld f.type && xP P gs.toList 0 && qi P fs (i + gs.size) | _ => false))
def P1 (P : Program) (f : Field) : List TypeId := if kq P f.type then [f.type] else (match P.underlying f.type with | some (.struct gs) => gs.toList.map (·.type) | _ => [])
def JC (P : Program) (T : TypeId) : List TypeId := (P.fieldsOf T).toList.flatMap (P1 P)
def WB (P : Program) (t : TypeId) : Bool := match P.underlying t with
 | some (.struct fs) => !P.stoodInHeld t && !P.eqGuardType P.depth t && qi P fs.toList 0
 | _ => false
def Gq (P : Program) (t : TypeId) : At -> At -> Option Bool
 | .d (.int k a), .d (.int k' b) => if k = k' /\ (My P t).isSome then some (a == b) else none
 | .d (.bool a), .d (.bool b) => if Uv P t then some (a == b) else none
 | .d (.str a), .d (.str b) => if jT P t then some (decide (a = b)) else none
 | _, _ => none
def XK (P : Program) : List TypeId -> List At -> List At -> Option Bool
 | [], _, _ => some true
 | f :: fs, x :: xs, y :: ys => (match Gq P f x y, XK P fs xs ys with | some p, some q => some (p && q) | _, _ => none)
 | _, _, _ => none
def MD (P : Program) (op : BinOp) (T : TypeId) (x y v : V) : Prop :=
 match x, y with
 | .one (.d (.int k m)), .one (.d (.int k' n)) => ((op = .shl \/ op = .shr) \/ k' = k) /\ RR op k m n v
 | .one (.d (.str m)), .one (.d (.str n)) => SB op m n v
 | .one (.d (.bool m)), .one (.d (.bool n)) => Uv P T = true /\ Vz op m n v
 | .agg xs, .agg ys => WB P T = true /\ ∃ q, XK P (JC P T) xs ys = some q /\ ((op = .eql /\ v = .one (.d (.bool q))) \/ (op = .neq /\ v = .one (.d (.bool (!q)))))
 | _, _ => False
def yY (t j i : Nat) : Nat -> List D -> List At
 | _, [] => []
 | c, x :: xs => (match x with | .sl _ _ => .tref t j i c none | x => .d x) :: yY t j i (c + 1) xs
def jK (q : Bool) (t j i c : Nat) (xs : List D) : List At := match q with | true => yY t j i c xs | false => xs.map .d
def Zv (P : Program) (σ : St) (op : Op) (ty : TypeId) (v : V) : Prop :=
 match op with
 | .move x => v = look P σ ty x
 | .assign x => v = look P σ ty x
 | .pick c a b => ∃ bc p q, gOf (look P σ ty c) = true /\ unc (look P σ ty c) = .one (.d (.bool bc)) /\ (bc = true -> unc (look P σ ty a) = .one (.d (.bool p))) /\ (bc = false -> unc (look P σ ty b) = .one (.d (.bool q))) /\
   (bc = true -> gOf (look P σ ty a) = true) /\ (bc = false -> gOf (look P σ ty b) = true) /\ v = .one (.d (.bool (cond bc p q)))
 | .load T x => gOf (look P σ 0 x) = true /\ Kg P T = true /\
   (match unc (look P σ 0 x) with
   | .one (.bptr t c) => ∃ cells, σ.ob t 0 = .box cells /\ c + P.cellsOf T <= cells.length /\ v = ldV P T (cut cells c (P.cellsOf T))
   | .one (.ptr t j i c) => ∃ q size rows, σ.ob t j = .arr q size rows /\ i < rows.length /\ c + P.cellsOf T <= size /\ v = ldV P T (jK q t j i c (cut (rows.getD i []) c (P.cellsOf T)))
   | .one (.rptr r c) => c + P.cellsOf T <= r.length /\ v = ldV P T ((cut r c (P.cellsOf T)).map .d)
   | .one (.tref t j i c (some k)) => ∃ size rows s, σ.ob t j = .arr true size rows /\ i < rows.length /\ (rows.getD i [])[c]? = some (.sl 1 s) /\ P.cellsOf T = 1 /\ k < s.length /\ (s.getD k []).all D.scalar = true /\ v = ldV P T ((s.getD k []).map .d)
   | _ => False)
 | .fieldAddr T x f => gOf (look P σ 0 x) = true /\ zd P T f = true /\
   (match unc (look P σ 0 x) with
   | .one (.bptr t c) => (∃ cells, σ.ob t 0 = .box cells) /\ v = .one (.bptr t (c + XS P T f))
   | .one (.ptr t j i c) => (∃ q size rows, σ.ob t j = .arr q size rows) /\ v = .one (.ptr t j i (c + XS P T f))
   | .one (.rptr r c) => v = .one (.rptr r (c + XS P T f))
   | .one (.tref t j i c (some k)) => (∃ size rows, σ.ob t j = .arr true size rows) /\ v = .one (.tref t j i c (some (k + XS P T f)))
   | _ => False)
 | .nilCheck x => gOf (look P σ 0 x) = true /\
   (match unc (look P σ 0 x) with
   | .one (.bptr t c) => (∃ cells, σ.ob t 0 = .box cells) /\ v = .one (.bptr t c)
   | _ => False)
 | .indexAddr T x ix => ∃ k i, y8 P σ ix k i /\ 0 <= i /\ gOf (look P σ 0 x) = true /\
   (match unc (look P σ 0 x) with
   | .one (.d (.sl size rows)) => YS P T = true /\ size = P.cellsOf (ZH P T) /\ 0 < size /\ i < (rows.length : Int) /\ v = .one (.rptr (rows.getD i.toNat []) 0)
   | .one (.sref t j lo len) => YS P T = true /\ 0 < P.cellsOf (ZH P T) /\ (∃ q rows, σ.ob t j = .arr q (P.cellsOf (ZH P T)) rows) /\ i < (len : Int) /\ v = .one (.ptr t j (lo + i.toNat) 0)
   | .one (.bptr t c) => (∃ cells, σ.ob t 0 = .box cells) /\ (∃ n, T8 P T = some n /\ 1 < n /\ i < (n : Int)) /\ v = .one (.bptr t (c + i.toNat * P.cellsOf (ZH P T)))
   | .one (.tref t j m c none) => YS P T = true /\ 0 < P.cellsOf (ZH P T) /\ (∃ size rows s, σ.ob t j = .arr true size rows /\ m < rows.length /\ (rows.getD m [])[c]? = some (.sl (P.cellsOf (ZH P T)) s) /\ i < (s.length : Int)) /\ v = .one (.tref t j m c (some (i.toNat * P.cellsOf (ZH P T))))
   | _ => False)
 | .index T x ix => ∃ k i, y8 P σ ix k i /\ 0 <= i /\ gOf (look P σ 0 x) = true /\
   (match unc (look P σ 0 x) with
   | .one (.d (.str s)) => jT P T = true /\ i < (s.size : Int) /\ v = .one (.d (.int .u8 (s.data.toList.getD i.toNat 0).toNat))
   | .agg xs => (∃ n, T8 P T = some n /\ i < (n : Int)) /\ Kg P (ZH P T) = true /\ i.toNat * P.cellsOf (ZH P T) + P.cellsOf (ZH P T) <= xs.length /\ v = ldV P (ZH P T) (cut xs (i.toNat * P.cellsOf (ZH P T)) (P.cellsOf (ZH P T)))
   | _ => False)
 | .slice T x lo hi none => gOf (look P σ 0 x) = true /\
   (match unc (look P σ 0 x) with
   | .one (.d (.str s)) => jT P T = true /\ ∃ l h, bnd P σ 0 lo l /\ bnd P σ s.size hi h /\ l <= h /\ h <= s.size /\ v = .one (.d (.str (s.extract l h)))
   | .one (.d (.sl size rows)) => YS P T = true /\ size = P.cellsOf (ZH P T) /\ ∃ l h, bnd P σ 0 lo l /\ bnd P σ rows.length hi h /\ l <= h /\ h <= rows.length /\ v = .one (.d (.sl size (cut rows l (h - l))))
   | .one (.sref t j o len) => YS P T = true /\ (∃ q rows, σ.ob t j = .arr q (P.cellsOf (ZH P T)) rows) /\ ∃ l h, bnd P σ 0 lo l /\ bnd P σ len hi h /\ l <= h /\ h <= len /\ v = .one (.sref t j (o + l) (h - l))
   | _ => False)
 | .binOp op T x y _ => gOf (look P σ T x) = true /\ gOf (look P σ T y) = true /\
   MD P op T (unc (look P σ T x)) (unc (look P σ T y)) v
 | .unOp op _ x => gOf (look P σ 0 x) = true /\
   (match op, unc (look P σ 0 x) with
   | .not, .one (.d (.bool b)) => v = .one (.d (.bool (!b)))
   | .neg, .one (.d (.int k n)) => v = .one (.d (.int k (k.wrap (-n))))
   | _, _ => False)
 | .convert S T x => gOf (look P σ 0 x) = true /\ (P.underlying S).isSome = true /\
   (match unc (look P σ 0 x) with
   | .one (.d (.int _ n)) => ∃ k, My P T = some k /\ v = .one (.d (.int k (k.wrap n)))
   | _ => False)
 | .extract x i => gOf (look P σ 0 x) = true /\
   (match unc (look P σ 0 x) with
   | .tup xs => xs[i]? = some v /\ v.flat = true
   | _ => False)
 | .field T x f => gOf (look P σ 0 x) = true /\ zd P T f = true /\ Kg P (Kk P T f) = true /\
   (match unc (look P σ 0 x) with
   | .agg xs => XS P T f + P.cellsOf (Kk P T f) <= xs.length /\ v = ldV P (Kk P T f) (cut xs (XS P T f) (P.cellsOf (Kk P T f)))
   | _ => False)
 | .build T parts => XD P T = true /\ qc P T = true /\ ∃ z out, yM P 12 T = some z /\ qS P σ T parts.toList z out /\ v = .agg out
 | .call c =>
   (match c.callee, c.args.toList, c.argTypes.toList with
   | .builtin .len, [x], [t] => gOf (look P σ t x) = true /\
     (match unc (look P σ t x) with
     | .one (.d (.str s)) => jT P t = true /\ v = .one (.d (.int .i64 s.size))
     | .one (.d (.sl _ rows)) => YS P t = true /\ v = .one (.d (.int .i64 rows.length))
     | .one (.nil _) => YS P t = true /\ v = .one (.d (.int .i64 0))
     | .one (.sref u j _ len) => YS P t = true /\ ((∃ q size rows, σ.ob u j = .arr q size rows) \/ ∃ size rows, σ.ob u j = .lit size rows) /\ v = .one (.d (.int .i64 len))
     | .one (.tref u j i c none) => YS P t = true /\ ∃ size rows n s, σ.ob u j = .arr true size rows /\ i < rows.length /\ (rows.getD i [])[c]? = some (.sl n s) /\ v = .one (.d (.int .i64 s.length))
     | _ => False)
   | .builtin .max, [x, y], _ => ∃ k m n, y8 P σ x k m /\ y8 P σ y k n /\ v = .one (.d (.int k (if n > m then n else m)))
   | .builtin .min, [x, y], _ => ∃ k m n, y8 P σ x k m /\ y8 P σ y k n /\ v = .one (.d (.int k (if n < m then n else m)))
   | _, _, _ => False)
 | _ => False
end Go.Vm
namespace Go.Vm
section
variable {P : Program} {T0 : CS} {B : Nat -> Prop} {σ : St} {a : Act} {w : World} {X : Nat -> Prop} {h : Nat -> Nat -> Hd}
theorem KI (b off n : Nat) : (⟨b, off, none⟩ : Addr).add n = ⟨b, off + n, none⟩ := by
 unfold Addr.add; split <;> simp_all
theorem zx {T : TypeId} (ht : Kg P T = true) : ∃ d i, P.underlying T = some d /\ P.info? T = some i /\ i.size = P.cellsOf T /\ (qc P T = true \/ P.cellsOf T = 1) := by
 simp only [Kg, Bool.and_eq_true, Bool.or_eq_true, beq_iff_eq] at ht
 obtain ⟨⟨h1, h2⟩, h3⟩ := ht
 obtain ⟨d, hd⟩ := Option.isSome_iff_exists.1 h1
 obtain ⟨i, hi⟩ := Option.isSome_iff_exists.1 h2
 exact ⟨d, i, hd, hi, by simp [Program.cellsOf, hi], h3⟩
theorem ko {T : TypeId} {d : TypeDesc} (hd : P.underlying T = some d) (w : World) : (isAgg T).run P w = .ok (qc P T) w := by
 unfold isAgg qc
 rw [hd]
 simp only [Sem.run_bind, run_underlying hd, Result.andThen_ok]
 cases d <;> simp
theorem QO {T : TypeId} {i : TypeInfo} (hi : P.info? T = some i) (w : World) : (sizeOf T).run P w = .ok (P.cellsOf T) w := by
 simp [sizeOf, typeInfo, hi, Program.cellsOf]
theorem Hw {T : TypeId} (ht : Kg P T = true) {b off : Nat} {cs : List Value} (hl : cs.length = P.cellsOf T) (hc : ∀ j v, cs[j]? = some v -> w.cell? ⟨b, off + j, none⟩ = some v) :
  ∃ val, (Instr.loadAt T (.pointer (some ⟨b, off, none⟩))).run P w = .ok val w /\ (qc P T = true -> val = .agg cs.toArray) /\ (qc P T = false -> cs = [val]) := by
 obtain ⟨d, i, hd, hi, vK, vE⟩ := zx ht
 cases th : qc P T with
 | true =>
  refine ⟨.agg cs.toArray, ?_, fun _ => rfl, (fun hh => by cases hh)⟩
  have := run_loadCells_list (P := P) w ⟨b, off, none⟩ cs (fun j v hv => by rw [KI]; exact hc j v hv)
  simp only [Instr.loadAt, Instr.sureAddr, loadVar, Sem.run_bind, Sem.run_pure, Result.andThen_ok, ko hd, th, if_true, QO hi, <- hl, this]
 | false =>
  rcases vE with vE | vE
  ·rw [th] at vE; cases vE
  ·rw [vE] at hl
   obtain ⟨val, rfl⟩ := List.length_eq_one_iff.1 hl
   refine ⟨val, ?_, (fun hh => by cases hh), fun _ => rfl⟩
   have nT := hc 0 val (by simp)
   simp only [Nat.add_zero] at nT
   simp [Instr.loadAt, Instr.sureAddr, loadVar, ko hd, th, load, Sem.run, nT]
theorem LZ {T : TypeId} (ed : Kg P T = true) {T' : CS} {ob : Nat -> Nat -> Ob} {xs : List At} {cs : List Value} {val : Value} (hx : Zg (Zm T' h ob w) xs cs)
  (h1 : qc P T = true -> val = .agg cs.toArray) (h2 : qc P T = false -> cs = [val]) : Xe T' h ob w (ldV P T xs) val := by
 unfold ldV
 cases th : qc P T with
 | true => simp only [if_true]; exact ⟨_, h1 th, by simpa using hx⟩
 | false =>
  simp only [Bool.false_eq_true, if_false]
  rw [h2 th] at hx
  cases hx with
  | cons r hx => cases hx; exact r
theorem Zg.cut {α β : Type} {R : α -> β -> Prop} {l : List α} {m : List β} (x : Zg R l m) (o n : Nat) : Zg R (Vm.cut l o n) (Vm.cut m o n) := (x.drop o).take n
theorem YK {α : Type} (l : List α) (o n : Nat) (hl : o + n <= l.length) : (cut l o n).length = n := by simp [cut]; omega
theorem JD {α : Type} (l : List α) (o n j : Nat) (v : α) (hv : (cut l o n)[j]? = some v) : l[o + j]? = some v := by
 simp only [cut, List.getElem?_take, List.getElem?_drop] at hv
 split at hv
 ·exact hv
 ·cases hv
theorem zE {α : Type} : ∀ (rows : List (List α)) (size : Nat), (∀ r ∈ rows, r.length = size) -> ∀ (i : Nat) (r : List α), rows[i]? = some r -> ∀ (j : Nat) (d : α), r[j]? = some d -> rows.flatten[i * size + j]? = some d
 | [], _, _, i, r, hr, _, _, _ => by simp at hr
 | r0 :: rows, size, hz, 0, r, hr, j, d, hd => by
  simp at hr; subst hr
  have hj : j < r0.length := (List.getElem?_eq_some_iff.1 hd).1
  simp [List.getElem?_append_left hj, hd]
 | r0 :: rows, size, hz, i + 1, r, hr, j, d, hd => by
  have ih := zE rows size (fun r hr => hz r (by simp [hr])) i r (by simpa using hr) j d hd
  have h0 : r0.length = size := hz r0 (by simp)
  rw [List.flatten_cons, List.getElem?_append_right (by rw [h0, Nat.add_mul]; omega), h0]
  have : (i + 1) * size + j - size = i * size + j := by rw [Nat.add_mul]; omega
  rw [this]; exact ih
theorem Zo {α : Type} (rows : List (List α)) (size : Nat) (hz : ∀ r ∈ rows, r.length = size) : rows.flatten.length = rows.length * size := by
 induction rows with
 | nil => simp
 | cons r rows ih => rw [List.flatten_cons, List.length_append, ih (fun r hr => hz r (by simp [hr])), hz r (by simp), List.length_cons, Nat.add_mul]; omega
theorem Rd.row {T : CS} {v : Value} {size : Nat} {rows : List (List D)} (r : Rd T w v (.sl size rows)) (i : Nat) (hi : i < rows.length) (vK : 0 < size) :
  ∃ a len cap, v = .slice (some a) len cap /\ len = rows.length /\ a.spot = none /\
   ∃ g : Nat -> Value, ∀ k d, (rows.getD i [])[k]? = some d -> w.cell? ⟨a.block, a.off + i * size + k, none⟩ = some (g k) /\ T a.block (a.off + i * size + k) /\ Rd T w (g k) d := by
 cases r with
 | nil => simp at hi
 | sl a len cap size rows g hl hc hm hz hs hg hr =>
  have wi : rows[i]? = some (rows.getD i []) := by simp [List.getD_eq_getElem?_getD, List.getElem?_eq_getElem hi]
  have wB : rows.flatten ≠ [] := by
   have hlen := Zo rows size hz
   have hp : 0 < rows.length * size := Nat.mul_pos (by omega) vK
   intro he
   have h0 : rows.flatten.length = 0 := by rw [he]; rfl
   omega
  refine ⟨a, len, cap, rfl, hl.symm, hs wB, fun k => g (i * size + k), fun k d hd => ?_⟩
  have hf := zE rows size hz i _ wi k d hd
  have h1 := hg _ _ hf
  rw [Nat.add_assoc]
  exact ⟨h1.1, h1.2, hr _ _ hf⟩
theorem PE {T : CS} {v : Value} {size : Nat} {rows : List (List D)} (r : Rd T w v (.sl size rows)) : ∀ x ∈ rows, x.length = size := by
 cases r with
 | nil => intro x hx; cases hx
 | sl a len cap size rows g hl hc hm hz hs hg hr => exact hz
theorem LJ {T : CS} {v : Value} {size : Nat} {rows : List (List D)} (r : Rd T w v (.sl size rows)) : ∃ base cap, v = .slice base rows.length cap /\ rows.length <= cap /\ cap <= maxLen := by
 cases r with
 | nil => exact ⟨none, 0, rfl, by simp, by simp [maxLen]⟩
 | sl a len cap size rows g hl hc hm hz hs hg hr => exact ⟨some a, cap, by rw [hl], by omega, hm⟩
theorem Yv {t : TypeId} (ht : YS P t = true) : ∃ i, P.underlying t = some (.slice (ZH P t)) /\ P.info? (ZH P t) = some i /\ i.size = P.cellsOf (ZH P t) := by
 unfold YS at ht
 split at ht
 ·rename_i e he
  obtain ⟨i, hi⟩ := Option.isSome_iff_exists.1 ht
  have : ZH P t = e := by simp [ZH, he]
  rw [this]
  exact ⟨i, he, hi, by simp [Program.cellsOf, hi]⟩
 ·cases ht
theorem SS {t : TypeId} {n : Nat} (ht : T8 P t = some n) : ∃ i, P.underlying t = some (.array n (ZH P t)) /\ P.info? (ZH P t) = some i /\ i.size = P.cellsOf (ZH P t) := by
 unfold T8 at ht
 split at ht
 ·rename_i m e he
  split at ht
  ·rename_i hh
   cases ht
   obtain ⟨i, hi⟩ := Option.isSome_iff_exists.1 hh
   have : ZH P t = e := by simp [ZH, he]
   rw [this]
   exact ⟨i, he, hi, by simp [Program.cellsOf, hi]⟩
  ·cases ht
 ·cases ht
theorem WO {t : TypeId} {f : Nat} (ht : zd P t f = true) : ∃ fs fd i, P.underlying t = some (.struct fs) /\ fs[f]? = some fd /\ fd.offset = XS P t f /\ fd.type = Kk P t f /\ P.info? fd.type = some i /\ i.size ≠ 0 := by
 unfold zd at ht
 split at ht
 ·rename_i fs he
  split at ht
  ·rename_i fd hf
   simp at ht
   obtain ⟨i, hi⟩ := Option.isSome_iff_exists.1 ht.1
   exact ⟨fs, fd, i, he, hf, by simp [XS, he, hf], by simp [Kk, he, hf], hi, by simpa [Program.cellsOf, hi] using ht.2⟩
  ·cases ht
 ·cases ht
theorem K1 {t : TypeId} (ht : jT P t = true) : P.underlying t = some .string := by
 unfold jT at ht; split at ht <;> first | assumption | cases ht
theorem RO {t : TypeId} {k : IntKind} (ht : My P t = some k) : P.underlying t = some (.int k) := by
 unfold My at ht
 split at ht
 ·cases ht; assumption
 ·cases ht
theorem jR {T : CS} {v : Value} {k : IntKind} {n : Int} (r : Rd T w v (.int k n)) : v = .int k n := by cases r; rfl
theorem zU {T : CS} {v : Value} {b : Bool} (r : Rd T w v (.bool b)) : v = .bool b := by cases r; rfl
theorem kP {T : CS} {v : Value} {s : ByteArray} (r : Rd T w v (.str s)) : v = .string s := by cases r; rfl
theorem KJ (r : Rel T0 B σ a w X h) {x : Operand} {k : IntKind} {n : Int} (hx : y8 P σ x k n) : a.eval x = .int k n :=
 jR (r.arg 0 x hx.2 hx.1)
end
end Go.Vm
namespace Go.Vm
section
variable {P : Program} {T0 : CS} {B : Nat -> Prop} {σ : St} {a : Act} {w : World} {X : Nat -> Prop} {h : Nat -> Nat -> Hd}
theorem Own.Y4 {v : Value} {d : D} {S : Nat -> Prop} (h : Own w v d S) : v.oneCell' = true := by
 cases h with
 | int => rfl
 | bool => rfl
 | str => rfl
 | unk _ h => exact h
 | sl v size rows S e xs Sk ho hz hb hl hk hs hd => rcases ho.2 with ⟨rfl, _⟩ | ⟨g, cap, cur, rfl, _⟩ <;> rfl
theorem RW {t j i : Nat} : ∀ {xs : List D} {c k : Nat} {x : At}, (yY t j i c xs)[k]? = some x -> ∃ d, xs[k]? = some d /\ x = (match d with | .sl _ _ => .tref t j i (c + k) none | d => .d d)
 | [], c, k, x, hx => by simp [yY] at hx
 | d :: xs, c, 0, x, hx => by
  simp only [yY, List.getElem?_cons_zero] at hx
  cases hx
  exact ⟨d, by simp, by cases d <;> simp⟩
 | d :: xs, c, k + 1, x, hx => by
  simp only [yY, List.getElem?_cons_succ] at hx
  obtain ⟨d', wP, rfl⟩ := RW hx
  exact ⟨d', by simpa using wP, by cases d' <;> simp; omega⟩
theorem WV {t j i : Nat} : ∀ (c : Nat) (xs : List D), (yY t j i c xs).length = xs.length
 | _, [] => rfl
 | c, d :: xs => by simp [yY, WV (c + 1) xs]
theorem PJ (q : Bool) (t j i c : Nat) (xs : List D) : (jK q t j i c xs).length = xs.length := by
 cases q <;> simp [jK, WV]
theorem Rel.box (r : Rel T0 B σ a w X h) {t : Nat} {cells : List At} (ho : σ.ob t 0 = .box cells) {c : Nat} {v : Value} (hv : Zm (Tof T0 X) h σ.ob w (.bptr t c) v) :
  ∃ b cs e, (h t 0).v = .pointer (some ⟨b, 0, none⟩) /\ v = .pointer (some ⟨b, c, none⟩) /\ w.heap[b]? = some (.cells cs e (0, 0)) /\ Zg (Zm (Tof T0 X) h σ.ob w) cells cs.toList := by
 obtain ⟨b, hb, rfl⟩ := hv.2 cells ho
 have wU := r.obj t 0
 rw [ho] at wU
 obtain ⟨b', cs, e, wM, hh, wD⟩ := wU
 rw [hb] at wM
 cases wM
 exact ⟨b, cs, e, hb, rfl, hh, wD⟩
theorem Q6 {b : Nat} {cs : Array Value} {e : TypeId} {f : Nat × Nat} (hh : w.heap[b]? = some (.cells cs e f)) (k : Nat) (v : Value) (hv : cs.toList[k]? = some v) : w.cell? ⟨b, k, none⟩ = some v := by
 simp only [World.cell?, hh]
 simpa using hv
theorem Rel.arr (r : Rel T0 B σ a w X h) {t j : Nat} {q : Bool} {size : Nat} {rows : List (List D)} (ho : σ.ob t j = .arr q size rows) {i c : Nat} {v : Value} (hv : Zm (Tof T0 X) h σ.ob w (.ptr t j i c) v) :
  ∃ b cap cur e xs, (h t j).v = .slice (some ⟨b, 0, none⟩) rows.length cap /\ v = .pointer (some ⟨b, i * size + c, none⟩) /\ w.heap[b]? = some (.cells cur e (0, 0)) /\ rows.length <= cap /\ cap <= maxLen /\ cur.size = cap * size /\
   cur.toList.take (rows.length * size) = xs /\ (∀ r ∈ rows, r.length = size) /\ xs.length = rows.flatten.length /\ (q = false -> Zg (Rd (Tof T0 X) w) xs rows.flatten) /\
   (q = true -> Xz w xs rows.flatten (fun b => (h t j).u b /\ blk (h t j).v ≠ some b) /\ ∀ k x d, xs[k]? = some x -> rows.flatten[k]? = some d -> d.scalar = false -> (h t j).n k = x) := by
 obtain ⟨b, n, cap, hb, rfl⟩ := hv.2 q size rows ho
 have wU := r.obj t j
 rw [ho] at wU
 cases q with
 | false =>
  obtain ⟨e, xs, wF, hz, wD⟩ := wU
  rcases wF.2 with ⟨h0, _⟩ | ⟨g, rZ, cur, hg, _, hh, hle, uP, uO, ug⟩
  ·rw [hb] at h0; cases h0
  ·rw [hb] at hg
   cases hg
   exact ⟨b, cap, cur, e, xs, hb, rfl, hh, hle, uP, uO, ug, hz, wD.length, fun _ => wD, fun hh => by cases hh⟩
 | true =>
  obtain ⟨e, xs, wF, hz, wD, hn⟩ := wU
  rcases wF.2 with ⟨h0, _⟩ | ⟨g, rZ, cur, hg, _, hh, hle, uP, uO, ug⟩
  ·rw [hb] at h0; cases h0
  ·rw [hb] at hg
   cases hg
   exact ⟨b, cap, cur, e, xs, hb, rfl, hh, hle, uP, uO, ug, hz, wD.1, (fun hh => by cases hh), fun _ => ⟨wD, hn⟩⟩
theorem Own.hdr {v : Value} {n : Nat} {s : List (List D)} {S : Nat -> Prop} (h : Own w v (.sl n s) S) (hp : 0 < s.length) : ∃ b cap, v = .slice (some ⟨b, 0, none⟩) s.length cap := by
 cases h with
 | sl v size rows S e xs Sk ho hz hb hl hk hs hd =>
  obtain ⟨_, ⟨_, h0⟩ | ⟨g, cap, cur, hv, _⟩⟩ := ho
  ·omega
  ·exact ⟨g, cap, hv⟩
theorem Rel.nest (r : Rel T0 B σ a w X h) {t j i c size n : Nat} {rows s : List (List D)} (ho : σ.ob t j = .arr true size rows) (hi : i < rows.length) (wG : (rows.getD i [])[c]? = some (.sl n s)) : ∃ v0 S, (h t j).n (i * size + c) = v0 /\ Own w v0 (.sl n s) S := by
 have h0 := r.obj t j
 rw [ho] at h0
 obtain ⟨e, vs, uR, hz, ⟨hl, Sk, o1, o2, o3⟩, hn⟩ := h0
 have wi : rows[i]? = some (rows.getD i []) := by simp [List.getD_eq_getElem?_getD, List.getElem?_eq_getElem hi]
 have vd : rows.flatten[i * size + c]? = some (.sl n s) := zE rows size hz i _ wi c _ wG
 have wO : i * size + c < vs.length := by rw [hl]; exact (List.getElem?_eq_some_iff.1 vd).1
 have pt : vs[i * size + c]? = some vs[i * size + c] := List.getElem?_eq_getElem wO
 exact ⟨_, _, hn _ _ _ pt vd rfl, o1 _ _ _ pt vd⟩
theorem LA (r : Rel T0 B σ a w X h) {o : Oper} {T : TypeId} {x : Operand} {v : V} (wA : o.op = .load T x) (hs : Zv P σ o.op o.type v) :
  ∃ val, (execOp a.eval o).run P w = .ok (.value val) w /\ Xe (Tof T0 X) h σ.ob w v val := by
 simp only [wA, Zv] at hs
 obtain ⟨hg, uZ, hs⟩ := hs
 have hx := r.arg (P := P) 0 x rfl hg
 have key : ∀ (b off : Nat) (xs : List At) (cs : List Value), a.eval x = .pointer (some ⟨b, off, none⟩) -> v = ldV P T xs -> cs.length = P.cellsOf T ->
   (∀ j u, cs[j]? = some u -> w.cell? ⟨b, off + j, none⟩ = some u) -> Zg (Zm (Tof T0 X) h σ.ob w) xs cs -> ∃ val, (execOp a.eval o).run P w = .ok (.value val) w /\ Xe (Tof T0 X) h σ.ob w v val := by
  intro b off xs cs he hv hl hc wD
  obtain ⟨val, hr, h1, h2⟩ := Hw (P := P) uZ hl hc
  refine ⟨val, ?_, ?_⟩
  ·simp only [execOp, wA, he, Sem.run_bind, hr, Result.andThen_ok, Sem.run_pure]
  ·rw [hv]; exact LZ uZ wD h1 h2
 split at hs
 ·rename_i t c heq
  rw [heq] at hx
  obtain ⟨cells, ho, hle, hv⟩ := hs
  obtain ⟨b, cs, e, hb, he, hh, wD⟩ := r.box ho hx
  have hlen := wD.length
  refine key b c _ (cut cs.toList c (P.cellsOf T)) he hv (YK _ _ _ (by omega)) (fun j u hu => Q6 hh _ _ (JD _ _ _ _ _ hu)) (wD.cut _ _)
 ·rename_i t j i c heq
  rw [heq] at hx
  obtain ⟨q, size, rows, ho, hi, hle, hv⟩ := hs
  obtain ⟨b, cap, cur, e, xs, hb, he, hh, vj, uP, uO, ug, hz, rM, wD, wF⟩ := r.arr ho hx
  have wi : rows[i]? = some (rows.getD i []) := by simp [List.getD_eq_getElem?_getD, List.getElem?_eq_getElem hi]
  have sI : (rows.getD i []).length = size := hz _ (List.mem_of_getElem? wi)
  have ve := Zo rows size hz
  have hmul : i * size + size <= rows.length * size := by rw [<- Nat.succ_mul]; exact Nat.mul_le_mul_right _ hi
  have sr : ∀ k d', (cut (rows.getD i []) c (P.cellsOf T))[k]? = some d' -> rows.flatten[i * size + c + k]? = some d' := by
   intro k d' wP
   have h2 := zE rows size hz i _ wi (c + k) d' (JD _ _ _ _ _ wP)
   rw [show i * size + c + k = i * size + (c + k) by omega]; exact h2
  refine key b (i * size + c) _ (cut xs (i * size + c) (P.cellsOf T)) he hv (YK _ _ _ (by omega)) (fun j u hu => ?_) ?_
  ·have h1 := JD _ _ _ _ _ hu
   refine Q6 hh _ _ ?_
   rw [<- ug, List.getElem?_take] at h1
   split at h1
   ·exact h1
   ·cases h1
  ·refine Zg.KD (by rw [YK _ _ _ (by omega), PJ, YK _ _ _ (by omega)]) (fun k x u hx hu => ?_)
   have h1 := JD _ _ _ _ _ hu
   cases q with
   | false =>
    obtain ⟨d, hd, hr⟩ := (wD rfl).get _ _ h1
    simp only [jK] at hx
    rw [List.getElem?_map] at hx
    cases wP : (cut (rows.getD i []) c (P.cellsOf T))[k]? with
    | none => rw [wP] at hx; cases hx
    | some d' =>
     rw [wP] at hx
     cases hx
     rw [sr k d' wP] at hd
     cases hd
     exact hr
   | true =>
    obtain ⟨⟨_, Sk, wF, _, _⟩, hn⟩ := wF rfl
    simp only [jK] at hx
    obtain ⟨d', wP, rfl⟩ := RW hx
    have wZ := wF _ _ _ h1 (sr k d' wP)
    cases d' with
    | sl s rs =>
     refine ⟨wZ.Y4, fun wW wK uW => ?_⟩
     rw [ho] at uW; cases uW
     show _ = _
     rw [<- hn _ _ _ h1 (sr k _ wP) rfl, Nat.add_assoc]
    | int k n => cases wZ; exact .int _ _
    | bool b => cases wZ; exact .bool _
    | str s => cases wZ; exact .str _
    | unk => exact .unk _ wZ.Y4
 ·rename_i rr c heq
  rw [heq] at hx
  obtain ⟨hle, hv⟩ := hs
  obtain ⟨b, off, g, he, hk⟩ := hx
  refine key b (off + c) _ ((List.range (P.cellsOf T)).map fun j => g (c + j)) he hv (by simp) (fun j u hu => ?_) ?_
  ·rw [List.getElem?_map] at hu
   rcases Nat.lt_or_ge j (P.cellsOf T) with hj | hj
   ·rw [List.getElem?_range hj] at hu
    cases hu
    have hd := hk (c + j) (rr[c + j]'(by omega)) (List.getElem?_eq_getElem _)
    rw [Nat.add_assoc]; exact hd.1
   ·rw [List.getElem?_eq_none (by simpa using hj)] at hu; cases hu
  ·refine Zg.KD (by rw [List.length_map, YK _ _ _ (by omega)]; simp) (fun k x u hx hu => ?_)
   rw [List.getElem?_map] at hx hu
   cases wP : (cut rr c (P.cellsOf T))[k]? with
   | none => rw [wP] at hx; cases hx
   | some d' =>
    rw [wP] at hx
    cases hx
    have fP : k < P.cellsOf T := by have := (List.getElem?_eq_some_iff.1 wP).1; rw [YK _ _ _ (by omega)] at this; exact this
    rw [List.getElem?_range fP] at hu
    cases hu
    exact (hk (c + k) d' (JD _ _ _ _ _ wP)).2.2
 ·rename_i t j i c k heq
  rw [heq] at hx
  obtain ⟨size, rows, s, ho, hi, wG, gD, fK, vN, hv⟩ := hs
  obtain ⟨v0, S, hn, wF⟩ := r.nest ho hi wG
  obtain ⟨b, len, tP, pf, he⟩ := hx.2 _ _ ho
  rw [hn] at pf
  cases wF with
  | sl v wW wK S e xs Sk uW hz hb hl hk wL hd =>
   rcases uW.2 with ⟨rfl, h0⟩ | ⟨g, cap, cur, rfl, _, hh, vz, uP, uO, ug⟩
   ·omega
   ·cases pf
    have wi : s[k]? = some (s.getD k []) := by simp [List.getD_eq_getElem?_getD, List.getElem?_eq_getElem fK]
    have sI : (s.getD k []).length = 1 := hz _ (List.mem_of_getElem? wi)
    have ve := Zo s 1 hz
    refine key b k _ (cut xs k (P.cellsOf T)) he hv (YK _ _ _ (by omega)) (fun j u hu => ?_) ?_
    ·have h1 := JD _ _ _ _ _ hu
     refine Q6 hh _ _ ?_
     rw [<- ug, List.getElem?_take] at h1
     split at h1
     ·exact h1
     ·cases h1
    ·refine Zg.KD (by rw [List.length_map, YK _ _ _ (by omega)]; omega) (fun q x u hx hu => ?_)
     rw [List.getElem?_map] at hx
     cases wP : (s.getD k [])[q]? with
     | none => rw [wP] at hx; cases hx
     | some d' =>
      rw [wP] at hx
      cases hx
      have hq : q = 0 := by have := (List.getElem?_eq_some_iff.1 wP).1; omega
      subst hq
      have hf := zE s 1 hz k _ wi 0 d' wP
      rw [Nat.mul_one] at hf
      have lH := hk _ _ _ (JD _ _ _ _ _ hu) hf
      have fQ : d'.scalar = true := List.all_eq_true.1 vN d' (List.mem_of_getElem? wP)
      cases d' with
      | sl s' rs => cases fQ
      | int k' n' => cases lH; exact .int _ _
      | bool b' => cases lH; exact .bool _
      | str s' => cases lH; exact .str _
      | unk => exact .unk _ lH.Y4
 ·exact hs.elim
theorem qF {T : TypeId} {f : Nat} (hf : zd P T f = true) (b off : Nat) : (Instr.fieldAt T (.pointer (some ⟨b, off, none⟩)) f).run P w = .ok (.pointer (some ⟨b, off + XS P T f, none⟩)) w := by
 obtain ⟨fs, fd, i, hu, rY, pH, uZ, hi, wB⟩ := WO hf
 have wv : P.cellsOf fd.type ≠ 0 := by simpa [Program.cellsOf, hi] using wB
 simp [Instr.fieldAt, run_underlying hu, rY, Instr.sureAddr, fieldPlace, QO hi, wv, KI, pH]
theorem TY (r : Rel T0 B σ a w X h) {o : Oper} {T : TypeId} {x : Operand} {f : Nat} {v : V} (wA : o.op = .fieldAddr T x f) (hs : Zv P σ o.op o.type v) :
  ∃ val, (execOp a.eval o).run P w = .ok (.value val) w /\ Xe (Tof T0 X) h σ.ob w v val := by
 simp only [wA, Zv] at hs
 obtain ⟨hg, hf, hs⟩ := hs
 have hx := r.arg (P := P) 0 x rfl hg
 split at hs
 ·rename_i t c heq
  rw [heq] at hx
  obtain ⟨⟨cells, ho⟩, rfl⟩ := hs
  obtain ⟨b, hb, he⟩ := hx.2 cells ho
  refine ⟨.pointer (some ⟨b, c + XS P T f, none⟩), by simp only [execOp, wA, he, Sem.run_bind, qF hf, Result.andThen_ok, Sem.run_pure], rfl, fun wH _ => ⟨b, hb, rfl⟩⟩
 ·rename_i t j i c heq
  rw [heq] at hx
  obtain ⟨⟨q, size, rows, ho⟩, rfl⟩ := hs
  obtain ⟨b, n, cap, hb, he⟩ := hx.2 q size rows ho
  refine ⟨.pointer (some ⟨b, i * size + c + XS P T f, none⟩), by simp only [execOp, wA, he, Sem.run_bind, qF hf, Result.andThen_ok, Sem.run_pure], rfl, fun q' wW wK wZ => ?_⟩
  rw [ho] at wZ
  cases wZ
  exact ⟨b, n, cap, hb, by rw [Nat.add_assoc]⟩
 ·rename_i rr c heq
  rw [heq] at hx
  subst hs
  obtain ⟨b, off, g, he, hk⟩ := hx
  exact ⟨.pointer (some ⟨b, off + c + XS P T f, none⟩), by simp only [execOp, wA, he, Sem.run_bind, qF hf, Result.andThen_ok, Sem.run_pure], b, off, g, by rw [Nat.add_assoc], hk⟩
 ·rename_i t j i c k heq
  rw [heq] at hx
  obtain ⟨⟨size, rows, ho⟩, rfl⟩ := hs
  obtain ⟨b, n, cap, hb, he⟩ := hx.2 size rows ho
  refine ⟨.pointer (some ⟨b, k + XS P T f, none⟩), by simp only [execOp, wA, he, Sem.run_bind, qF hf, Result.andThen_ok, Sem.run_pure], rfl, fun wW wK wZ => ?_⟩
  rw [ho] at wZ
  cases wZ
  exact ⟨b, n, cap, hb, rfl⟩
 ·exact hs.elim
theorem RM (r : Rel T0 B σ a w X h) {o : Oper} {x : Operand} {v : V} (wA : o.op = .nilCheck x) (hs : Zv P σ o.op o.type v) :
  ∃ val, (execOp a.eval o).run P w = .ok (.value val) w /\ Xe (Tof T0 X) h σ.ob w v val := by
 simp only [wA, Zv] at hs
 obtain ⟨hg, hs⟩ := hs
 have hx := r.arg (P := P) 0 x rfl hg
 split at hs
 ·rename_i t c heq
  rw [heq] at hx
  obtain ⟨⟨cells, ho⟩, rfl⟩ := hs
  obtain ⟨b, hb, he⟩ := hx.2 cells ho
  exact ⟨.pointer (some ⟨b, c, none⟩), by simp only [execOp, wA, he, Sem.run_pure], rfl, fun wH _ => ⟨b, hb, rfl⟩⟩
 ·exact hs.elim
theorem j0 {T : TypeId} (ht : YS P T = true) (ad : Addr) (rF : ad.spot = none) (len cap : Nat) (k : IntKind) (i : Int) (h0 : 0 <= i) (hl : i < (len : Int)) :
  (Instr.indexAt T (.slice (some ad) len cap) (.int k i)).run P w = .ok (.pointer (some ⟨ad.block, ad.off + i.toNat * P.cellsOf (ZH P T), none⟩)) w := by
 obtain ⟨ti, hu, hi, vK⟩ := Yv ht
 obtain ⟨b, off, sp⟩ := ad
 simp at rF; subst rF
 simp [Instr.indexAt, asIntOf, run_underlying hu, h0, hl, QO hi, KI]
theorem Oy {T : TypeId} {n : Nat} (ht : T8 P T = some n) (ee : 1 < n) (b off : Nat) (k : IntKind) (i : Int) (h0 : 0 <= i) (hl : i < (n : Int)) :
  (Instr.indexAt T (.pointer (some ⟨b, off, none⟩)) (.int k i)).run P w = .ok (.pointer (some ⟨b, off + i.toNat * P.cellsOf (ZH P T), none⟩)) w := by
 obtain ⟨ti, hu, hi, vK⟩ := SS ht
 simp [Instr.indexAt, Instr.sureAddr, asIntOf, run_underlying hu, h0, hl, QO hi, KI]
theorem Tk (r : Rel T0 B σ a w X h) {o : Oper} {T : TypeId} {x ix : Operand} {v : V} (wA : o.op = .indexAddr T x ix) (hs : Zv P σ o.op o.type v) :
  ∃ val, (execOp a.eval o).run P w = .ok (.value val) w /\ Xe (Tof T0 X) h σ.ob w v val := by
 simp only [wA, Zv] at hs
 obtain ⟨k, i, iI, h0, hg, hs⟩ := hs
 have hx := r.arg (P := P) 0 x rfl hg
 have pc := KJ r iI
 split at hs
 ·rename_i size rows heq
  rw [heq] at hx
  obtain ⟨ht, rfl, vM, wO, rfl⟩ := hs
  have mT : i.toNat < rows.length := by omega
  obtain ⟨ad, len, cap, he, hlen, rF, g, hk⟩ := Rd.row (show Rd _ _ _ _ from hx) i.toNat mT vM
  refine ⟨.pointer (some ⟨ad.block, ad.off + i.toNat * P.cellsOf (ZH P T), none⟩), by simp only [execOp, wA, he, pc, Sem.run_bind, j0 ht ad rF len cap k i h0 (by omega), Result.andThen_ok, Sem.run_pure], ad.block, ad.off + i.toNat * P.cellsOf (ZH P T), g, by simp, hk⟩
 ·rename_i t j lo len heq
  rw [heq] at hx
  obtain ⟨ht, vM, ⟨q, rows, ho⟩, wO, rfl⟩ := hs
  obtain ⟨hle, _, _, base, cap, he, vj, _, _, hb⟩ := hx.2.1 _ _ rows ho
  obtain ⟨b, tP, hh, u9⟩ := hb (by omega)
  rw [u9] at he
  refine ⟨.pointer (some ⟨b, lo * P.cellsOf (ZH P T) + i.toNat * P.cellsOf (ZH P T), none⟩), by simp only [execOp, wA, he, pc, Sem.run_bind, j0 ht ⟨b, lo * P.cellsOf (ZH P T), none⟩ rfl len cap k i h0 wO, Result.andThen_ok, Sem.run_pure], rfl, fun q' wW wK wZ => ?_⟩
  rw [ho] at wZ
  cases wZ
  exact ⟨b, rows.length, tP, hh, by simp [Nat.add_mul]⟩
 ·rename_i t c heq
  rw [heq] at hx
  obtain ⟨⟨cells, ho⟩, ⟨n, hn, h1, wO⟩, rfl⟩ := hs
  obtain ⟨b, hb, he⟩ := hx.2 cells ho
  exact ⟨.pointer (some ⟨b, c + i.toNat * P.cellsOf (ZH P T), none⟩), by simp only [execOp, wA, he, pc, Sem.run_bind, Oy hn h1 b c k i h0 wO, Result.andThen_ok, Sem.run_pure], rfl, fun wH _ => ⟨b, hb, rfl⟩⟩
 ·rename_i t j m c heq
  rw [heq] at hx
  obtain ⟨ht, vM, ⟨size, rows, s, ho, hm, wG, wO⟩, rfl⟩ := hs
  obtain ⟨v0, S, hn, wF⟩ := r.nest ho hm wG
  have he : a.eval x = v0 := by rw [<- hn]; exact hx.2 size rows ho
  obtain ⟨b, cap, pf⟩ := wF.hdr (by omega)
  rw [pf] at he hn
  refine ⟨.pointer (some ⟨b, 0 + i.toNat * P.cellsOf (ZH P T), none⟩), by simp only [execOp, wA, he, pc, Sem.run_bind, j0 ht ⟨b, 0, none⟩ rfl s.length cap k i h0 wO, Result.andThen_ok, Sem.run_pure], rfl, fun wW wK wZ => ?_⟩
  rw [ho] at wZ
  cases wZ
  exact ⟨b, s.length, cap, hn, by simp⟩
 ·exact hs.elim
end
end Go.Vm
namespace Go.Vm
section
variable {P : Program} {T0 : CS} {B : Nat -> Prop} {σ : St} {a : Act} {w : World} {X : Nat -> Prop} {h : Nat -> Nat -> Hd}
theorem SN {T : TypeId} (ht : Kg P T = true) {cs : Array Value} {off : Nat} (hl : off + P.cellsOf T <= cs.size) :
  ∃ val, (part T cs off).run P w = .ok val w /\ (qc P T = true -> val = .agg (cut cs.toList off (P.cellsOf T)).toArray) /\ (qc P T = false -> cut cs.toList off (P.cellsOf T) = [val]) := by
 obtain ⟨d, i, hd, hi, vK, vE⟩ := zx ht
 cases th : qc P T with
 | true =>
  refine ⟨.agg (cs.extract off (off + P.cellsOf T)), ?_, fun _ => ?_, (fun hh => by cases hh)⟩
  ·simp only [part, Sem.run_bind, ko hd, th, Result.andThen_ok, if_true, QO hi, Sem.run_pure]
  ·congr 1
   apply Array.toList_inj.1
   simp [cut, Array.toList_extract, List.extract_eq_take_drop]
 | false =>
  rcases vE with vE | vE
  ·rw [th] at vE; cases vE
  ·rw [vE] at hl ⊢
   have wO : off < cs.size := by omega
   refine ⟨cs[off], ?_, (fun hh => by cases hh), fun _ => ?_⟩
   ·simp [part, ko hd, th, Array.getElem?_eq_getElem wO]
   ·have : cut cs.toList off 1 = [cs.toList[off]'(by simpa using wO)] := by
     simp only [cut]
     rw [List.drop_eq_getElem_cons (by simpa using wO)]
     simp
    rw [this]
    simp
theorem Nl {T : TypeId} (ht : Kg P T = true) {xs : List At} {x : Value} {off : Nat} (hx : Xe (Tof T0 X) h σ.ob w (.agg xs) x) (hl : off + P.cellsOf T <= xs.length) :
  ∃ cs : Array Value, x = .agg cs /\ ∃ val, (part T cs off).run P w = .ok val w /\ Xe (Tof T0 X) h σ.ob w (ldV P T (cut xs off (P.cellsOf T))) val := by
 obtain ⟨cs, rfl, wD⟩ := hx
 obtain ⟨val, hr, h1, h2⟩ := SN (P := P) (w := w) ht (cs := cs) (off := off) (by have := wD.length; simp at this; omega)
 exact ⟨cs, rfl, val, hr, LZ ht (wD.cut _ _) h1 h2⟩
theorem Ns (r : Rel T0 B σ a w X h) {o : Oper} {T : TypeId} {x ix : Operand} {v : V} (wA : o.op = .index T x ix) (hs : Zv P σ o.op o.type v) :
  ∃ val, (execOp a.eval o).run P w = .ok (.value val) w /\ Xe (Tof T0 X) h σ.ob w v val := by
 simp only [wA, Zv] at hs
 obtain ⟨k, i, iI, h0, hg, hs⟩ := hs
 have hx := r.arg (P := P) 0 x rfl hg
 have pc := KJ r iI
 split at hs
 ·rename_i s heq
  rw [heq] at hx
  obtain ⟨ht, wO, rfl⟩ := hs
  have he := kP hx
  have mT : i.toNat < s.size := by omega
  refine ⟨.int .u8 (s.data.toList.getD i.toNat 0).toNat, ?_, .int _ _⟩
  have vO : s[i.toNat]? = some (s.data.toList.getD i.toNat 0) := by
   rw [List.getD_eq_getElem?_getD]
   have h1 : s.data.toList[i.toNat]? = some (s.data[i.toNat]'mT) := by
    rw [List.getElem?_eq_getElem (by simpa using mT)]; simp
   rw [h1, getElem?_pos s i.toNat mT]
   rfl
  simp [execOp, wA, he, pc, Instr.index, asIntOf, run_underlying (K1 ht), h0, vO]
 ·rename_i xs heq
  rw [heq] at hx
  obtain ⟨⟨n, hn, wO⟩, ht, hl, rfl⟩ := hs
  obtain ⟨ti, hu, hi, vK⟩ := SS hn
  obtain ⟨cs, he, val, hr, hv⟩ := Nl ht hx hl
  refine ⟨val, ?_, hv⟩
  simp [execOp, wA, he, pc, Instr.index, asIntOf, run_underlying hu, h0, wO, QO hi, hr]
 ·exact hs.elim
theorem MB (r : Rel T0 B σ a w X h) {o : Oper} {T : TypeId} {x : Operand} {f : Nat} {v : V} (wA : o.op = .field T x f) (hs : Zv P σ o.op o.type v) :
  ∃ val, (execOp a.eval o).run P w = .ok (.value val) w /\ Xe (Tof T0 X) h σ.ob w v val := by
 simp only [wA, Zv] at hs
 obtain ⟨hg, hf, ht, hs⟩ := hs
 have hx := r.arg (P := P) 0 x rfl hg
 split at hs
 ·rename_i xs heq
  rw [heq] at hx
  obtain ⟨hl, rfl⟩ := hs
  obtain ⟨fs, fd, i, hu, rY, pH, uZ, hi, wB⟩ := WO hf
  obtain ⟨cs, he, val, hr, hv⟩ := Nl ht hx hl
  refine ⟨val, ?_, hv⟩
  rw [<- pH, <- uZ] at hr
  simp [execOp, wA, he, Instr.field, run_underlying hu, rY, asAgg, hr]
 ·exact hs.elim
theorem O1 (r : Rel T0 B σ a w X h) {vk n y : Nat} {x : Option Operand} {code : BoundsCode} (hb : bnd P σ vk x n) (hy : n <= y) (wB : x ≠ none) :
  (Instr.sliceBound ((x.map a.eval).getD undef) y code).run P w = .ok n w := by
 cases x with
 | none => exact absurd rfl wB
 | some x =>
  obtain ⟨k, i, hg, hx, h0, rfl⟩ := hb
  have he := jR (r.arg (P := P) 0 x hx hg)
  have : i <= (y : Int) := by omega
  simp [he, Instr.sliceBound, asIntOf, h0, this]
theorem Wi (r : Rel T0 B σ a w X h) {sl : Bool} {len cap l hh : Nat} {lo hi : Option Operand} (tE : bnd P σ 0 lo l) (sj : bnd P σ len hi hh) (h1 : l <= hh) (h2 : hh <= cap) :
  (Instr.sliceBounds sl len cap (lo.map a.eval) (hi.map a.eval) none).run P w = .ok (l, hh, cap) w := by
 unfold Instr.sliceBounds
 cases hi with
 | none =>
  cases sj
  cases lo with
  | none => cases tE; simp
  | some x =>
   have := O1 (w := w) r (code := .sliceB) tE h1 (by simp)
   simp at this
   simp [this]
 | some y =>
  have hb := O1 (w := w) r (code := if sl then .sliceAcap else .sliceAlen) sj h2 (by simp)
  simp at hb
  cases lo with
  | none => cases tE; simp [hb]
  | some x =>
   have := O1 (w := w) r (code := .sliceB) tE h1 (by simp)
   simp at this
   simp [this, hb]
theorem K5 {α : Type} (rows : List (List α)) (size l n : Nat) (hz : ∀ r ∈ rows, r.length = size) (k : Nat) (d : α) (hd : (cut rows l n).flatten[k]? = some d) : rows.flatten[l * size + k]? = some d := by
 induction rows generalizing l with
 | nil => simp [cut] at hd
 | cons r rows ih =>
  have hr : r.length = size := hz r (by simp)
  cases l with
  | zero =>
   simp only [cut, List.drop_zero, Nat.zero_mul, Nat.zero_add] at hd ⊢
   have ow : (r :: rows).flatten = ((r :: rows).take n).flatten ++ ((r :: rows).drop n).flatten := by rw [<- List.flatten_append, List.take_append_drop]
   rw [ow, List.getElem?_append_left (List.getElem?_eq_some_iff.1 hd).1]; exact hd
  | succ l =>
   have := ih l (fun r hr => hz r (by simp [hr])) (by simpa [cut] using hd)
   rw [List.flatten_cons, List.getElem?_append_right (by rw [hr, Nat.add_mul]; omega), hr]
   rw [show (l + 1) * size + k - size = l * size + k by rw [Nat.add_mul]; omega]; exact this
theorem Rd.cut {T : CS} {v : Value} {size : Nat} {rows : List (List D)} {base : Option Addr} {len cap : Nat} (hv : v = .slice base len cap) (r : Rd T w v (.sl size rows)) (l hh : Nat) (h1 : l <= hh) (h2 : hh <= rows.length) (fI : 0 < size \/ True) :
  Rd T w (.slice (if cap = l then base else base.map (·.add (l * size))) (hh - l) (cap - l)) (.sl size (Vm.cut rows l (hh - l))) := by
 subst hv
 cases r with
 | nil =>
  simp at h2; subst h2
  have : l = 0 := by omega
  subst this
  simp [Vm.cut]; exact .nil _
 | sl a len cap size rows g hl hc hm hz hs hg hr =>
  have hlen : (Vm.cut rows l (hh - l)).length = hh - l := YK _ _ _ (by omega)
  have ui : ∀ r ∈ Vm.cut rows l (hh - l), r.length = size := fun r hr => hz r (List.mem_of_mem_drop (List.mem_of_mem_take hr))
  by_cases wg : cap = l
  ·have h0 : hh - l = 0 := by omega
   have tJ : Vm.cut rows l (hh - l) = [] := List.eq_nil_of_length_eq_zero (by omega)
   rw [if_pos wg, tJ, h0]
   exact .sl a 0 (cap - l) size [] g rfl (Nat.zero_le _) (by omega) (by intro r hr; cases hr) (by simp) (by simp) (by simp)
  ·rw [if_neg wg]
   refine .sl (a.add (l * size)) (hh - l) (cap - l) size _ (fun k => g (l * size + k)) hlen (by omega) (by omega) ui (fun wB => ?_) (fun k d hd => ?_) (fun k d hd => hr _ _ (K5 rows size l _ hz k d hd))
   ·have : rows.flatten ≠ [] := by
     intro he
     apply wB
     cases wu : (Vm.cut rows l (hh - l)).flatten with
     | nil => rfl
     | cons d ds =>
      have := K5 rows size l (hh - l) hz 0 d (by rw [wu]; rfl)
      rw [he] at this; simp at this
    have rF := hs this
    unfold Addr.add; split <;> simp [rF]
   ·have rF : a.spot = none := hs (by
     intro he
     have := K5 rows size l (hh - l) hz k d hd
     rw [he] at this; simp at this)
    have := hg _ _ (K5 rows size l (hh - l) hz k d hd)
    obtain ⟨b, off, sp⟩ := a
    simp at rF; subst rF
    rw [KI]
    simp only [Nat.add_assoc] at this ⊢
    exact this
theorem N3 (r : Rel T0 B σ a w X h) {o : Oper} {T : TypeId} {x : Operand} {lo hi : Option Operand} {v : V} (wA : o.op = .slice T x lo hi none) (hs : Zv P σ o.op o.type v) :
  ∃ val, (execOp a.eval o).run P w = .ok (.value val) w /\ Xe (Tof T0 X) h σ.ob w v val := by
 simp only [wA, Zv] at hs
 obtain ⟨hg, hs⟩ := hs
 have hx := r.arg (P := P) 0 x rfl hg
 split at hs
 ·rename_i s heq
  rw [heq] at hx
  obtain ⟨ht, l, hh, tE, sj, h1, h2, rfl⟩ := hs
  have he := kP hx
  have hb := Wi (w := w) r (sl := false) tE sj h1 h2
  refine ⟨.string (s.extract l hh), ?_, .str _⟩
  simp [execOp, wA, he, Instr.sliceAt, Instr.slice, run_underlying (K1 ht), hb]
 ·rename_i size rows heq
  rw [heq] at hx
  obtain ⟨ht, rfl, l, hh, tE, sj, h1, h2, rfl⟩ := hs
  obtain ⟨ti, hu, vc, vK⟩ := Yv ht
  obtain ⟨base, cap, he, vj, uP⟩ := LJ (show Rd _ _ _ _ from hx)
  have hb := Wi (w := w) r (sl := true) (cap := cap) tE sj h1 (by omega)
  refine ⟨_, ?_, Rd.cut he hx l hh h1 h2 (.inr trivial)⟩
  simp [execOp, wA, he, Instr.sliceAt, Instr.slice, run_underlying hu, hb, QO vc]
 ·rename_i t j ef len heq
  rw [heq] at hx
  obtain ⟨ht, ⟨q, rows, ho⟩, l, hh, tE, sj, h1, h2, rfl⟩ := hs
  obtain ⟨ti, hu, vc, vK⟩ := Yv ht
  obtain ⟨hle, vm, uA, base, cap, he, vj, uP, s4, iE⟩ := hx.2.1 _ _ rows ho
  have hb := Wi (w := w) r (sl := true) (cap := cap) tE sj h1 (by omega)
  refine ⟨.slice (if cap = l then base else base.map (·.add (l * P.cellsOf (ZH P T)))) (hh - l) (cap - l), ?_, rfl, fun q' wW wK wZ => ?_, fun wW wK wZ => by rw [ho] at wZ; cases wZ⟩
  ·simp [execOp, wA, he, Instr.sliceAt, Instr.slice, run_underlying hu, hb, QO vc]
  ·rw [ho] at wZ
   cases wZ
   refine ⟨by omega, fun oK mR => ?_, fun mR => ?_, _, cap - l, rfl, by omega, by omega, fun hn => ?_, fun vM => ?_⟩
   ·have hl : l = 0 := by omega
    subst hl
    have : len = rows.length := by omega
    have hv := vm this (by omega)
    rw [<- hv, he]
    simp only [Nat.sub_zero, Nat.zero_mul]
    have h3 : hh = len := by omega
    rw [h3]
    congr 1
    split
    ·rfl
    ·cases base <;> simp [Addr.add]
   ·have hl : l = 0 := by omega
    subst hl
    have hv := uA (by omega)
    rw [he] at hv
    have mU : (if cap = 0 then base else base.map (·.add (0 * P.cellsOf (ZH P T)))) = base := by
     split
     ·rfl
     ·cases base <;> simp [Addr.add]
    rw [mU]
    unfold VU at hv ⊢
    revert hv
    cases (h t j).v with
    | slice b n c => intro hv; cases hv; simp
    | _ => intro hv; cases hv
   ·have pv : base = none := by
     by_cases wg : cap = l
     ·rw [if_pos wg] at hn; exact hn
     ·rw [if_neg wg] at hn; simpa using hn
    have := s4 pv; omega
   ·obtain ⟨b, tP, pL, u9⟩ := iE (by omega)
    refine ⟨b, tP, pL, ?_⟩
    rw [if_neg (by omega), u9]
    simp [KI, Nat.add_mul]
 ·exact hs.elim
end
end Go.Vm
namespace Go.Vm
section
variable {P : Program} {T0 : CS} {B : Nat -> Prop} {σ : St} {a : Act} {w : World} {X : Nat -> Prop} {h : Nat -> Nat -> Hd}
theorem M7 {α : Type} (l : List α) (k : Nat) (v : α) (vs : List α) (hk : k + (vs.length + 1) <= l.length) : place (l.set k v) (k + 1) vs = place l k (v :: vs) := by
 unfold place
 have h1 : (l.set k v).take (k + 1) = l.take k ++ [v] := by
  rw [List.take_set, List.take_succ_eq_append_getElem (by omega)]
  rw [List.set_append_right _ _ (by simp; omega)]
  simp [Nat.min_eq_left (show k <= l.length by omega)]
 have h2 : (l.set k v).drop (k + 1 + vs.length) = l.drop (k + (vs.length + 1)) := by
  rw [List.drop_set_of_lt (by omega)]; congr 1; omega
 rw [h1, h2]; simp
theorem TJ (off : Nat) : ∀ (vs : List Value) (j : Nat) (cs : Array Value), off + j + vs.length <= cs.size ->
  ((vs.zipIdx j).foldl (fun cs x => cs.setIfInBounds (off + x.2) x.1) cs).toList = place cs.toList (off + j) vs
 | [], j, cs, _ => by simp [place]
 | v :: vs, j, cs, hl => by
  rw [List.zipIdx_cons, List.foldl_cons, TJ off vs (j + 1) _ (by simp at hl ⊢; omega)]
  rw [Array.toList_setIfInBounds, show off + (j + 1) = off + j + 1 by omega, M7 _ _ _ _ (by simp at hl ⊢; omega)]
theorem jQ (off : Nat) (vs cs : Array Value) (hl : off + vs.size <= cs.size) :
  (vs.zipIdx.foldl (fun cs x => cs.setIfInBounds (off + x.2) x.1) cs).toList = place cs.toList off vs.toList := by
 rw [<- Array.foldl_toList, Array.toList_zipIdx, TJ off vs.toList 0 cs (by simpa using hl)]
 rfl
theorem Yw {α : Type} (r : List α) (off : Nat) (xs : List α) (hl : off + xs.length <= r.length) : (place r off xs).length = r.length := by
 simp [place]; omega
theorem Zg.place {α β : Type} {R : α -> β -> Prop} {l : List α} {m : List β} (x : Zg R l m) (off : Nat) {l' : List α} {m' : List β} (y : Zg R l' m') : Zg R (Vm.place l off l') (Vm.place m off m') := by
 unfold Vm.place
 rw [y.length]
 exact ((x.take _).append y).append (x.drop _)
theorem yO {T' : CS} {ob : Nat -> Nat -> Ob} {x : V} {v : Value} (hf : x.flat = true) (hv : Xe T' h ob w x v) : Zg (Zm T' h ob w) x.cells v.cells.toList := by
 cases x with
 | one c =>
  have h1 := Zm.Y4 (show Zm _ _ _ _ _ _ from hv)
  have : v.cells = #[v] := by cases v <;> first | rfl | (simp [Value.oneCell'] at h1)
  rw [this]
  exact .cons hv .nil
 | agg xs => obtain ⟨cs, rfl, wD⟩ := hv; exact wD
 | any => cases hf
 | tup xs => cases hf
 | cnd g x => cases hf
 | fix u x => cases hf
theorem RN (r : Rel T0 B σ a w X h) (T : TypeId) (pl : Nat -> Option (Nat × Nat)) (si : ∀ i, bOk P T i = true -> pl i = some (zc P T i, P.cellsOf (bTy P T i))) :
  ∀ (ps : List (Nat × Operand)) (row out : List At) (cells : Array Value), Zg (Zm (Tof T0 X) h σ.ob w) row cells.toList -> qS P σ T ps row out ->
   ∃ wH, Instr.fill pl cells (ps.map fun x => (x.1, a.eval x.2)) = some wH /\ Zg (Zm (Tof T0 X) h σ.ob w) out wH.toList
 | [], row, out, cells, wD, hb => by cases hb; exact ⟨cells, rfl, wD⟩
 | (i, x) :: ps, row, out, cells, wD, hb => by
  obtain ⟨wa, hg, hf, hlen, hle, hb⟩ := hb
  have hx := yO hf (r.arg (P := P) (bTy P T i) x rfl hg)
  have pw := hx.length
  have mR := wD.length
  have e1 : cells.toList.length = cells.size := Array.length_toList
  have e2 : (a.eval x).cells.toList.length = (a.eval x).cells.size := Array.length_toList
  have sF := wD.place (zc P T i) hx
  have heq := jQ (zc P T i) (a.eval x).cells cells (by omega)
  rw [<- heq] at sF
  obtain ⟨wH, h1, h2⟩ := RN r T pl si ps _ out _ sF hb
  refine ⟨wH, ?_, h2⟩
  have vK : (a.eval x).cells.size = P.cellsOf (bTy P T i) := by omega
  simp only [List.map_cons, Instr.fill, si i wa]
  rw [if_neg (by simp [vK]; omega)]
  exact h1
theorem run_places (fs : List Field) (rh : ∀ f ∈ fs, (P.info? f.type).isSome = true) (w : World) :
  (fs.mapM (m := Sem) fun f => do pure (f.offset, <- sizeOf f.type)).run P w = .ok (fs.map fun f => (f.offset, P.cellsOf f.type)) w := by
 induction fs with
 | nil => simp
 | cons f fs ih =>
  obtain ⟨i, hi⟩ := Option.isSome_iff_exists.1 (rh f (by simp))
  simp only [List.mapM_cons, Sem.run_bind, QO hi, Result.andThen_ok, Sem.run_pure, ih (fun f hf => rh f (by simp [hf])), List.map_cons]
theorem N5 (r : Rel T0 B σ a w X h) {o : Oper} {T : TypeId} {parts : Array (Nat × Operand)} {v : V} (wA : o.op = .build T parts) (hs : Zv P σ o.op o.type v) :
  ∃ val, (execOp a.eval o).run P w = .ok (.value val) w /\ Xe (Tof T0 X) h σ.ob w v val := by
 simp only [wA, Zv] at hs
 obtain ⟨hz, th, z, out, uc, hb, rfl⟩ := hs
 obtain ⟨i, zv, hi, iJ, vK, uY⟩ := T2 hz uc
 have uj : (zeroValue T).run P w = .ok zv w := by simp [zeroValue, typeInfo, hi, iJ]
 have tA : (parts.map fun (x : Nat × Operand) => (x.1, a.eval x.2)).toList = parts.toList.map fun x => (x.1, a.eval x.2) := by simp
 unfold qc at th
 split at th
 ·rename_i fs hu
  by_cases vH : ∀ f ∈ fs.toList, (P.info? f.type).isSome = true
  ·have si : ∀ i, bOk P T i = true -> (fs.toList.map fun f => (f.offset, P.cellsOf f.type)).toArray[i]? = some (zc P T i, P.cellsOf (bTy P T i)) := by
    intro i wa
    simp only [bOk, hu, Bool.and_eq_true, decide_eq_true_eq] at wa
    have wO := wa.2
    simp [zc, bTy, hu, XS, Kk, wO]
   obtain ⟨wH, h1, h2⟩ := RN r T _ si parts.toList z out zv.cells (uY _ _ _ _) hb
   refine ⟨.agg wH, ?_, wH, rfl, h2⟩
   have hm := run_places (P := P) fs.toList vH w
   have : (fs.mapM (m := Sem) fun f => do pure (f.offset, <- sizeOf f.type)).run P w = .ok (fs.toList.map fun f => (f.offset, P.cellsOf f.type)).toArray w := by
    rw [Array.mapM_eq_mapM_toList]
    change ((fs.toList.mapM (m := Sem) fun f => do pure (f.offset, <- sizeOf f.type)) >>= fun l => pure l.toArray).run P w = _
    simp only [Sem.run_bind, hm, Result.andThen_ok, Sem.run_pure]
   simp only [execOp, wA, Instr.build, Sem.run_bind, uj, Result.andThen_ok, run_underlying hu, this, tA, h1, Sem.run_pure]
  · -- no part can be placed: then there are none
   have tJ : parts.toList = [] := by
    cases hp : parts.toList with
    | nil => rfl
    | cons p ps =>
     obtain ⟨i, x⟩ := p
     rw [hp] at hb
     have wa := hb.1
     simp only [bOk, hu, Bool.and_eq_true] at wa
     exact absurd (by intro f hf; exact Array.all_eq_true'.1 wa.1 f (by simpa using hf)) vH
   exfalso
   rw [show (12 : Nat) = 11 + 1 from rfl, yM, hu] at uc
   simp only [Option.map_eq_some_iff] at uc
   obtain ⟨rs, um, _⟩ := uc
   apply vH
   intro f hf
   have : ∀ (l : List Field) (rs : List (List At)), l.mapM (fun f => yM P 11 f.type) = some rs -> ∀ f ∈ l, (P.info? f.type).isSome = true := by
    intro l
    induction l with
    | nil => intro rs _ f hf; cases hf
    | cons g l ih =>
     intro rs um f hf
     simp only [List.mapM_cons, Option.bind_eq_bind, Option.bind_eq_some_iff] at um
     obtain ⟨r0, tG, nL, oS, _⟩ := um
     rcases List.mem_cons.1 hf with rfl | hf
     ·rw [show (11 : Nat) = 10 + 1 from rfl, yM] at tG
      cases hi0 : P.info? f.type with
      | some i => rfl
      | none => simp [Program.underlying, hi0] at tG
     ·exact ih nL oS f hf
   exact this fs.toList rs um f hf
 ·rename_i n e hu
  cases pc : P.info? e with
  | none =>
   exfalso
   rw [show (12 : Nat) = 11 + 1 from rfl, yM, hu] at uc
   simp only [Option.map_eq_some_iff] at uc
   obtain ⟨r0, tG, _⟩ := uc
   rw [show (11 : Nat) = 10 + 1 from rfl, yM] at tG
   simp [Program.underlying, pc] at tG
  | some ie =>
   have si : ∀ i, bOk P T i = true -> (fun i => some (i * P.cellsOf e, P.cellsOf e)) i = some (zc P T i, P.cellsOf (bTy P T i)) := by
    intro i _
    simp [zc, bTy, hu]
   obtain ⟨wH, h1, h2⟩ := RN r T _ si parts.toList z out zv.cells (uY _ _ _ _) hb
   refine ⟨.agg wH, ?_, wH, rfl, h2⟩
   simp only [execOp, wA, Instr.build, Sem.run_bind, uj, Result.andThen_ok, run_underlying hu, QO pc, tA, h1, Sem.run_pure]
 ·cases th
theorem yi {t : TypeId} (ht : kq P t = true) {cs : Array Value} {i : Nat} {v : Value} (hv : cs[i]? = some v) : (part t cs i).run P w = .ok v w := by
 unfold kq at ht
 split at ht <;> first | (rename_i hu; simp [part, isAgg, run_underlying hu, hv]) | cases ht
theorem NQ {t : TypeId} {T' : CS} {ob : Nat -> Nat -> Ob} {x y : At} {u v : Value} {p : Bool} (hp : Gq P t x y = some p) (hx : Zm T' h ob w x u) (hy : Zm T' h ob w y v) (d : Nat) (w' : World) :
  (Op.equalIn (d + 1) t u v).run P w' = .ok p w' := by
 unfold Gq at hp
 split at hp
 ·rename_i k a' k' b'
  split at hp
  ·rename_i hc
   obtain ⟨rfl, hi⟩ := hc
   obtain ⟨k2, rl⟩ := Option.isSome_iff_exists.1 hi
   cases hp
   rw [jR hx, jR hy]
   exact Go.run_equalIn_int w' d t _ _ _ _ (RO rl)
  ·cases hp
 ·split at hp
  ·rename_i hc
   cases hp
   rw [zU hx, zU hy]
   have hu : P.underlying t = some .bool := by
    unfold Uv at hc; split at hc <;> first | assumption | cases hc
   exact Go.run_equalIn_bool' w' d t _ _ hu
  ·cases hp
 ·split at hp
  ·rename_i hc
   cases hp
   rw [kP hx, kP hy]
   rw [Go.run_equalIn_string w' d t _ _ (K1 hc), M5]
  ·cases hp
 ·cases hp
theorem UH {T' : CS} {ob : Nat -> Nat -> Ob} (d : Nat) (cs ds : Array Value) (w' : World) : ∀ (fs : List Field) (i : Nat) (xs ys : List At) (q : Bool), xP P fs i = true -> XK P (fs.map (·.type)) xs ys = some q ->
  Zg (Zm T' h ob w) xs (cs.toList.drop i) -> Zg (Zm T' h ob w) ys (ds.toList.drop i) -> (Op.eqFields (d + 1) cs ds fs).run P w' = .ok q w'
 | [], i, xs, ys, q, _, hq, _, _ => by simp [XK] at hq; subst hq; simp [Op.eqFields]
 | f :: fs, i, [], ys, q, _, hq, _, _ => by simp [XK] at hq
 | f :: fs, i, x :: xs, [], q, _, hq, _, _ => by simp [XK] at hq
 | f :: fs, i, x :: xs, y :: ys, q, wa, hq, hx, hy => by
  simp only [xP, Bool.and_eq_true, decide_eq_true_eq, beq_iff_eq] at wa
  obtain ⟨⟨⟨hn, ho⟩, vN⟩, wa⟩ := wa
  simp only [List.map_cons, XK] at hq
  split at hq
  ·rename_i p q' hp uT
   cases hq
   cases hcd : cs.toList.drop i with
   | nil => rw [hcd] at hx; cases hx
   | cons u us =>
    cases uK : ds.toList.drop i with
    | nil => rw [uK] at hy; cases hy
    | cons v vs =>
     rw [hcd] at hx; rw [uK] at hy
     cases hx with
     | cons iK hx =>
      cases hy with
      | cons iL hy =>
       have hu : cs[i]? = some u := by
        have : (cs.toList.drop i)[0]? = some u := by rw [hcd]; rfl
        simpa using this
       have hv : ds[i]? = some v := by
        have : (ds.toList.drop i)[0]? = some v := by rw [uK]; rfl
        simpa using this
       have fR : cs.toList.drop (i + 1) = us := by rw [<- List.drop_drop, hcd]; rfl
       have pt : ds.toList.drop (i + 1) = vs := by rw [<- List.drop_drop, uK]; rfl
       have ih := UH d cs ds w' fs (i + 1) xs ys q' wa uT (by rw [fR]; exact hx) (by rw [pt]; exact hy)
       subst ho
       simp only [Op.eqFields, if_pos hn, Sem.run_bind, yi vN hu, yi vN hv, Result.andThen_ok, NQ hp iK iL d w']
       cases p
       ·simp
       ·simpa using ih
  ·cases hq
theorem Wt (P : Program) : ∀ (ts : List TypeId) (xs ys : List At) (q : Bool), XK P ts xs ys = some q -> ts.length <= xs.length /\ ts.length <= ys.length
 | [], _, _, _, _ => ⟨Nat.zero_le _, Nat.zero_le _⟩
 | t :: ts, [], _, _, h => by simp [XK] at h
 | t :: ts, x :: xs, [], _, h => by simp [XK] at h
 | t :: ts, x :: xs, y :: ys, q, h => by
  simp only [XK] at h
  split at h
  ·rename_i p q' hp uT
   have := Wt P ts xs ys q' uT
   simp only [List.length_cons]; omega
  ·cases h
theorem TD (P : Program) : ∀ (ts : List TypeId) (xs ys : List At) (m : Nat), ts.length <= m -> XK P ts (xs.take m) (ys.take m) = XK P ts xs ys
 | [], _, _, _, _ => by simp [XK]
 | t :: ts, _, _, 0, h => by simp at h
 | t :: ts, [], _, m + 1, _ => by simp [XK]
 | t :: ts, x :: xs, [], m + 1, _ => by simp [XK]
 | t :: ts, x :: xs, y :: ys, m + 1, h => by
  simp only [List.take_succ_cons, XK]
  rw [TD P ts xs ys m (by simpa using h)]
theorem SW (P : Program) : ∀ (ts us : List TypeId) (xs ys : List At) (q : Bool), XK P (ts ++ us) xs ys = some q -> ∃ p q', XK P ts xs ys = some p /\ XK P us (xs.drop ts.length) (ys.drop ts.length) = some q' /\ q = (p && q')
 | [], us, xs, ys, q, h => ⟨true, q, by simp [XK], by simpa using h, by simp⟩
 | t :: ts, us, [], _, _, h => by simp [XK] at h
 | t :: ts, us, x :: xs, [], _, h => by simp [XK] at h
 | t :: ts, us, x :: xs, y :: ys, q, h => by
  simp only [List.cons_append, XK] at h
  split at h
  ·rename_i p q0 hp iH
   obtain ⟨p2, q2, h1, h2, h3⟩ := SW P ts us xs ys q0 iH
   cases h
   exact ⟨p && p2, q2, by simp only [XK, hp, h1], by simpa using h2, by rw [h3, Bool.and_assoc]⟩
  ·cases h
theorem Wj {T' : CS} {ob : Nat -> Nat -> Ob} (d : Nat) (cs ds : Array Value) (w' : World) : ∀ (fs : List Field) (i : Nat) (xs ys : List At) (q : Bool), qi P fs i = true -> XK P (fs.flatMap (P1 P)) xs ys = some q ->
  Zg (Zm T' h ob w) xs (cs.toList.drop i) -> Zg (Zm T' h ob w) ys (ds.toList.drop i) -> (Op.eqFields (d + 2) cs ds fs).run P w' = .ok q w'
 | [], i, xs, ys, q, _, hq, _, _ => by simp [XK] at hq; subst hq; simp [Op.eqFields]
 | f :: fs, i, xs, ys, q, wa, hq, hx, hy => by
  simp only [qi, Bool.and_eq_true, decide_eq_true_eq, beq_iff_eq] at wa
  obtain ⟨⟨hn, ho⟩, wa⟩ := wa
  subst ho
  rw [List.flatMap_cons] at hq
  obtain ⟨p, q', hp, uT, rfl⟩ := SW P _ _ _ _ _ hq
  cases vN : kq P f.type with
  | true =>
   rw [vN, if_pos rfl] at wa
   have hl : P1 P f = [f.type] := by unfold P1; rw [vN, if_pos rfl]
   rw [hl] at hp uT
   have vd := UH (P := P) (d + 1) cs ds w' [f] f.offset xs ys p (by simp only [xP, Bool.and_eq_true, decide_eq_true_eq, beq_iff_eq]; exact ⟨⟨⟨hn, trivial⟩, vN⟩, trivial⟩) hp hx hy
   have ih := Wj d cs ds w' fs (f.offset + 1) (xs.drop 1) (ys.drop 1) q' wa uT (by rw [<- List.drop_drop]; exact hx.drop 1) (by rw [<- List.drop_drop]; exact hy.drop 1)
   simp only [Op.eqFields, if_pos hn] at vd ⊢
   have hlen := Wt P _ _ _ _ hp
   have rM := hx.length
   have v9 := hy.length
   simp only [List.length_cons, List.length_nil, List.length_drop, Array.length_toList] at hlen rM v9
   have hu : cs[f.offset]? = some (cs[f.offset]'(by omega)) := Array.getElem?_eq_getElem _
   have hv : ds[f.offset]? = some (ds[f.offset]'(by omega)) := Array.getElem?_eq_getElem _
   simp only [Sem.run_bind, yi vN hu, yi vN hv, Result.andThen_ok] at vd ⊢
   cases xs with
   | nil => simp at hlen
   | cons x xs =>
    cases ys with
    | nil => simp at hlen
    | cons y ys =>
     obtain ⟨u, fL, iK⟩ := hx.get 0 x rfl
     obtain ⟨v, vG, iL⟩ := hy.get 0 y rfl
     simp only [XK] at hp
     split at hp
     ·rename_i p0 q0 fJ iH
      cases iH
      cases hp
      have e1 : cs[f.offset]'(by omega) = u := by
       have : cs[f.offset]? = some u := by simpa using fL
       rw [hu] at this; exact Option.some.inj this
      have e2 : ds[f.offset]'(by omega) = v := by
       have : ds[f.offset]? = some v := by simpa using vG
       rw [hv] at this; exact Option.some.inj this
      rw [e1, e2, NQ fJ iK iL (d + 1) w', Result.andThen_ok]
      cases p0
      ·simp
      ·simpa using ih
     ·cases hp
  | false =>
   rw [vN, if_neg (by simp)] at wa
   cases hu : P.underlying f.type with
   | none => rw [hu] at wa; cases wa
   | some de =>
    rw [hu] at wa
    cases de with
    | struct gs =>
     simp only [Bool.and_eq_true, beq_iff_eq, Bool.not_eq_true', decide_eq_true_eq] at wa
     obtain ⟨⟨⟨⟨⟨⟨uZ, th⟩, wg⟩, m7⟩, wb⟩, fM⟩, wa⟩ := wa
     have hl : P1 P f = gs.toList.map (·.type) := by unfold P1; rw [vN, if_neg (by simp), hu]
     rw [hl] at hp uT
     rw [List.length_map, Array.length_toList] at uT
     have hf : P.fieldsOf f.type = gs := by simp [Program.fieldsOf, hu]
     have hlen := Wt P _ _ _ _ hp
     have rM := hx.length
     have v9 := hy.length
     simp only [List.length_map, Array.length_toList, List.length_drop] at hlen rM v9
     have ih := Wj d cs ds w' fs (f.offset + gs.size) (xs.drop gs.size) (ys.drop gs.size) q' wa uT (by rw [<- List.drop_drop]; exact hx.drop gs.size) (by rw [<- List.drop_drop]; exact hy.drop gs.size)
     obtain ⟨va, fN, mS, _⟩ := SN (P := P) (w := w') uZ (cs := cs) (off := f.offset) (by rw [wg]; omega)
     obtain ⟨vb, ld, vP, _⟩ := SN (P := P) (w := w') uZ (cs := ds) (off := f.offset) (by rw [wg]; omega)
     rw [wg] at mS vP
     have pY : (Op.equalIn (d + 2) f.type va vb).run P w' = .ok p w' := by
      rw [mS th, vP th, show d + 2 = (d + 1) + 1 from rfl, Go.run_equalIn_struct w' (d + 1) f.type _ _ (by rw [hf]; exact hu) wb, hf]
      refine UH (P := P) (h := h) (w := w) (T' := T') (ob := ob) d _ _ w' gs.toList 0 (xs.take gs.size) (ys.take gs.size) p fM ?_ ?_ ?_
      ·rw [TD P _ _ _ _ (by simp)]; exact hp
      ·simpa [cut] using hx.take gs.size
      ·simpa [cut] using hy.take gs.size
     simp only [Op.eqFields, if_pos hn, Sem.run_bind, fN, ld, Result.andThen_ok, pY]
     cases p
     ·simp
     ·simpa using ih
    | _ => cases wa
theorem IL {T : TypeId} {T' : CS} {ob : Nat -> Nat -> Ob} {xs ys : List At} {u v : Value} {q : Bool} (wa : WB P T = true) (hq : XK P (JC P T) xs ys = some q)
  (hx : Xe T' h ob w (.agg xs) u) (hy : Xe T' h ob w (.agg ys) v) (op : BinOp) (x y : Operand) (w' : World) :
  (eqGuard op T x y u v).run P w' = .ok () w' /\ (binOp .eql T u v).run P w' = .ok (.bool q) w' /\ (binOp .neq T u v).run P w' = .ok (.bool (!q)) w' := by
 obtain ⟨cs, rfl, uO⟩ := hx
 obtain ⟨ds, rfl, s3⟩ := hy
 unfold WB at wa
 split at wa
 ·rename_i fs hu
  simp only [Bool.and_eq_true, Bool.not_eq_true'] at wa
  have hf : P.fieldsOf T = fs := by simp [Program.fieldsOf, hu]
  have uF : P.underlying T = some (.struct (P.fieldsOf T)) := by rw [hf]; exact hu
  have wV : (Op.equalIn 10000 T (.agg cs) (.agg ds)).run P w' = .ok q w' := by
   rw [show (10000 : Nat) = 9999 + 1 from rfl, Go.run_equalIn_struct w' 9999 T cs ds uF wa.1.1, show (9999 : Nat) = 9997 + 2 from rfl]
   exact Wj 9997 cs ds w' _ 0 xs ys q (by rw [hf]; exact wa.2) hq (by simpa using uO) (by simpa using s3)
  refine ⟨Go.run_eqGuard_agg w' op T x y cs ds wa.1.2, ?_, ?_⟩
  ·rw [Go.run_eql_struct, wV]; rfl
  ·rw [Go.run_neq_struct, wV]; rfl
 ·cases wa
end
end Go.Vm
namespace Go.Vm
section
variable {P : Program} {T0 : CS} {B : Nat -> Prop} {σ : St} {a : Act} {w : World} {X : Nat -> Prop} {h : Nat -> Nat -> Hd}
theorem RK (r : Rel T0 B σ a w X h) {o : Oper} {x : Operand} {v : V} (wA : o.op = .move x \/ o.op = .assign x) (hs : Zv P σ o.op o.type v) :
  ∃ val, (execOp a.eval o).run P w = .ok (.value val) w /\ Xe (Tof T0 X) h σ.ob w v val := by
 rcases wA with wA | wA <;>
 ·simp only [wA, Zv] at hs
  subst hs
  exact ⟨a.eval x, by simp [execOp, wA], r.look _ x⟩
theorem LC (r : Rel T0 B σ a w X h) {o : Oper} {c x y : Operand} {v : V} (wA : o.op = .pick c x y) (hs : Zv P σ o.op o.type v) :
  ∃ val, (execOp a.eval o).run P w = .ok (.value val) w /\ Xe (Tof T0 X) h σ.ob w v val := by
 simp only [wA, Zv] at hs
 obtain ⟨bc, p, q, hg, hc, hp, hq, m7, fO, rfl⟩ := hs
 have he := zU (r.arg (P := P) o.type c hc hg)
 cases bc with
 | true =>
  have hx := zU (r.arg (P := P) o.type x (hp rfl) (m7 rfl))
  exact ⟨.bool p, by simp [execOp, wA, he, asBool, hx], .bool _⟩
 | false =>
  have hy := zU (r.arg (P := P) o.type y (hq rfl) (fO rfl))
  exact ⟨.bool q, by simp [execOp, wA, he, asBool, hy], .bool _⟩
theorem zL (op : BinOp) (T : TypeId) (x y : Operand) {v u : Value} (hv : ∀ cs, v ≠ .agg cs) (hn : v ≠ .nilIface) : (eqGuard op T x y v u).run P w = .ok () w := by
 unfold eqGuard
 cases op <;> simp <;> (split <;> first | exact absurd rfl hn | exact absurd rfl (hv _) | simp)
theorem ID (r : Rel T0 B σ a w X h) {o : Oper} {op : BinOp} {T T' : TypeId} {x y : Operand} {v : V} (wA : o.op = .binOp op T x y T') (hs : Zv P σ o.op o.type v) :
  ∃ val, (execOp a.eval o).run P w = .ok (.value val) w /\ Xe (Tof T0 X) h σ.ob w v val := by
 simp only [wA, Zv] at hs
 obtain ⟨tW, tX, hs⟩ := hs
 have hx := r.arg (P := P) T x rfl tW
 have hy := r.arg (P := P) T y rfl tX
 unfold MD at hs
 split at hs
 ·rename_i k m k' n heq tH
  rw [heq] at hx; rw [tH] at hy
  have ex := jR hx
  have ey := jR hy
  obtain ⟨d, rfl, val, hr, hd⟩ := Mm (P := P) (t := T) hs.1 hs.2 w
  refine ⟨val, ?_, hd _ _⟩
  simp only [execOp, wA, ex, ey, Sem.run_bind, zL op T x y (v := .int k m) (u := .int k' n) (by simp) (by simp), Result.andThen_ok, hr, Sem.run_pure]
 ·rename_i m n heq tH
  rw [heq] at hx; rw [tH] at hy
  have ex := kP hx
  have ey := kP hy
  obtain ⟨d, rfl, val, hr, hd⟩ := M0 (P := P) (t := T) hs w
  refine ⟨val, ?_, hd _ _⟩
  simp only [execOp, wA, ex, ey, Sem.run_bind, zL op T x y (v := .string m) (u := .string n) (by simp) (by simp), Result.andThen_ok, hr, Sem.run_pure]
 ·rename_i m n heq tH
  rw [heq] at hx; rw [tH] at hy
  have ex := zU hx
  have ey := zU hy
  obtain ⟨d, rfl, val, hr, hd⟩ := N4 (P := P) (t := T) hs.1 hs.2 w
  refine ⟨val, ?_, hd _ _⟩
  simp only [execOp, wA, ex, ey, Sem.run_bind, zL op T x y (v := .bool m) (u := .bool n) (by simp) (by simp), Result.andThen_ok, hr, Sem.run_pure]
 ·rename_i xs ys heq tH
  rw [heq] at hx; rw [tH] at hy
  obtain ⟨wa, q, hq, hs⟩ := hs
  obtain ⟨h1, h2, h3⟩ := IL (P := P) wa hq hx hy op x y w
  rcases hs with ⟨rfl, rfl⟩ | ⟨rfl, rfl⟩
  ·exact ⟨.bool q, by simp only [execOp, wA, Sem.run_bind, h1, Result.andThen_ok, h2, Sem.run_pure], .bool _⟩
  ·exact ⟨.bool (!q), by simp only [execOp, wA, Sem.run_bind, h1, Result.andThen_ok, h3, Sem.run_pure], .bool _⟩
 ·exact hs.elim
theorem GI (r : Rel T0 B σ a w X h) {o : Oper} {op : UnOp} {T : TypeId} {x : Operand} {v : V} (wA : o.op = .unOp op T x) (hs : Zv P σ o.op o.type v) :
  ∃ val, (execOp a.eval o).run P w = .ok (.value val) w /\ Xe (Tof T0 X) h σ.ob w v val := by
 simp only [wA, Zv] at hs
 obtain ⟨hg, hs⟩ := hs
 have hx := r.arg (P := P) 0 x rfl hg
 split at hs
 ·rename_i b heq
  rw [heq] at hx
  subst hs
  have he := zU hx
  exact ⟨.bool (!b), by simp [execOp, wA, he, Op.unary], .bool _⟩
 ·rename_i k n heq
  rw [heq] at hx
  subst hs
  have he := jR hx
  exact ⟨.int k (k.wrap (-n)), by simp [execOp, wA, he, Op.unary, Op.intArith], .int _ _⟩
 ·exact hs.elim
theorem PG (r : Rel T0 B σ a w X h) {o : Oper} {S T : TypeId} {x : Operand} {v : V} (wA : o.op = .convert S T x) (hS : (P.underlying S).isSome = true) (hs : Zv P σ o.op o.type v) :
  ∃ val, (execOp a.eval o).run P w = .ok (.value val) w /\ Xe (Tof T0 X) h σ.ob w v val := by
 simp only [wA, Zv] at hs
 obtain ⟨hg, _, hs⟩ := hs
 have hx := r.arg (P := P) 0 x rfl hg
 split at hs
 ·rename_i k' n heq
  rw [heq] at hx
  obtain ⟨k, hk, rfl⟩ := hs
  have he := jR hx
  obtain ⟨d, hd⟩ := Option.isSome_iff_exists.1 hS
  exact ⟨.int k (k.wrap n), by simp [execOp, wA, he, convert, run_underlying hd, run_underlying (RO hk), Conv.intToInt], .int _ _⟩
 ·exact hs.elim
theorem Rt (r : Rel T0 B σ a w X h) {o : Oper} {x : Operand} {i : Nat} {v : V} (wA : o.op = .extract x i) (hs : Zv P σ o.op o.type v) :
  ∃ val, (execOp a.eval o).run P w = .ok (.value val) w /\ Xe (Tof T0 X) h σ.ob w v val := by
 simp only [wA, Zv] at hs
 obtain ⟨hg, hs⟩ := hs
 have hx := r.arg (P := P) 0 x rfl hg
 split at hs
 ·rename_i xs heq
  rw [heq] at hx
  obtain ⟨vs, he, wD⟩ := hx
  obtain ⟨val, u4, hr⟩ := wD.get i v hs.1
  have : vs[i]? = some val := by simpa using u4
  exact ⟨val, by simp [execOp, wA, he, Instr.extract, this], hr.up⟩
 ·exact hs.elim
theorem NM (r : Rel T0 B σ a w X h) {o : Oper} {c : Call} {v : V} (wA : o.op = .call c) (hs : Zv P σ o.op o.type v) :
  ∃ val, (execOp a.eval o).run P w = .ok (.value val) w /\ Xe (Tof T0 X) h σ.ob w v val := by
 simp only [wA, Zv] at hs
 obtain ⟨callee, args, argTypes⟩ := c
 simp only at hs
 split at hs
 ·rename_i x t ha ht
  obtain rfl : args = #[x] := by apply Array.toList_inj.1; simpa using ha
  obtain rfl : argTypes = #[t] := by apply Array.toList_inj.1; simpa using ht
  obtain ⟨hg, hs⟩ := hs
  have hx := r.arg (P := P) t x rfl hg
  split at hs
  ·rename_i s heq
   rw [heq] at hx
   obtain ⟨wb, rfl⟩ := hs
   have he := kP hx
   exact ⟨.int .i64 s.size, by simp [execOp, wA, resolve, invoke, builtin, he, Builtin.len_, run_underlying (K1 wb), goInt], .int _ _⟩
  ·rename_i size rows heq
   rw [heq] at hx
   obtain ⟨wb, rfl⟩ := hs
   obtain ⟨ti, hu, _, _⟩ := Yv wb
   obtain ⟨base, cap, he, _, _⟩ := LJ (show Rd _ _ _ _ from hx)
   exact ⟨.int .i64 rows.length, by simp [execOp, wA, resolve, invoke, builtin, he, Builtin.len_, run_underlying hu, goInt], .int _ _⟩
  ·rename_i size heq
   rw [heq] at hx
   obtain ⟨wb, rfl⟩ := hs
   obtain ⟨ti, hu, _, _⟩ := Yv wb
   have he : a.eval x = .slice none 0 0 := hx
   exact ⟨.int .i64 0, by simp [execOp, wA, resolve, invoke, builtin, he, Builtin.len_, run_underlying hu, goInt], .int _ _⟩
  ·rename_i u j lo len heq
   rw [heq] at hx
   obtain ⟨wb, ho, rfl⟩ := hs
   obtain ⟨ti, hu, _, _⟩ := Yv wb
   have pL : ∃ base cap, a.eval x = .slice base len cap := by
    rcases ho with ⟨q, size, rows, ho⟩ | ⟨size, rows, ho⟩
    ·obtain ⟨_, _, _, base, cap, he, _, _, _, _⟩ := hx.2.1 _ _ _ ho
     exact ⟨base, cap, he⟩
    ·obtain ⟨_, _, _, base, cap, he, _, _, _, _⟩ := hx.2.2 _ _ ho
     exact ⟨base, cap, he⟩
   obtain ⟨base, cap, he⟩ := pL
   exact ⟨.int .i64 len, by simp [execOp, wA, resolve, invoke, builtin, he, Builtin.len_, run_underlying hu, goInt], .int _ _⟩
  ·rename_i u j i c heq
   rw [heq] at hx
   obtain ⟨wb, size, rows, n, s, ho, hi, wG, rfl⟩ := hs
   obtain ⟨ti, hu, _, _⟩ := Yv wb
   obtain ⟨v0, S, hn, wF⟩ := r.nest ho hi wG
   have oE : a.eval x = _ := hx.2 _ _ ho
   rw [hn] at oE
   have he : ∃ base cap, a.eval x = .slice base s.length cap := by
    rw [oE]
    cases wF with
    | sl v size rows S e xs Sk uW hz hb hl hk hs hd =>
     rcases uW.2 with ⟨rfl, h0⟩ | ⟨g, cap, cur, rfl, _⟩
     ·exact ⟨none, 0, by rw [h0]⟩
     ·exact ⟨_, cap, rfl⟩
   obtain ⟨base, cap, he⟩ := he
   exact ⟨.int .i64 s.length, by simp [execOp, wA, resolve, invoke, builtin, he, Builtin.len_, run_underlying hu, goInt], .int _ _⟩
  ·exact hs.elim
 ·rename_i x y ha
  obtain rfl : args = #[x, y] := by apply Array.toList_inj.1; simpa using ha
  obtain ⟨k, m, n, hx, hy, rfl⟩ := hs
  have ex := KJ r hx
  have ey := KJ r hy
  exact ⟨.int k (if n > m then n else m), by simp [execOp, wA, resolve, invoke, builtin, ex, ey, Builtin.max_, Builtin.max2], .int _ _⟩
 ·rename_i x y ha
  obtain rfl : args = #[x, y] := by apply Array.toList_inj.1; simpa using ha
  obtain ⟨k, m, n, hx, hy, rfl⟩ := hs
  have ex := KJ r hx
  have ey := KJ r hy
  exact ⟨.int k (if n < m then n else m), by simp [execOp, wA, resolve, invoke, builtin, ex, ey, Builtin.min_, Builtin.min2], .int _ _⟩
 ·exact hs.elim
theorem yU (r : Rel T0 B σ a w X h) {o : Oper} {v : V} (hs : Zv P σ o.op o.type v) :
  ∃ val, (execOp a.eval o).run P w = .ok (.value val) w /\ Xe (Tof T0 X) h σ.ob w v val := by
 cases wA : o.op with
 | move x => exact RK r (.inl wA) hs
 | assign x => exact RK r (.inr wA) hs
 | pick c x y => exact LC r wA hs
 | load T x => exact LA r wA hs
 | fieldAddr T x f => exact TY r wA hs
 | nilCheck x => exact RM r wA hs
 | indexAddr T x i => exact Tk r wA hs
 | index T x i => exact Ns r wA hs
 | field T x f => exact MB r wA hs
 | slice T x lo hi m =>
  cases m with
  | none => exact N3 r wA hs
  | some m => rw [wA] at hs; exact hs.elim
 | binOp op T x y T' => exact ID r wA hs
 | unOp op T x => exact GI r wA hs
 | convert S T x => rw [wA] at hs; exact PG r wA hs.2.1 (by rw [wA]; exact hs)
 | extract x i => exact Rt r wA hs
 | call c => exact NM r wA hs
 | build T ps => exact N5 r wA hs
 | _ => rw [wA] at hs; exact hs.elim
end
end Go.Vm
namespace Go.Vm
def At.ref (d : Nat) : At -> Bool
 | .sref t _ _ _ => t == d
 | .ptr t _ _ _ => t == d
 | .bptr t _ => t == d
 | .fn _ t => t == d
 | .tref t _ _ _ _ => t == d
 | _ => false
def Zs (d : Nat) : List At -> Bool
 | [] => false
 | x :: xs => x.ref d || Zs d xs
def V.VQ (d : Nat) : V -> Bool
 | .one x => x.ref d
 | .agg xs => Zs d xs
 | _ => false
def qe (d : Nat) : List V -> Bool
 | [] => false
 | x :: xs => x.VQ d || qe d xs
def V.ref (d : Nat) : V -> Bool
 | .tup xs => qe d xs
 | .cnd _ x => x.VQ d || (match x with | .tup xs => qe d xs | _ => false)
 | .one x => x.ref d
 | .agg xs => Zs d xs
 | .fix _ x => x.VQ d || (match x with | .tup xs => qe d xs | _ => false)
 | .any => false
def YB (d : Nat) : List Ob -> Bool
 | [] => false
 | .box cells :: os => Zs d cells || YB d os
 | .lit _ rows :: os => Zs d rows.flatten || YB d os
 | _ :: os => YB d os
def JX (d : Nat) : Nat -> St -> Bool
 | _, [] => true
 | k, e :: σ => (k == d || (!e.1.ref d && !YB d e.2)) && JX d (k + 1) σ
def St.fresh (σ : St) (d : Nat) : Bool := decide (d < σ.length) && JX d 0 σ
theorem KC {d : Nat} : ∀ {σ : St} {k : Nat}, JX d k σ = true -> ∀ t e, σ[t]? = some e -> k + t ≠ d -> e.1.ref d = false /\ YB d e.2 = false
 | [], _, _, t, e, he, _ => by simp at he
 | e0 :: σ, k, hf, t, e, he, wB => by
  simp only [JX, Bool.and_eq_true, Bool.or_eq_true, beq_iff_eq, Bool.not_eq_true'] at hf
  cases t with
  | zero =>
   simp at he; subst he
   rcases hf.1 with h | h
   ·omega
   ·exact h
  | succ t => exact KC hf.2 t e (by simpa using he) (by omega)
theorem St.IG {σ : St} {d : Nat} (hf : σ.fresh d = true) (t : Nat) (wB : t ≠ d) : (σ.get t).ref d = false := by
 simp only [St.fresh, Bool.and_eq_true] at hf
 unfold St.get
 cases he : σ[t]? with
 | none => rfl
 | some e => exact (KC hf.2 t e he (by omega)).1
theorem Pe {d : Nat} : ∀ {os : List Ob}, YB d os = false -> ∀ j cells, Zw os j = .box cells -> Zs d cells = false
 | [], _, j, cells, h => by simp [Zw] at h
 | o :: os, hr, j, cells, h => by
  cases j with
  | zero =>
   simp [Zw] at h; subst h
   simp [YB] at hr; exact hr.1
  | succ j =>
   have : Zw os j = .box cells := by simpa [Zw] using h
   refine Pe (os := os) ?_ j cells this
   cases o <;> simp_all [YB]
theorem Sp {d : Nat} : ∀ {os : List Ob}, YB d os = false -> ∀ j size rows, Zw os j = .lit size rows -> Zs d rows.flatten = false
 | [], _, j, _, _, h => by simp [Zw] at h
 | o :: os, hr, j, size, rows, h => by
  cases j with
  | zero =>
   simp [Zw] at h; subst h
   simp [YB] at hr; exact hr.1
  | succ j =>
   have : Zw os j = .lit size rows := by simpa [Zw] using h
   refine Sp (os := os) ?_ j size rows this
   cases o <;> simp_all [YB]
theorem St.Ib {σ : St} {d : Nat} (hf : σ.fresh d = true) (t j : Nat) (wB : t ≠ d) (size : Nat) (rows : List (List At)) (ho : σ.ob t j = .lit size rows) : Zs d rows.flatten = false := by
 simp only [St.fresh, Bool.and_eq_true] at hf
 unfold St.ob at ho
 cases he : σ[t]? with
 | none => rw [he] at ho; cases ho
 | some e => rw [he] at ho; exact Sp (KC hf.2 t e he (by omega)).2 j size rows ho
theorem St.HQ {σ : St} {d : Nat} (hf : σ.fresh d = true) (t j : Nat) (wB : t ≠ d) (cells : List At) (ho : σ.ob t j = .box cells) : Zs d cells = false := by
 simp only [St.fresh, Bool.and_eq_true] at hf
 unfold St.ob at ho
 cases he : σ[t]? with
 | none => rw [he] at ho; cases ho
 | some e => rw [he] at ho; exact Pe (KC hf.2 t e he (by omega)).2 j cells ho
theorem St.QN {σ : St} {d : Nat} (hf : σ.fresh d = true) : d < σ.length := by
 simp only [St.fresh, Bool.and_eq_true, decide_eq_true_eq] at hf; exact hf.1
def Cpt (h h' : Nat -> Nat -> Hd) (ob uE : Nat -> Nat -> Ob) (t j : Nat) : Prop :=
 (∀ q size rows, uE t j = .arr q size rows -> h' t j = h t j /\ ∃ wS, ob t j = .arr q size wS /\ wS.length = rows.length) /\
 (∀ size rows, uE t j = .lit size rows -> h' t j = h t j /\ ∃ wS, ob t j = .lit size wS /\ wS.length = rows.length) /\
 (∀ cells, uE t j = .box cells -> h' t j = h t j /\ ∃ vf, ob t j = .box vf)
theorem Cpt.same {h h' : Nat -> Nat -> Hd} {ob uE : Nat -> Nat -> Ob} {t j : Nat} (hh : h' t j = h t j) (ho : uE t j = ob t j) : Cpt h h' ob uE t j :=
 ⟨fun q size rows e => ⟨hh, rows, by rw [<- ho]; exact e, rfl⟩, fun size rows e => ⟨hh, rows, by rw [<- ho]; exact e, rfl⟩, fun cells e => ⟨hh, cells, by rw [<- ho]; exact e⟩⟩
section
variable {T T' : CS} {h h' : Nat -> Nat -> Hd} {ob uE : Nat -> Nat -> Ob} {w w' : World} {d : Nat}
theorem Zm.carry (hT : ∀ b k v, T b k -> w.cell? ⟨b, k, none⟩ = some v -> w'.cell? ⟨b, k, none⟩ = some v /\ T' b k) (hc : ∀ t j, t ≠ d -> Cpt h h' ob uE t j)
  {x : At} {v : Value} (hx : x.ref d = false) (r : Zm T h ob w x v) : Zm T' h' uE w' x v := by
 cases x with
 | any => exact r
 | d x => exact Rd.mono hT r
 | nil s => exact r
 | sref t j lo len =>
  have ht : t ≠ d := by simpa [At.ref] using hx
  refine ⟨r.1, fun q size rows ho => ?_, fun size rows ho => ?_⟩
  ·obtain ⟨hh, wS, vL, hl⟩ := (hc t j ht).1 q size rows ho
   rw [hh, <- hl]; exact r.2.1 q size wS vL
  ·obtain ⟨hh, wS, vL, hl⟩ := (hc t j ht).2.1 size rows ho
   rw [hh, <- hl]; exact r.2.2 size wS vL
 | ptr t j i c =>
  have ht : t ≠ d := by simpa [At.ref] using hx
  refine ⟨r.1, fun q size rows ho => ?_⟩
  obtain ⟨hh, wS, vL, hl⟩ := (hc t j ht).1 q size rows ho
  rw [hh]; exact r.2 q size wS vL
 | bptr t c =>
  have ht : t ≠ d := by simpa [At.ref] using hx
  refine ⟨r.1, fun cells ho => ?_⟩
  obtain ⟨hh, vf, vL⟩ := (hc t 0 ht).2.2 cells ho
  rw [hh]; exact r.2 vf vL
 | fn f t =>
  have ht : t ≠ d := by simpa [At.ref] using hx
  refine ⟨r.1, fun cells ho => ?_⟩
  obtain ⟨hh, vf, vL⟩ := (hc t 0 ht).2.2 cells ho
  rw [hh]; exact r.2 vf vL
 | tref t j i c o =>
  have ht : t ≠ d := by simpa [At.ref] using hx
  refine ⟨r.1, fun size rows ho => ?_⟩
  obtain ⟨hh, wS, vL, hl⟩ := (hc t j ht).1 true size rows ho
  rw [hh]; exact r.2 size wS vL
 | rptr rr c =>
  obtain ⟨b, off, g, e, hk⟩ := r
  exact ⟨b, off, g, e, fun k d hd => ⟨(hT _ _ _ (hk k d hd).2.1 (hk k d hd).1).1, (hT _ _ _ (hk k d hd).2.1 (hk k d hd).1).2, Rd.mono hT (hk k d hd).2.2⟩⟩
theorem yx (hT : ∀ b k v, T b k -> w.cell? ⟨b, k, none⟩ = some v -> w'.cell? ⟨b, k, none⟩ = some v /\ T' b k) (hc : ∀ t j, t ≠ d -> Cpt h h' ob uE t j)
  {xs : List At} {vs : List Value} (hx : Zs d xs = false) (r : Zg (Zm T h ob w) xs vs) : Zg (Zm T' h' uE w') xs vs := by
 induction r with
 | nil => exact .nil
 | cons r _ ih =>
  simp only [Zs, Bool.or_eq_false_iff] at hx
  exact .cons (Zm.carry hT hc hx.1 r) (ih hx.2)
theorem Qs.carry (hT : ∀ b k v, T b k -> w.cell? ⟨b, k, none⟩ = some v -> w'.cell? ⟨b, k, none⟩ = some v /\ T' b k) (hc : ∀ t j, t ≠ d -> Cpt h h' ob uE t j)
  {x : V} {v : Value} (hx : x.VQ d = false) (r : Qs T h ob w x v) : Qs T' h' uE w' x v := by
 cases x with
 | any => exact r
 | one x => exact Zm.carry hT hc hx r
 | agg xs => obtain ⟨cs, e, r⟩ := r; exact ⟨cs, e, yx hT hc hx r⟩
 | tup xs => exact r.elim
 | cnd g x => exact r.elim
 | fix u x => exact r.elim
theorem Xe.carry (hT : ∀ b k v, T b k -> w.cell? ⟨b, k, none⟩ = some v -> w'.cell? ⟨b, k, none⟩ = some v /\ T' b k) (hc : ∀ t j, t ≠ d -> Cpt h h' ob uE t j)
  {x : V} {v : Value} (hx : x.ref d = false) (r : Xe T h ob w x v) : Xe T' h' uE w' x v := by
 cases x with
 | any => exact r
 | one x => exact Zm.carry hT hc hx r
 | agg xs => obtain ⟨cs, e, r⟩ := r; exact ⟨cs, e, yx hT hc hx r⟩
 | tup xs =>
  obtain ⟨vs, e, r⟩ := r
  refine ⟨vs, e, ?_⟩
  clear e
  generalize vs.toList = vl at r
  simp only [V.ref] at hx
  induction r with
  | nil => exact .nil
  | cons r _ ih =>
   simp only [qe, Bool.or_eq_false_iff] at hx
   exact .cons (Qs.carry hT hc hx.1 r) (ih hx.2)
 | cnd g x =>
  simp only [V.ref, Bool.or_eq_false_iff] at hx
  exact ⟨fun hg => Qs.carry hT hc hx.1 (r.1 hg), r.2⟩
 | fix u x =>
  simp only [V.ref, Bool.or_eq_false_iff] at hx
  exact ⟨r.1, Qs.carry hT hc hx.1 r.2⟩
end
section
variable {P : Program} {T0 : CS} {B : Nat -> Prop} {σ : St} {a : Act} {w w' : World} {X X' : Nat -> Prop} {h : Nat -> Nat -> Hd}
theorem Rel.Tlt (r : Rel T0 B σ a w X h) {b k : Nat} (hb : Tof T0 X b k) : b < w.heap.size := by
 rcases hb with hb | hb
 ·exact r.hB b (r.hT b k hb)
 ·exact (r.hX b hb).2
theorem Kf {e : TypeId} {size n : Nat} {v : Value} {xs : List Value} (hb : ∀ b, blk v = some b -> w'.heap[b]? = w.heap[b]?) (ho : w.ownsRow 0 e size v n xs) : w'.ownsRow 0 e size v n xs := by
 refine ⟨ho.1, ?_⟩
 rcases ho.2 with hn | ⟨g, cap, cur, rfl, h0, hg, rest⟩
 ·exact .inl hn
 ·exact .inr ⟨g, cap, cur, rfl, h0, by rw [hb g rfl]; exact hg, rest⟩
theorem Own.jn {v : Value} {d : D} {S : Nat -> Prop} (hb : ∀ b, S b -> w'.heap[b]? = w.heap[b]?) (ho : Own w v d S) : Own w' v d S := by
 induction ho with
 | int k n S => exact .int k n S
 | bool b S => exact .bool b S
 | str s S => exact .str s S
 | unk v h S => exact .unk v h S
 | sl v size rows S e xs Sk ho hz wM hl hk hs hd ih =>
  exact .sl v size rows S e xs Sk (Kf (fun b h => hb b (wM b h)) ho) hz wM hl (fun k x d hx wP => ih k x d hx wP (fun b h => hb b (hs k b h).1)) hs hd
theorem Own.mono {v : Value} {d : D} {S S' : Nat -> Prop} (hS : ∀ b, S b -> S' b) (ho : Own w v d S) : Own w v d S' := by
 cases ho with
 | int k n S => exact .int k n S'
 | bool b S => exact .bool b S'
 | str s S => exact .str s S'
 | unk v h S => exact .unk v h S'
 | sl v size rows S e xs Sk ho hz wM hl hk hs hd => exact .sl v size rows S' e xs Sk ho hz (fun b h => hS b (wM b h)) hl hk (fun k b h => ⟨hS b (hs k b h).1, (hs k b h).2⟩) hd
theorem Xz.jn {xs : List Value} {ds : List D} {S : Nat -> Prop} (hb : ∀ b, S b -> w'.heap[b]? = w.heap[b]?) (ho : Xz w xs ds S) : Xz w' xs ds S := by
 obtain ⟨hl, Sk, h1, h2, h3⟩ := ho
 exact ⟨hl, Sk, fun k x d hx hd => (h1 k x d hx hd).jn (fun b h => hb b (h2 k b h)), h2, h3⟩
theorem Xs.jn {T T' : CS} {h h' : Nat -> Nat -> Hd} {ob uE : Nat -> Nat -> Ob} {d : Nat} {hd : Hd} {o : Ob}
  (hT : ∀ b k v, T b k -> w.cell? ⟨b, k, none⟩ = some v -> w'.cell? ⟨b, k, none⟩ = some v /\ T' b k) (hc : ∀ t j, t ≠ d -> Cpt h h' ob uE t j)
  (vS : o ≠ .none -> ∀ b, blk hd.v = some b -> hd.u b) (hb : o ≠ .none -> ∀ b, hd.u b -> w'.heap[b]? = w.heap[b]?) (hr : YB d [o] = false) (r : Xs T h ob w hd o) : Xs T' h' uE w' hd o := by
 cases o with
 | none => trivial
 | box cells =>
  obtain ⟨b, cs, e, hv, hh, wD⟩ := r
  simp only [YB, Bool.or_false] at hr
  exact ⟨b, cs, e, hv, by rw [hb (by simp) b (vS (by simp) b (by rw [hv]; rfl))]; exact hh, yx hT hc hr wD⟩
 | arr q size rows =>
  have hk : ∀ {e : TypeId} {n : Nat} {xs : List Value}, w.ownsRow 0 e size hd.v n xs -> w'.ownsRow 0 e size hd.v n xs := fun ho => Kf (fun b h => hb (by simp) b (vS (by simp) b h)) ho
  cases q with
  | false =>
   obtain ⟨e, xs, ho, hz, wD⟩ := r
   exact ⟨e, xs, hk ho, hz, wD.imp fun _ _ => Rd.mono hT⟩
  | true =>
   obtain ⟨e, xs, ho, hz, wD, hn⟩ := r
   exact ⟨e, xs, hk ho, hz, wD.jn (fun b h => hb (by simp) b h.1), hn⟩
 | lit size rows =>
  obtain ⟨e, xs, ho, hz, wD⟩ := r
  simp only [YB, Bool.or_false] at hr
  exact ⟨e, xs, Kf (fun b h => hb (by simp) b (vS (by simp) b h)) ho, hz, yx hT hc hr wD⟩
theorem St.Im {σ : St} {d : Nat} (hf : σ.fresh d = true) (t j : Nat) (wB : t ≠ d) : YB d [σ.ob t j] = false := by
 cases ho : σ.ob t j with
 | none => rfl
 | box cells => simp [YB, St.HQ hf t j wB cells ho]
 | arr q size rows => rfl
 | lit size rows => simp only [YB, St.Ib hf t j wB size rows ho, Bool.or_false]
theorem Rel.OT (r : Rel T0 B σ a w X h) {d : Nat} (hf : σ.fresh d = true) (M : Nat -> Prop) (vK : w.heap.size <= w'.heap.size) (hg : ∀ k, k < w.heap.size -> ¬ M k -> w'.heap[k]? = w.heap[k]?)
  (hm : ∀ b, M b -> ¬ B b /\ ¬ X b /\ ∀ t j, t ≠ d -> σ.ob t j ≠ .none -> ¬ (h t j).u b) (hX : ∀ b, X b -> X' b) (sZ : ∀ b, X' b -> X b \/ (w.heap.size <= b /\ b < w'.heap.size))
  (v : V) (val : Value) (os : List Ob) (hd : Nat -> Hd)
  (hv : Xe (Tof T0 X') (fun t j => if t = d then hd j else h t j) (σ.new d v os).ob w' v val)
  (mQ : ∀ j, Xs (Tof T0 X') (fun t j => if t = d then hd j else h t j) (σ.new d v os).ob w' (hd j) (Zw os j))
  (vS : ∀ j b, Zw os j ≠ .none -> blk (hd j).v = some b -> (hd j).u b)
  (wF : ∀ j b, Zw os j ≠ .none -> (hd j).u b -> (w.heap.size <= b \/ M b) /\ ¬ X' b /\ b < w'.heap.size)
  (pK : ∀ j j' b, Zw os j ≠ .none -> Zw os j' ≠ .none -> (hd j).u b -> (hd j').u b -> j = j') :
  Rel T0 B (σ.new d v os) (a.put (some d) val) w' X' (fun t j => if t = d then hd j else h t j) := by
 have wO := St.QN hf
 have fS : ∀ b k, Tof T0 X b k -> ¬ M b := by
  intro b k hb lG
  rcases hb with hb | hb
  ·exact (hm b lG).1 (r.hT b k hb)
  ·exact (hm b lG).2.1 hb
 have hT : ∀ b k v, Tof T0 X b k -> w.cell? ⟨b, k, none⟩ = some v -> w'.cell? ⟨b, k, none⟩ = some v /\ Tof T0 X' b k := by
  intro b k v hb wG
  refine ⟨?_, hb.imp id (hX b)⟩
  rw [World.cell?_of_block (hg b (r.Tlt hb) (fS b k hb))]; exact wG
 have hc : ∀ t j, t ≠ d -> Cpt h (fun t j => if t = d then hd j else h t j) σ.ob (σ.new d v os).ob t j := by
  intro t j wB
  have he : (σ.new d v os).ob t j = σ.ob t j := by rw [St.Xm, if_neg (fun hh => wB hh.1)]
  exact Cpt.same (by simp [wB]) he
 refine ⟨by simp [Act.put, r.size, St.yA], r.defers, fun b hb => Nat.lt_of_lt_of_le (r.hB b hb) vK, fun b hb => ?_, r.hT, fun t ht => ?_, fun t j => ?_, fun t j b ho hb => ?_, fun t j b ho hb => ?_, fun t j t' j' b ho wZ hb wM => ?_⟩
 ·rcases sZ b hb with hb | hb
  ·have := r.hX b hb; exact ⟨this.1, by omega⟩
  ·exact ⟨fun ud => by have := r.hB b ud; omega, hb.2⟩
 ·rw [St.yA] at ht
  rw [St.yn]
  by_cases wP : t = d
  ·subst wP
   simp only [wO, and_self, if_true]
   have : (a.tmps.setIfInBounds t val).getD t undef = val := by simp [r.size, wO]
   simp only [Act.put, this]; exact hv
  ·rw [if_neg (fun hh => wP hh.1)]
   have : (a.tmps.setIfInBounds d val).getD t undef = a.tmps.getD t undef := by simp [Array.getElem?_setIfInBounds_ne (Ne.symm wP)]
   simp only [Act.put, this]
   exact Xe.carry hT hc (St.IG hf t wP) (r.slot t ht)
 ·rw [St.Xm]
  by_cases wP : t = d
  ·subst wP
   simp only [wO, and_self, if_true]; exact mQ j
  ·have wB : ¬ (t = d /\ d < σ.length) := fun hh => wP hh.1
   rw [if_neg wB]
   simp only [if_neg wP]
   exact Xs.jn hT hc (fun ho b => r.ub t j b ho) (fun ho b hu => hg b (r.own t j b ho hu).2.2 (fun lG => (hm b lG).2.2 t j wP ho hu)) (St.Im hf t j wP) (r.obj t j)
 ·rw [St.Xm] at ho
  by_cases wP : t = d
  ·subst wP
   simp only [wO, and_self, if_true] at ho hb ⊢
   exact vS j b ho hb
  ·rw [if_neg (fun hh => wP hh.1)] at ho
   simp only [wP, if_false] at hb ⊢
   exact r.ub t j b ho hb
 ·rw [St.Xm] at ho
  by_cases wP : t = d
  ·subst wP
   simp only [wO, and_self, if_true] at ho hb
   have h1 := wF j b ho hb
   refine ⟨?_, h1.2.1, h1.2.2⟩
   rcases h1.1 with h2 | h2
   ·exact fun ud => by have := r.hB b ud; omega
   ·exact (hm b h2).1
  ·rw [if_neg (fun hh => wP hh.1)] at ho
   simp only [wP, if_false] at hb
   have := r.own t j b ho hb
   refine ⟨this.1, fun hx => ?_, by omega⟩
   rcases sZ b hx with hx | hx
   ·exact this.2.1 hx
   ·omega
 ·rw [St.Xm] at ho wZ
  by_cases hd1 : t = d
  ·by_cases sY : t' = d
   ·subst hd1; subst sY
    simp only [wO, and_self, if_true] at ho hb wZ wM
    exact ⟨rfl, pK j j' b ho wZ hb wM⟩
   ·subst hd1
    simp only [wO, and_self, if_true] at ho hb
    rw [if_neg (fun hh => sY hh.1)] at wZ
    simp only [sY, if_false] at wM
    have h1 := wF j b ho hb
    have h2 := r.own t' j' b wZ wM
    rcases h1.1 with h3 | h3
    ·omega
    ·exact absurd wM ((hm b h3).2.2 t' j' sY wZ)
  ·by_cases sY : t' = d
   ·subst sY
    simp only [wO, and_self, if_true] at wZ wM
    rw [if_neg (fun hh => hd1 hh.1)] at ho
    simp only [hd1, if_false] at hb
    have h1 := wF j' b wZ wM
    have h2 := r.own t j b ho hb
    rcases h1.1 with h3 | h3
    ·omega
    ·exact absurd hb ((hm b h3).2.2 t j hd1 ho)
   ·rw [if_neg (fun hh => hd1 hh.1)] at ho
    rw [if_neg (fun hh => sY hh.1)] at wZ
    simp only [hd1, sY, if_false] at hb wM
    exact r.inj t j t' j' b ho wZ hb wM
theorem Rel.new (r : Rel T0 B σ a w X h) {d : Nat} (hf : σ.fresh d = true) (hg : w.grownBy w' none) (hX : ∀ b, X b -> X' b) (sZ : ∀ b, X' b -> X b \/ (w.heap.size <= b /\ b < w'.heap.size))
  (v : V) (val : Value) (os : List Ob) (hd : Nat -> Hd)
  (hv : Xe (Tof T0 X') (fun t j => if t = d then hd j else h t j) (σ.new d v os).ob w' v val)
  (mQ : ∀ j, Xs (Tof T0 X') (fun t j => if t = d then hd j else h t j) (σ.new d v os).ob w' (hd j) (Zw os j))
  (vS : ∀ j b, Zw os j ≠ .none -> blk (hd j).v = some b -> (hd j).u b)
  (wF : ∀ j b, Zw os j ≠ .none -> (hd j).u b -> w.heap.size <= b /\ ¬ X' b /\ b < w'.heap.size)
  (pK : ∀ j j' b, Zw os j ≠ .none -> Zw os j' ≠ .none -> (hd j).u b -> (hd j').u b -> j = j') :
  Rel T0 B (σ.new d v os) (a.put (some d) val) w' X' (fun t j => if t = d then hd j else h t j) :=
 r.OT hf (fun _ => False) hg.size (fun k hk _ => hg.block k hk (by simp)) (fun _ hh => hh.elim) hX sZ v val os hd hv mQ vS (fun j b h1 h2 => ⟨.inl (wF j b h1 h2).1, (wF j b h1 h2).2⟩) pK
end
end Go.Vm
namespace Go.Vm
open Go.RowKit
def Je (v : Value) (cs : List Value) : Prop := (∃ c, cs = [c] /\ v = c /\ c.oneCell' = true) \/ (cs.length ≠ 1 /\ v = .agg cs.toArray)
def kT : List Value -> Value
 | [v] => v
 | vs => .tuple vs.toArray
def QG (T : CS) (w : World) (v : Value) : D -> Prop
 | .sl size rows => ∃ e xs, w.ownsRow 0 e size v rows.length xs /\ (∀ r ∈ rows, r.length = size) /\ Zg (Rd T w) xs rows.flatten
 | d => Rd T w v d
def Km (own : Bool) (T : CS) (w : World) (v : Value) (d : D) : Prop := if own then QG T w v d else Rd T w v d
def qU (P : Program) (f : FuncId) : Bool :=
 match P.funcs[f]? with
 | some fn => fn.body.isSome && fn.name != "runtime.NumGoroutine"
 | none => false
def EX (B N : Nat) (Y : Nat -> Prop) (cs : List Value) (ds : List D) : Prop :=
 (∀ (i : Nat) (c : Value) (d : D) (b : Nat), cs[i]? = some c -> ds[i]? = some d -> d.scalar = false -> blk c = some b -> B <= b /\ b < N /\ ¬ Y b) /\
 (∀ (i j : Nat) (c c' : Value) (d d' : D) (b : Nat), cs[i]? = some c -> ds[i]? = some d -> cs[j]? = some c' -> ds[j]? = some d' -> d.scalar = false -> d'.scalar = false -> blk c = some b -> blk c' = some b -> i = j)
def EU (own : Bool) (T : CS) (w : World) (res : List (List D)) (e : Ending) (w' : World) : Prop :=
 ∃ (vs : List Value) (wh : List (List Value)) (Y : Nat -> Prop), e = .returned (kT vs) /\ Below w.heap.size w w' /\ (∀ b, Y b -> w.heap.size <= b /\ b < w'.heap.size) /\
  Zg Je vs wh /\ Zg (fun cs row => Zg (Km own (Tof T Y) w') cs row) wh res /\ (own = true -> EX w.heap.size w'.heap.size Y wh.flatten res.flatten)
def QE (P : Program) (f : FuncId) (own : Bool) (args res : List (List D)) : Prop :=
 qU P f = true /\ ∀ (T : CS) (w : World) (wq : List Value), (∀ b k, T b k -> b < w.heap.size) -> Zg (fun v row => ∃ cs, Je v cs /\ Zg (Rd T w) cs row) wq args ->
  Calls P f wq.toArray w (EU own T w res)
def vOf : List At -> V
 | [x] => .one x
 | xs => .agg xs
def QW (t : Nat) : Nat -> List D -> List At
 | _, [] => []
 | k, .sl _ rows :: ds => .sref t k 0 rows.length :: QW t (k + 1) ds
 | k, d :: ds => .d d :: QW t (k + 1) ds
def Kz : List D -> List Ob
 | [] => []
 | .sl size rows :: ds => .arr false size rows :: Kz ds
 | _ :: ds => .none :: Kz ds
def OA (t : Nat) : Nat -> List (List D) -> List V
 | _, [] => []
 | k, r :: rs => vOf (QW t k r) :: OA t (k + r.length) rs
def zu (t : Nat) : List (List D) -> V
 | [r] => vOf (QW t 0 r)
 | rs => .tup (OA t 0 rs)
def K8 : List (List D) -> V
 | [r] => vOf (r.map .d)
 | rs => .tup (rs.map fun r => vOf (r.map .d))
def Jf (σ : St) : At -> Option D
 | .d x => some x
 | .nil s => some (.sl s [])
 | .sref t j lo len => (match σ.ob t j with | .arr _ size rows => some (.sl size (cut rows lo len)) | _ => none)
 | _ => none
def rowOf (σ : St) : List At -> Option (List D)
 | [] => some []
 | x :: xs => (match Jf σ x, rowOf σ xs with | some d, some ds => some (d :: ds) | _, _ => none)
def V.Qw (σ : St) : V -> Option (List D)
 | .one x => rowOf σ [x]
 | .agg [_] => none
 | .agg xs => rowOf σ xs
 | _ => none
def XW (P : Program) (σ : St) : List Operand -> List TypeId -> List (List D) -> Prop
 | [], _, rs => rs = []
 | x :: xs, t :: ts, rs => gOf (look P σ t x) = true /\ ∃ r rest, (unc (look P σ t x)).Qw σ = some r /\ XW P σ xs ts rest /\ rs = r :: rest
 | _ :: _, [], _ => False
def At.O6 : At -> Bool
 | .sref _ _ _ _ => false
 | .tref _ _ _ _ _ => false
 | _ => true
def Q0 : List At -> Bool
 | [] => true
 | x :: xs => x.O6 && Q0 xs
def Z4 (P : Program) (σ : St) : List Operand -> List TypeId -> Bool
 | x :: xs, t :: ts => Q0 (unc (look P σ t x)).cells && Z4 P σ xs ts
 | _, _ => true
section
variable {P : Program} {T0 : CS} {B : Nat -> Prop} {σ : St} {a : Act} {w w' : World} {X X' : Nat -> Prop} {h : Nat -> Nat -> Hd}
theorem Rel.grow (r : Rel T0 B σ a w X h) (hg : w.grownBy w' none) (hX : ∀ b, X b -> X' b) (sZ : ∀ b, X' b -> X b \/ (w.heap.size <= b /\ b < w'.heap.size)) : Rel T0 B σ a w' X' h := by
 have hT : ∀ b k v, Tof T0 X b k -> w.cell? ⟨b, k, none⟩ = some v -> w'.cell? ⟨b, k, none⟩ = some v /\ Tof T0 X' b k := by
  intro b k v hb wG
  refine ⟨?_, hb.imp id (hX b)⟩
  rw [World.cell?_of_block (hg.block b (r.Tlt hb) (by simp))]; exact wG
 have hB : w.heap.size <= w'.heap.size := hg.size
 refine ⟨r.size, r.defers, fun b hb => Nat.lt_of_lt_of_le (r.hB b hb) hB, fun b hb => ?_, r.hT, fun t ht => Xe.mono hT (r.slot t ht), fun t j => ?_, r.ub, fun t j b ho hb => ?_, r.inj⟩
 ·rcases sZ b hb with hb | hb
  ·have := r.hX b hb; exact ⟨this.1, by omega⟩
  ·exact ⟨fun ud => by have := r.hB b ud; omega, hb.2⟩
 ·have h0 := r.obj t j
  have hk : σ.ob t j ≠ .none -> ∀ b, (h t j).u b -> w'.heap[b]? = w.heap[b]? := fun ho b hu => hg.block b (r.own t j b ho hu).2.2 (by simp)
  have wU := r.ub t j
  cases ho : σ.ob t j with
  | none => trivial
  | box cells =>
   rw [ho] at h0 hk wU
   obtain ⟨b, cs, e, hv, hh, wD⟩ := h0
   exact ⟨b, cs, e, hv, by rw [hk (by simp) b (wU b (by simp) (by rw [hv]; rfl))]; exact hh, wD.imp fun _ _ => Zm.mono hT⟩
  | arr q size rows =>
   rw [ho] at h0 hk wU
   cases q with
   | false =>
    obtain ⟨e, xs, uR, hz, wD⟩ := h0
    exact ⟨e, xs, Kf (fun b hb => hk (by simp) b (wU b (by simp) hb)) uR, hz, wD.imp fun _ _ => Rd.mono hT⟩
   | true =>
    obtain ⟨e, xs, uR, hz, wD, hn⟩ := h0
    exact ⟨e, xs, Kf (fun b hb => hk (by simp) b (wU b (by simp) hb)) uR, hz, wD.jn (fun b hb => hk (by simp) b hb.1), hn⟩
  | lit size rows =>
   rw [ho] at h0 hk wU
   obtain ⟨e, xs, uR, hz, wD⟩ := h0
   exact ⟨e, xs, Kf (fun b hb => hk (by simp) b (wU b (by simp) hb)) uR, hz, wD.imp fun _ _ => Zm.mono hT⟩
 ·have := r.own t j b ho hb
  refine ⟨this.1, fun hx => ?_, by omega⟩
  rcases sZ b hx with hx | hx
  ·exact this.2.1 hx
  ·omega
def Wn (T0 : CS) (X : Nat -> Prop) (h : Nat -> Nat -> Hd) (σ : St) : CS := fun b k => Tof T0 X b k \/ ∃ t j q size rows, σ.ob t j = .arr q size rows /\ (h t j).u b
theorem Rel.OW (r : Rel T0 B σ a w X h) {b k : Nat} (hb : Wn T0 X h σ b k) : b < w.heap.size := by
 rcases hb with hb | ⟨t, j, q, size, rows, ho, hb⟩
 ·exact r.Tlt hb
 ·exact (r.own t j b (by rw [ho]; simp) hb).2.2
theorem Ln {T : CS} {w : World} {e : TypeId} {size : Nat} {v : Value} {rows : List (List D)} {xs : List Value} (ho : w.ownsRow 0 e size v rows.length xs) (hz : ∀ r ∈ rows, r.length = size) (hT : ∀ b k, blk v = some b -> T b k)
  (wD : Zg (Rd T w) xs rows.flatten) : Rd T w v (.sl size rows) := by
 rcases ho.2 with ⟨rfl, hn⟩ | ⟨g, cap, cur, rfl, _, hh, vz, uP, uO, ug⟩
 ·have : rows = [] := List.eq_nil_of_length_eq_zero hn
  subst this; exact .nil _
 ·refine .sl ⟨g, 0, none⟩ _ cap size rows (fun k => (xs[k]?).getD undef) rfl vz uP hz (fun _ => rfl) (fun k d hd => ?_) (fun k d hd => ?_)
  ·obtain ⟨u, hu, _⟩ := wD.get' k d hd
   have wO : k < rows.length * size := by
    have := (List.getElem?_eq_some_iff.1 hd).1
    rw [Zo rows size hz] at this; exact this
   rw [hu]
   refine ⟨?_, hT g _ rfl⟩
   simp only [Nat.zero_add]
   refine Q6 hh _ _ ?_
   rw [<- ug, List.getElem?_take, if_pos wO] at hu
   exact hu
  ·obtain ⟨u, hu, hr⟩ := wD.get' k d hd
   rw [hu]; exact hr
theorem Own.rd {T : CS} {w : World} {v : Value} {d : D} {S : Nat -> Prop} (ho : Own w v d S) (hT : ∀ b k, S b -> T b k) : Rd T w v d := by
 induction ho with
 | int k n S => exact .int k n
 | bool b S => exact .bool b
 | str s S => exact .str s
 | unk v h S => exact .unk v h
 | sl v size rows S e xs Sk ho hz wM hl hk hs hd ih =>
  exact Ln ho hz (fun b k hb => hT b k (wM b hb)) (Zg.KD hl (fun k x d hx wP => ih k x d hx wP (fun b k' hb => hT b k' (hs k b hb).1)))
theorem Xz.rd {T : CS} {w : World} {xs : List Value} {ds : List D} {S : Nat -> Prop} (ho : Xz w xs ds S) (hT : ∀ b k, S b -> T b k) : Zg (Rd T w) xs ds := by
 obtain ⟨hl, Sk, h1, h2, h3⟩ := ho
 exact Zg.KD hl (fun k x d hx hd => (h1 k x d hx hd).rd (fun b k' hb => hT b k' (h2 k b hb)))
theorem Rel.cells (r : Rel T0 B σ a w X h) {t j size : Nat} {q : Bool} {rows : List (List D)} (ho : σ.ob t j = .arr q size rows) :
  ∃ e xs, w.ownsRow 0 e size (h t j).v rows.length xs /\ (∀ r ∈ rows, r.length = size) /\ ∀ T : CS, (∀ b k, Tof T0 X b k -> T b k) -> (∀ b k, (h t j).u b -> T b k) -> Zg (Rd T w) xs rows.flatten := by
 have h0 := r.obj t j
 rw [ho] at h0
 cases q with
 | false =>
  obtain ⟨e, xs, uR, hz, wD⟩ := h0
  exact ⟨e, xs, uR, hz, fun T h1 _ => wD.imp fun _ _ => Rd.mono (fun b k v hb hc => ⟨hc, h1 b k hb⟩)⟩
 | true =>
  obtain ⟨e, xs, uR, hz, wD, hn⟩ := h0
  exact ⟨e, xs, uR, hz, fun T _ h2 => wD.rd (fun b k hb => h2 b k hb.1)⟩
theorem Rel.Lm (r : Rel T0 B σ a w X h) {t j lo len size : Nat} {q : Bool} {rows : List (List D)} (ho : σ.ob t j = .arr q size rows) {v : Value} (hv : Zm (Tof T0 X) h σ.ob w (.sref t j lo len) v)
  (T : CS) (gD : ∀ b k, Tof T0 X b k -> T b k) (gE : ∀ b k, (h t j).u b -> T b k) : Rd T w v (.sl size (cut rows lo len)) := by
 obtain ⟨hle, vm, _, base, cap, rfl, vj, pb, s4, hb⟩ := hv.2.1 q size rows ho
 obtain ⟨e, xs, ⟨hl, wF⟩, hz, ou⟩ := r.cells ho
 have wD := ou T gD gE
 have vS := r.ub t j
 have wg : (cut rows lo len).length = len := YK _ _ _ hle
 have ui : ∀ x ∈ cut rows lo len, x.length = size := fun x hx => hz x (List.mem_of_mem_drop (List.mem_of_mem_take hx))
 by_cases vM : 0 < len
 ·obtain ⟨b, tP, hh, rfl⟩ := hb vM
  rcases wF with ⟨hn, _⟩ | ⟨g, rZ, cur, uo, _, ov, vz, uP, uO, ug⟩
  ·rw [hh] at hn; cases hn
  ·rw [hh] at uo
   cases uo
   have key : ∀ k d, (cut rows lo len).flatten[k]? = some d -> ∃ u, w.cell? ⟨b, lo * size + k, none⟩ = some u /\ T b (lo * size + k) /\ Rd T w u d := by
    intro k d hd
    have wP := K5 rows size lo len hz k d hd
    obtain ⟨u, hu, hr⟩ := wD.get' _ _ wP
    have wO : lo * size + k < rows.length * size := by
     have := (List.getElem?_eq_some_iff.1 wP).1
     rw [Zo rows size hz] at this; exact this
    refine ⟨u, Q6 ov _ _ ?_, gE b _ (vS b (by rw [ho]; simp) (by rw [hh]; rfl)), hr⟩
    rw [<- ug, List.getElem?_take, if_pos wO] at hu
    exact hu
   refine .sl ⟨b, lo * size, none⟩ len cap size _ (fun k => (w.cell? ⟨b, lo * size + k, none⟩).getD undef) wg vj pb ui (fun _ => rfl) (fun k d hd => ?_) (fun k d hd => ?_)
   ·obtain ⟨u, hu, ht, _⟩ := key k d hd
    rw [hu]; exact ⟨rfl, ht⟩
   ·obtain ⟨u, hu, _, hr⟩ := key k d hd
    rw [hu]; exact hr
 ·have fT : len = 0 := by omega
  subst fT
  have tJ : cut rows lo 0 = [] := by simp [cut]
  rw [tJ]
  cases base with
  | none => have := s4 rfl; subst this; exact .nil _
  | some ad => exact .sl ad 0 cap size [] (fun _ => undef) rfl vj pb (by intro r hr; cases hr) (by simp) (by simp) (by simp)
end
end Go.Vm
namespace Go.Vm
open Go.RowKit
def D.OK : D -> Prop
 | .sl _ rows => ∀ r ∈ rows, ∀ d ∈ r, d.scalar = true
 | _ => True
def Jq (own : Bool) (res : List (List D)) : Prop := ∀ r ∈ res, ∀ d ∈ r, if own = true then d.OK else d.scalar = true
theorem Rd.scalar {T T' : CS} {w : World} {v : Value} {d : D} (hd : d.scalar = true) (r : Rd T w v d) : Rd T' w v d := by
 cases r with
 | int k n => exact .int k n
 | bool b => exact .bool b
 | str s => exact .str s
 | unk v h => exact .unk v h
 | nil => cases hd
 | sl => cases hd
theorem QG.flat {T T' : CS} {w : World} {v : Value} {d : D} (hd : d.OK) (r : QG T w v d) : QG T' w v d := by
 cases d with
 | sl size rows =>
  obtain ⟨e, xs, ho, hz, wD⟩ := r
  refine ⟨e, xs, ho, hz, ?_⟩
  refine Zg.KD wD.length (fun i x d hx wP => ?_)
  obtain ⟨d2, sY, hr⟩ := wD.get i x hx
  rw [wP] at sY; cases sY
  have hm : d ∈ rows.flatten := List.mem_of_getElem? wP
  obtain ⟨r0, tG, hdr⟩ := List.mem_flatten.1 hm
  exact Rd.scalar (hd r0 tG d hdr) hr
 | int k n => exact Rd.scalar rfl r
 | bool b => exact Rd.scalar rfl r
 | str s => exact Rd.scalar rfl r
 | unk => exact Rd.scalar rfl r
theorem zS {w : World} {e : TypeId} {size : Nat} {v : Value} {n : Nat} {xs : List Value} (ho : w.ownsRow 0 e size v n xs) : Hs v size n 0 n v := by
 refine ⟨by omega, fun _ _ => rfl, ?_, ?_⟩
 ·intro _
  rcases ho.2 with ⟨rfl, rfl⟩ | ⟨g, cap, cur, rfl, _⟩ <;> rfl
 rcases ho.2 with ⟨rfl, rfl⟩ | ⟨g, cap, cur, rfl, _, _, vz, uP, _, _⟩
 ·exact ⟨none, 0, rfl, by omega, by simp [maxLen], fun _ => rfl, fun hh => by omega⟩
 ·exact ⟨_, cap, rfl, vz, uP, (fun hh => by cases hh), fun _ => ⟨g, cap, rfl, by simp⟩⟩
theorem Xj {w : World} {e : TypeId} {size : Nat} {v : Value} {n : Nat} {xs : List Value} (ho : w.ownsRow 0 e size v n xs) : v.oneCell' = true := by
 rcases ho.2 with ⟨rfl, rfl⟩ | ⟨g, cap, cur, rfl, _⟩ <;> rfl
theorem QG.Y4 {T : CS} {w : World} {v : Value} {d : D} (r : QG T w v d) : v.oneCell' = true := by
 cases d with
 | sl size rows => obtain ⟨e, xs, ho, _⟩ := r; exact Xj ho
 | int k n => exact Rd.Y4 r
 | bool b => exact Rd.Y4 r
 | str s => exact Rd.Y4 r
 | unk => exact Rd.Y4 r
theorem QG.rd {T T' : CS} {w : World} {v : Value} {d : D} (r : QG T w v d) (h1 : ∀ b k, T b k -> T' b k) (h2 : d.scalar = false -> ∀ b k, blk v = some b -> T' b k) : Rd T' w v d := by
 cases d with
 | sl size rows =>
  obtain ⟨e, xs, ⟨hl, wF⟩, hz, wD⟩ := r
  rcases wF with ⟨rfl, hn⟩ | ⟨g, cap, cur, rfl, _, hh, vz, uP, uO, ug⟩
  ·have : rows = [] := List.eq_nil_of_length_eq_zero hn
   subst this; exact .nil _
  ·refine .sl ⟨g, 0, none⟩ _ cap size rows (fun k => (xs[k]?).getD undef) rfl vz uP hz (fun _ => rfl) (fun k d hd => ?_) (fun k d hd => ?_)
   ·obtain ⟨u, hu, _⟩ := wD.get' k d hd
    have wO : k < rows.length * size := by
     have := (List.getElem?_eq_some_iff.1 hd).1
     rw [Zo rows size hz] at this; exact this
    rw [hu]
    refine ⟨?_, h2 rfl g _ rfl⟩
    simp only [Nat.zero_add]
    refine Q6 hh _ _ ?_
    rw [<- ug, List.getElem?_take, if_pos wO] at hu
    exact hu
   ·obtain ⟨u, hu, hr⟩ := wD.get' k d hd
    rw [hu]; exact Rd.mono (fun b k v hb hc => ⟨hc, h1 b k hb⟩) hr
 | int k n => exact Rd.scalar rfl r
 | bool b => exact Rd.scalar rfl r
 | str s => exact Rd.scalar rfl r
 | unk => exact Rd.scalar rfl r
section
variable {P : Program} {T0 : CS} {B : Nat -> Prop} {σ : St} {a : Act} {w w' : World} {X X' : Nat -> Prop} {h : Nat -> Nat -> Hd}
theorem Rel.Jf (r : Rel T0 B σ a w X h) {x : At} {v : Value} {d : D} (hd : Jf σ x = some d) (hv : Zm (Tof T0 X) h σ.ob w x v) (st : Bool) (wb : st = true -> x.O6 = true) :
  Rd (if st then Tof T0 X else Wn T0 X h σ) w v d := by
 cases x with
 | d x => simp [Vm.Jf] at hd; subst hd; cases st <;> simp <;> first | exact hv | exact Rd.mono (fun b k v hb hc => ⟨hc, .inl hb⟩) hv
 | nil s => simp [Vm.Jf] at hd; subst hd; cases hv; exact .nil _
 | sref t j lo len =>
  cases st with
  | true => have := wb rfl; simp [At.O6] at this
  | false =>
   simp only [Vm.Jf] at hd
   split at hd
   ·rename_i q size rows ho
    cases hd
    exact r.Lm ho hv _ (fun b k hb => .inl hb) (fun b k hb => .inr ⟨t, j, _, size, rows, ho, hb⟩)
   ·cases hd
 | any => simp [Vm.Jf] at hd
 | ptr => simp [Vm.Jf] at hd
 | bptr => simp [Vm.Jf] at hd
 | fn => simp [Vm.Jf] at hd
 | rptr => simp [Vm.Jf] at hd
 | tref => simp [Vm.Jf] at hd
theorem Rel.rowOf (r : Rel T0 B σ a w X h) (st : Bool) : ∀ {xs : List At} {vs : List Value} {ds : List D}, rowOf σ xs = some ds -> Zg (Zm (Tof T0 X) h σ.ob w) xs vs -> (st = true -> Q0 xs = true) ->
  Zg (Rd (if st then Tof T0 X else Wn T0 X h σ) w) vs ds
 | [], _, ds, hd, wD, _ => by cases wD; simp [Vm.rowOf] at hd; subst hd; exact .nil
 | x :: xs, _, ds, hd, wD, wb => by
  cases wD with
  | cons hx wD =>
   simp only [Vm.rowOf] at hd
   split at hd
   ·rename_i d rJ h1 h2
    cases hd
    refine .cons (r.Jf h1 hx st (fun hs => ?_)) (Rel.rowOf r st h2 wD (fun hs => ?_))
    ·have := wb hs; simp [Q0] at this; exact this.1
    ·have := wb hs; simp [Q0] at this; exact this.2
   ·cases hd
theorem Rel.Qw (r : Rel T0 B σ a w X h) (st : Bool) {v : V} {val : Value} {row : List D} (hr : v.Qw σ = some row) (hv : Xe (Tof T0 X) h σ.ob w v val) (wb : st = true -> Q0 v.cells = true) :
  ∃ cs, Je val cs /\ Zg (Rd (if st then Tof T0 X else Wn T0 X h σ) w) cs row := by
 cases v with
 | one x => exact ⟨[val], .inl ⟨val, rfl, rfl, Zm.Y4 (show Zm _ _ _ _ _ _ from hv)⟩, r.rowOf st (xs := [x]) hr (.cons hv .nil) wb⟩
 | agg xs =>
  obtain ⟨cs, rfl, wD⟩ := hv
  have hl := wD.length
  match xs, hr, wD, hl, wb with
  | [], hr, wD, hl, wb => exact ⟨cs.toList, .inr ⟨by rw [<- hl]; simp, by simp⟩, r.rowOf st hr wD wb⟩
  | [_], hr, _, _, _ => simp [V.Qw] at hr
  | x :: y :: xs, hr, wD, hl, wb => exact ⟨cs.toList, .inr ⟨by rw [<- hl]; simp, by simp⟩, r.rowOf st hr wD wb⟩
 | any => simp [V.Qw] at hr
 | tup xs => simp [V.Qw] at hr
 | cnd g x => simp [V.Qw] at hr
 | fix u x => simp [V.Qw] at hr
theorem Rel.XW (r : Rel T0 B σ a w X h) (st : Bool) : ∀ {xs : List Operand} {ts : List TypeId} {rs : List (List D)}, XW P σ xs ts rs -> (st = true -> Z4 P σ xs ts = true) ->
  Zg (fun v row => ∃ cs, Je v cs /\ Zg (Rd (if st then Tof T0 X else Wn T0 X h σ) w) cs row) (xs.map a.eval) rs
 | [], _, rs, hr, _ => by cases hr; exact .nil
 | x :: xs, [], rs, hr, _ => hr.elim
 | x :: xs, t :: ts, rs, hr, wb => by
  obtain ⟨hg, row, rest, h1, h2, rfl⟩ := hr
  refine .cons (r.Qw st h1 (r.arg t x rfl hg) (fun hs => ?_)) (Rel.XW r st h2 (fun hs => ?_))
  ·have := wb hs; simp [Z4] at this; exact this.1
  ·have := wb hs; simp [Z4] at this; exact this.2
theorem xO {o : Oper} {c : Call} {f : FuncId} (wA : o.op = .call c) (hc : c.callee = .value (.func f)) (hf : qU P f = true) : (execOp a.eval o).run P w = .ok (.enter f (c.args.toList.map a.eval).toArray) w := by
 unfold qU at hf
 split at hf
 ·rename_i fn nS
  simp only [Bool.and_eq_true, bne_iff_ne, ne_eq] at hf
  obtain ⟨cd, hb⟩ := Option.isSome_iff_exists.1 hf.1
  obtain ⟨callee, args, tw⟩ := c
  simp only at hc; subst hc
  have hm : (args.toList.map a.eval).toArray = args.map a.eval := by apply Array.toList_inj.1; simp
  rw [hm]
  simp [execOp, wA, resolve, Act.eval, Deferred.ofValue, invoke, callFunc, nS, hf.2, hb]
 ·cases hf
end
end Go.Vm
namespace Go.Vm
open Go.RowKit
section
variable {P : Program} {T0 : CS} {B : Nat -> Prop} {σ : St} {a : Act} {w w' : World} {X X' : Nat -> Prop} {h : Nat -> Nat -> Hd}
theorem Below.grownBy (hb : Below w.heap.size w w') : w.grownBy w' none := ⟨hb.os, hb.tape, hb.output, hb.size, fun k hk _ => hb.block k hk⟩
theorem Tw {T : CS} {ob : Nat -> Nat -> Ob} {xs : List At} {v : Value} {cs : List Value} (hf : Je v cs) (wD : Zg (Zm T h ob w) xs cs) : Qs T h ob w (vOf xs) v := by
 have hl := wD.length
 rcases hf with ⟨c, rfl, rfl, h1⟩ | ⟨wB, rfl⟩
 ·cases wD with
  | cons hx wD => cases wD; exact hx
 ·match xs, wD, hl with
  | [], wD, _ => exact ⟨_, rfl, by simpa using wD⟩
  | [x], wD, hl => exact absurd hl.symm (by simpa using wB)
  | x :: y :: xs, wD, _ => exact ⟨_, rfl, by simpa using wD⟩
theorem yy {T : CS} {ob : Nat -> Nat -> Ob} {cs : List Value} {row : List D} (wD : Zg (Rd T w) cs row) : Zg (Zm T h ob w) (row.map .d) cs := by
 induction wD with
 | nil => exact .nil
 | cons r _ ih => exact .cons r ih
theorem Mw {T : CS} {ob : Nat -> Nat -> Ob} {res : List (List D)} {vs : List Value} {wh : List (List Value)} (hf : Zg Je vs wh) (wD : Zg (fun cs row => Zg (Rd T w) cs row) wh res) :
  Zg (Qs T h ob w) (res.map fun r => vOf (r.map .d)) vs := by
 induction hf generalizing res with
 | nil => cases wD; exact .nil
 | cons f _ ih => cases wD with
  | cons r wD => exact .cons (Tw f (yy r)) (ih wD)
theorem Pq {T : CS} {ob : Nat -> Nat -> Ob} {res : List (List D)} {vs : List Value} {wh : List (List Value)} (hf : Zg Je vs wh) (wD : Zg (fun cs row => Zg (Rd T w) cs row) wh res) :
  Xe T h ob w (K8 res) (kT vs) := by
 have hl := Mw (h := h) (ob := ob) hf wD
 have h1 := hl.length
 match res, vs, hl, h1 with
 | [r], [v], hl, _ => cases hl with | cons x _ => exact x.up
 | [], [], hl, _ => exact ⟨_, rfl, by simpa using hl⟩
 | r :: r' :: rs, v :: v' :: vs, hl, _ => exact ⟨_, rfl, by simpa using hl⟩
 | [], v :: vs, _, h1 => simp at h1
 | [r], [], _, h1 => simp at h1
 | [r], v :: v' :: vs, _, h1 => simp at h1
 | r :: r' :: rs, [], _, h1 => simp at h1
 | r :: r' :: rs, [v], _, h1 => simp at h1
theorem UI {α β : Type} {R S : α -> β -> Prop} {l : List (List α)} {m : List (List β)} (um : ∀ (a : α) (b : β) (row : List β), row ∈ m -> b ∈ row -> R a b -> S a b) (wD : Zg (fun x y => Zg R x y) l m) : Zg (fun x y => Zg S x y) l m := by
 induction wD with
 | nil => exact .nil
 | @cons x y _ _ tY _ ih =>
  refine .cons ?_ (ih (fun a b row hr => um a b row (by simp [hr])))
  have vV : ∀ b ∈ y, ∀ a, R a b -> S a b := fun b hb a hr => um a b y (by simp) hb hr
  clear ih um
  induction tY with
  | nil => exact .nil
  | cons r _ pg => exact .cons (vV _ (by simp) _ r) (pg (fun b hb => vV b (by simp [hb])))
theorem yj (r : Rel T0 B σ a w X h) {o : Oper} {c : Call} {f : FuncId} {d : Nat} {own : Bool} {rows res : List (List D)} (wA : o.op = .call c) (hc : c.callee = .value (.func f)) (hd : o.dst = some d)
  (wI : XW P σ c.args.toList c.argTypes.toList rows) (st : Bool) (wb : st = true -> Z4 P σ c.args.toList c.argTypes.toList = true) (ve : st = false -> Jq own res) (hs : QE P f own rows res)
  {K : Act -> World -> Prop} {Q : Exit -> Act -> World -> Prop} (hK : ∀ a' w', X6 T0 B (σ.put d (K8 res)) a' w' -> YQ B w w' -> K a' w') : o.wp P a w K Q := by
 unfold Oper.wp
 rw [xO wA hc hs.1, Oper.upon_enter]
 refine (hs.2 (if st then Tof T0 X else Wn T0 X h σ) w _ (fun b k hb => ?_) (r.XW st wI wb)).mono ?_
 ·cases st
  ·exact r.OW hb
  ·exact r.Tlt hb
 ·rintro e w' ⟨vs, wh, Y, rfl, v5, hY, wc, uQ, rQ⟩
  have sZ : ∀ b, (X b \/ (w.heap.size <= b /\ b < w'.heap.size)) -> X b \/ (w.heap.size <= b /\ b < w'.heap.size) := fun b hb => hb
  have r2 := r.grow (X' := fun b => X b \/ (w.heap.size <= b /\ b < w'.heap.size)) (Below.grownBy v5) (fun b hb => .inl hb) sZ
  have uy : Zg (fun cs row => Zg (Rd (Tof T0 fun b => X b \/ (w.heap.size <= b /\ b < w'.heap.size)) w') cs row) wh res := by
   have vV : ∀ (i : Nat) (c : Value) (d : D), wh.flatten[i]? = some c -> res.flatten[i]? = some d -> own = true -> d.scalar = false -> ∀ b, blk c = some b -> w.heap.size <= b /\ b < w'.heap.size := by
    intro i c d h1 h2 ho vN b hb
    have := (rQ ho).1 i c d b h1 h2 vN hb
    exact ⟨this.1, this.2.1⟩
   have conv : ∀ (c : Value) (d : D), (∀ b, own = true -> d.scalar = false -> blk c = some b -> w.heap.size <= b /\ b < w'.heap.size) -> (st = false -> if own = true then d.OK else d.scalar = true) ->
     Km own (Tof (if st then Tof T0 X else Wn T0 X h σ) Y) w' c d -> Rd (Tof T0 fun b => X b \/ (w.heap.size <= b /\ b < w'.heap.size)) w' c d := by
    intro c d we pJ hr
    cases own with
    | true =>
     have vU : QG (Tof (if st then Tof T0 X else Wn T0 X h σ) Y) w' c d := by simpa [Km] using hr
     cases st with
     | true =>
      refine QG.rd vU (fun b k hb => ?_) (fun vN b k hb => .inr (.inr (we b rfl vN hb)))
      rcases hb with hb | hb
      ·rcases (show Tof T0 X b k from by simpa using hb) with hb | hb
       ·exact .inl hb
       ·exact .inr (.inl hb)
      ·exact .inr (.inr (hY b hb))
     | false =>
      exact QG.rd (QG.flat (T' := fun _ _ => False) (by simpa using pJ rfl) vU) (fun b k hb => hb.elim) (fun vN b k hb => .inr (.inr (we b rfl vN hb)))
    | false =>
     have vU : Rd (Tof (if st then Tof T0 X else Wn T0 X h σ) Y) w' c d := by simpa [Km] using hr
     cases st with
     | true =>
      refine Rd.mono (fun b k v hb hc => ⟨hc, ?_⟩) vU
      rcases hb with hb | hb
      ·rcases (show Tof T0 X b k from by simpa using hb) with hb | hb
       ·exact .inl hb
       ·exact .inr (.inl hb)
      ·exact .inr (.inr (hY b hb))
     | false => exact Rd.scalar (by simpa using pJ rfl) vU
   have go : ∀ (wh : List (List Value)) (res : List (List D)), Zg (fun cs row => Zg (Km own (Tof (if st then Tof T0 X else Wn T0 X h σ) Y) w') cs row) wh res ->
     (∀ (i : Nat) (c : Value) (d : D), wh.flatten[i]? = some c -> res.flatten[i]? = some d -> own = true -> d.scalar = false -> ∀ b, blk c = some b -> w.heap.size <= b /\ b < w'.heap.size) ->
     (st = false -> Jq own res) -> Zg (fun cs row => Zg (Rd (Tof T0 fun b => X b \/ (w.heap.size <= b /\ b < w'.heap.size)) w') cs row) wh res := by
    intro wh res wD
    induction wD with
    | nil => intro _ _; exact .nil
    | @cons cs row iM iN wi _ ih =>
     intro hm hf
     have hlen := wi.length
     refine .cons (Zg.KD hlen (fun i c d hc wP => ?_)) (ih (fun i c d h1 h2 => ?_) (fun hs r hr => hf hs r (by simp [hr])))
     ·obtain ⟨d2, sY, hr⟩ := wi.get i c hc
      rw [wP] at sY; cases sY
      refine conv c d (fun b ho vN hb => hm i c d ?_ ?_ ho vN b hb) (fun hs => hf hs row (by simp) d (List.mem_of_getElem? wP)) hr
      ·rw [List.flatten_cons, List.getElem?_append_left (List.getElem?_eq_some_iff.1 hc).1]; exact hc
      ·rw [List.flatten_cons, List.getElem?_append_left (List.getElem?_eq_some_iff.1 wP).1]; exact wP
     ·refine hm (cs.length + i) c d ?_ ?_
      ·rw [List.flatten_cons, List.getElem?_append_right (by omega)]; simpa using h1
      ·rw [List.flatten_cons, List.getElem?_append_right (by omega), hlen]; simpa using h2
   exact go wh res uQ vV ve
  rw [hd]
  exact hK _ _ ⟨_, _, r2.put d _ _ (Pq wc uy)⟩ (YQ.Vy v5 r.hB)
end
end Go.Vm
namespace Go.Vm
open Go.RowKit
section
variable {P : Program} {T0 : CS} {B : Nat -> Prop} {σ : St} {a : Act} {w w' : World} {X X' : Nat -> Prop} {h : Nat -> Nat -> Hd}
theorem jJ : ∀ (ds : List D) (k : Nat), Zw (Kz ds) k = (match ds[k]? with | some (.sl size rows) => .arr false size rows | _ => .none)
 | [], k => by simp [Kz, Zw]
 | d :: ds, 0 => by cases d <;> simp [Kz, Zw]
 | d :: ds, k + 1 => by
  have := jJ ds k
  cases d <;> simpa [Kz, Zw] using this
def yJ (T : CS) (w : World) (v : Value) : D -> Prop
 | .sl size rows => ∃ e xs, w.ownsRow 0 e size v rows.length xs
 | d => Rd T w v d
theorem QG.top {T : CS} {v : Value} {d : D} (r : QG T w v d) : yJ T w v d := by
 cases d with
 | sl size rows => obtain ⟨e, xs, ho, _⟩ := r; exact ⟨e, xs, ho⟩
 | int k n => exact r
 | bool b => exact r
 | str s => exact r
 | unk => exact r
theorem yJ.Y4 {T : CS} {v : Value} {d : D} (r : yJ T w v d) : v.oneCell' = true := by
 cases d with
 | sl size rows => obtain ⟨e, xs, ho⟩ := r; exact Xj ho
 | int k n => exact Rd.Y4 r
 | bool b => exact Rd.Y4 r
 | str s => exact Rd.Y4 r
 | unk => exact Rd.Y4 r
theorem ja {T : CS} {ob : Nat -> Nat -> Ob} {t : Nat} : ∀ {ds : List D} {cs : List Value} {k : Nat}, Zg (yJ T w) cs ds ->
  (∀ i size rows, ds[i]? = some (.sl size rows) -> ∃ q, ob t (k + i) = .arr q size rows) -> (∀ i c, cs[i]? = some c -> (h t (k + i)).v = c) -> Zg (Zm T h ob w) (QW t k ds) cs
 | [], _, k, wD, _, _ => by cases wD; exact .nil
 | d :: ds, _, k, wD, ho, hh => by
  cases wD with
  | @cons c _ cs _ hc wD =>
   have ih := ja (k := k + 1) wD (fun i size rows hi => by have := ho (i + 1) size rows (by simpa using hi); rw [show k + 1 + i = k + (i + 1) by omega]; exact this)
    (fun i c' wu => by have := hh (i + 1) c' (by simpa using wu); rw [show k + 1 + i = k + (i + 1) by omega]; exact this)
   cases d with
   | sl size rows =>
    obtain ⟨q0, h0⟩ := ho 0 size rows (by simp)
    have h1 := hh 0 c (by simp)
    rw [Nat.add_zero] at h0 h1
    refine .cons ⟨yJ.Y4 hc, fun q' wW wK wZ => ?_, fun wW wK wZ => by rw [h0] at wZ; cases wZ⟩ ih
    rw [h0] at wZ; cases wZ
    obtain ⟨e, xs, wF⟩ := hc
    rw [h1]; exact zS wF
   | int k' n => exact .cons hc ih
   | bool b => exact .cons hc ih
   | str s => exact .cons hc ih
   | unk => exact .cons hc ih
theorem Ix {T : CS} {ob : Nat -> Nat -> Ob} {t : Nat} {vs : List Value} {wh : List (List Value)} (hf : Zg Je vs wh) : ∀ {res : List (List D)} {k : Nat}, Zg (fun cs row => Zg (yJ T w) cs row) wh res ->
  (∀ i size rows, res.flatten[i]? = some (.sl size rows) -> ∃ q, ob t (k + i) = .arr q size rows) -> (∀ i c, wh.flatten[i]? = some c -> (h t (k + i)).v = c) -> Zg (Qs T h ob w) (OA t k res) vs := by
 induction hf with
 | nil => intro res k wD _ _; cases wD; exact .nil
 | @cons v cs eg iM f _ ih =>
  intro res k wD ho hh
  cases wD with
  | @cons _ row _ iN r wD =>
   have hlen := r.length
   refine .cons (Tw f (ja r (fun i size rows hi => ho i size rows ?_) (fun i c hc => hh i c ?_))) (ih wD (fun i size rows hi => ?_) (fun i c hc => ?_))
   ·rw [List.flatten_cons, List.getElem?_append_left (List.getElem?_eq_some_iff.1 hi).1]; exact hi
   ·rw [List.flatten_cons, List.getElem?_append_left (List.getElem?_eq_some_iff.1 hc).1]; exact hc
   ·have := ho (row.length + i) size rows (by rw [List.flatten_cons, List.getElem?_append_right (by omega)]; simpa using hi)
    rw [Nat.add_assoc]; exact this
   ·have := hh (row.length + i) c (by rw [List.flatten_cons, List.getElem?_append_right (by omega), <- hlen]; simpa using hc)
    rw [Nat.add_assoc]; exact this
theorem S0 {T : CS} {ob : Nat -> Nat -> Ob} {t : Nat} {vs : List Value} {wh : List (List Value)} {res : List (List D)} (hf : Zg Je vs wh) (wD : Zg (fun cs row => Zg (yJ T w) cs row) wh res)
  (ho : ∀ i size rows, res.flatten[i]? = some (.sl size rows) -> ∃ q, ob t i = .arr q size rows) (hh : ∀ i c, wh.flatten[i]? = some c -> (h t i).v = c) : Xe T h ob w (zu t res) (kT vs) := by
 have hl := Ix (k := 0) hf wD (by simpa using ho) (by simpa using hh)
 have h1 : res.length = vs.length := by rw [hf.length, wD.length]
 match res, vs, hl, h1 with
 | [r], [v], hl, _ => cases hl with | cons x _ => exact x.up
 | [], [], hl, _ => exact ⟨_, rfl, by simpa using hl⟩
 | r :: r' :: rs, v :: v' :: vs, hl, _ => exact ⟨_, rfl, by simpa using hl⟩
 | [], v :: vs, _, h1 => simp at h1
 | [r], [], _, h1 => simp at h1
 | [r], v :: v' :: vs, _, h1 => simp at h1
 | r :: r' :: rs, [], _, h1 => simp at h1
 | r :: r' :: rs, [v], _, h1 => simp at h1
theorem Kd {α β : Type} {R : α -> β -> Prop} {l : List (List α)} {m : List (List β)} (wD : Zg (fun x y => Zg R x y) l m) : Zg R l.flatten m.flatten := by
 induction wD with
 | nil => exact .nil
 | cons r _ ih => rw [List.flatten_cons, List.flatten_cons]; exact r.append ih
theorem WQ (r : Rel T0 B σ a w X h) {o : Oper} {c : Call} {f : FuncId} {d : Nat} {rows res : List (List D)} (wA : o.op = .call c) (hc : c.callee = .value (.func f)) (hd : o.dst = some d) (w7 : σ.fresh d = true)
  (wI : XW P σ c.args.toList c.argTypes.toList rows) (st : Bool) (wb : st = true -> Z4 P σ c.args.toList c.argTypes.toList = true) (ve : st = false -> Jq true res) (hs : QE P f true rows res)
  {K : Act -> World -> Prop} {Q : Exit -> Act -> World -> Prop} (hK : ∀ a' w', X6 T0 B (σ.new d (zu d res) (Kz res.flatten)) a' w' -> YQ B w w' -> K a' w') : o.wp P a w K Q := by
 have wO := St.QN w7
 unfold Oper.wp
 rw [xO wA hc hs.1, Oper.upon_enter]
 refine (hs.2 (if st then Tof T0 X else Wn T0 X h σ) w _ (fun b k hb => ?_) (r.XW st wI wb)).mono ?_
 ·cases st
  ·exact r.OW hb
  ·exact r.Tlt hb
 ·rintro e w' ⟨vs, wh, Y, rfl, v5, hY, wc, uQ, rQ⟩
  have rQ := rQ rfl
  have uy : Zg (fun cs row => Zg (QG (Tof T0 fun b => X b \/ Y b) w') cs row) wh res := by
   refine UI (fun c d row wi hdr hr => ?_) uQ
   have vU : QG (Tof (if st then Tof T0 X else Wn T0 X h σ) Y) w' c d := by simpa [Km] using hr
   cases st with
   | true =>
    have hT : ∀ b k, Tof (if true = true then Tof T0 X else Wn T0 X h σ) Y b k -> Tof T0 (fun b => X b \/ Y b) b k := by
     intro b k hb
     rcases hb with hb | hb
     ·rcases (show Tof T0 X b k from by simpa using hb) with hb | hb
      ·exact .inl hb
      ·exact .inr (.inl hb)
     ·exact .inr (.inr hb)
    cases d with
    | sl size rows =>
     obtain ⟨e, xs, ho, hz, wD⟩ := vU
     exact ⟨e, xs, ho, hz, wD.imp fun _ _ => Rd.mono (fun b k v hb hc => ⟨hc, hT b k hb⟩)⟩
    | int k n => exact Rd.scalar rfl vU
    | bool b => exact Rd.scalar rfl vU
    | str s => exact Rd.scalar rfl vU
    | unk => exact Rd.scalar rfl vU
   | false => exact QG.flat (by simpa using ve rfl row wi d hdr) vU
  have vd := Kd uy
  rw [hd]
  refine hK _ _ ⟨fun b => X b \/ Y b, fun t j => if t = d then Hd.of ((wh.flatten[j]?).getD undef) else h t j, ?_⟩ (YQ.Vy v5 r.hB)
  have wG : ∀ (j size : Nat) (rows : List (List D)), res.flatten[j]? = some (D.sl size rows) -> ∃ c, wh.flatten[j]? = some c /\ QG (Tof T0 fun b => X b \/ Y b) w' c (D.sl size rows) := fun j size rows hj => vd.get' j _ hj
  have wU : ∀ j, (σ.new d (zu d res) (Kz res.flatten)).ob d j = Zw (Kz res.flatten) j := fun j => by rw [St.Xm]; simp [wO]
  have ox : ∀ j, Zw (Kz res.flatten) j ≠ .none -> ∃ size rows, res.flatten[j]? = some (D.sl size rows) := by
   intro j wB
   rw [jJ] at wB
   split at wB
   ·rename_i size rows hj; exact ⟨size, rows, hj⟩
   ·exact absurd rfl wB
  refine r.new w7 (Below.grownBy v5) (fun b hb => .inl hb) (fun b hb => hb.imp id (fun hy => hY b hy)) (zu d res) (kT vs) (Kz res.flatten) (fun j => Hd.of ((wh.flatten[j]?).getD undef)) ?_ (fun j => ?_) (fun j b _ hb => hb) (fun j b wB hb => ?_) (fun j j' b wB wv hb wM => ?_)
  ·refine S0 wc (UI (fun _ _ _ _ _ hr => QG.top hr) uy) (fun i size rows hi => ⟨false, ?_⟩) (fun i c hi => by simp [hi, Hd.of])
   rw [wU, jJ, hi]
  ·rw [jJ]
   split
   ·rename_i size rows hj
    obtain ⟨c, wu, wF⟩ := wG j size rows hj
    obtain ⟨e, xs, ho, hz, wD⟩ := wF
    exact ⟨e, xs, by rw [wu]; exact ho, hz, wD⟩
   ·trivial
  ·obtain ⟨size, rows, hj⟩ := ox j wB
   obtain ⟨c, wu, _⟩ := wG j size rows hj
   have wM : blk c = some b := by simpa [Hd.of, wu] using hb
   have := rQ.1 j c _ b wu hj rfl wM
   refine ⟨this.1, ?_, this.2.1⟩
   rintro (hx | hy)
   ·have := r.hX b hx; omega
   ·exact this.2.2 hy
  ·obtain ⟨size, rows, hj⟩ := ox j wB
   obtain ⟨wW, wK, ue⟩ := ox j' wv
   obtain ⟨c, wu, _⟩ := wG j size rows hj
   obtain ⟨c2, sT, _⟩ := wG j' wW wK ue
   exact rQ.2 j j' c c2 _ _ b wu hj sT ue rfl rfl (by simpa [Hd.of, wu] using hb) (by simpa [Hd.of, sT] using wM)
end
end Go.Vm
namespace Go.Vm
open Go.RowKit
section
variable {P : Program} {T0 : CS} {B : Nat -> Prop} {σ : St} {a : Act} {w w' : World} {X X' : Nat -> Prop} {h : Nat -> Nat -> Hd}
theorem YQ.qj {B : Nat -> Prop} (hg : w.grownBy w' none) (hB : ∀ b, B b -> b < w.heap.size) : YQ B w w' := ⟨hg.os, hg.tape, hg.output, hg.size, fun k hk => hg.block k (hB k hk) (by simp)⟩
theorem Rel.HB (r : Rel T0 B σ a w X h) {d : Nat} (hf : σ.fresh d = true) (cs : Array Value) (T : TypeId) (xs : List At) (hx : Zs d xs = false) (wD : Zg (Zm (Tof T0 X) h σ.ob w) xs cs.toList) :
  X6 T0 B (σ.new d (.one (.bptr d 0)) [.box xs]) (a.put (some d) (.pointer (some ⟨w.heap.size, 0, none⟩))) (w.alloc (.cells cs T)) /\ YQ B w (w.alloc (.cells cs T)) := by
 have hg := World.grownBy_alloc w (.cells cs T) none
 have wO := St.QN hf
 have hT : ∀ b k v, Tof T0 X b k -> w.cell? ⟨b, k, none⟩ = some v -> (w.alloc (.cells cs T)).cell? ⟨b, k, none⟩ = some v /\ Tof T0 X b k := by
  intro b k v hb wG
  refine ⟨?_, hb⟩
  rw [World.cell?_of_block (hg.block b (r.Tlt hb) (by simp))]; exact wG
 refine ⟨⟨X, fun t j => if t = d then Hd.of (.pointer (some ⟨w.heap.size, 0, none⟩)) else h t j, ?_⟩, YQ.qj hg r.hB⟩
 have w6 : (σ.new d (.one (.bptr d 0)) [.box xs]).ob d 0 = .box xs := by rw [St.Xm]; simp [wO, Zw]
 have hc : ∀ t j, t ≠ d -> Cpt h (fun t j => if t = d then Hd.of (.pointer (some ⟨w.heap.size, 0, none⟩)) else h t j) σ.ob (σ.new d (.one (.bptr d 0)) [.box xs]).ob t j := by
  intro t j wB
  have he : (σ.new d (.one (.bptr d 0)) [.box xs]).ob t j = σ.ob t j := by rw [St.Xm, if_neg (fun hh => wB hh.1)]
  exact Cpt.same (by simp [wB]) he
 refine r.new hf hg (fun _ hb => hb) (fun _ hb => .inl hb) _ _ [.box xs] (fun _ => Hd.of (.pointer (some ⟨w.heap.size, 0, none⟩))) ?_ (fun j => ?_) (fun j b _ hb => hb) (fun j b _ hb => ?_) (fun j j' b wB wv _ _ => ?_)
 ·exact ⟨rfl, fun cells _ => ⟨w.heap.size, by simp [Hd.of], rfl⟩⟩
 ·cases j with
  | zero =>
   refine ⟨w.heap.size, cs, T, rfl, ?_, yx hT hc hx wD⟩
   exact heap_alloc_new w _
  | succ j => simp [Zw, Xs]
 ·simp [Hd.of, blk] at hb; subst hb
  refine ⟨Nat.le_refl _, fun tr => ?_, by simp⟩
  have := (r.hX _ tr).2; omega
 ·have : ∀ j, Zw [Ob.box xs] j ≠ .none -> j = 0 := by
   intro j hj
   cases j with
   | zero => rfl
   | succ j => simp [Zw] at hj
  rw [this j wB, this j' wv]
theorem Rel.Hg (r : Rel T0 B σ a w X h) {d : Nat} (hf : σ.fresh d = true) (hg : w.grownBy w' none) (v : Value) {size : Nat} {rows : List (List D)}
  (ho : QG (Tof T0 X) w' v (.sl size rows)) (hb : ∀ b, blk v = some b -> w.heap.size <= b /\ b < w'.heap.size) :
  X6 T0 B (σ.new d (.one (.sref d 0 0 rows.length)) [.arr false size rows]) (a.put (some d) v) w' /\ YQ B w w' := by
 have wO := St.QN hf
 refine ⟨⟨X, fun t j => if t = d then Hd.of v else h t j, ?_⟩, YQ.qj hg r.hB⟩
 have w6 : (σ.new d (.one (.sref d 0 0 rows.length)) [.arr false size rows]).ob d 0 = .arr false size rows := by rw [St.Xm]; simp [wO, Zw]
 obtain ⟨e, xs, wF, hz, wD⟩ := ho
 refine r.new hf hg (fun _ hb => hb) (fun _ hb => .inl hb) _ _ [.arr false size rows] (fun _ => Hd.of v) ?_ (fun j => ?_) (fun j b _ hb => hb) (fun j b _ wM => ?_) (fun j j' b wB wv _ _ => ?_)
 ·refine ⟨Xj wF, fun q' wW wK wZ => ?_, fun wW wK wZ => by rw [w6] at wZ; cases wZ⟩
  rw [w6] at wZ; cases wZ
  simp only [if_true]
  exact zS wF
 ·cases j with
  | zero => exact ⟨e, xs, wF, hz, wD⟩
  | succ j => simp [Zw, Xs]
 ·have := hb b wM
  refine ⟨this.1, fun tr => ?_, this.2⟩
  have := (r.hX _ tr).2; omega
 ·have : ∀ j, Zw [Ob.arr false size rows] j ≠ .none -> j = 0 := by
   intro j hj
   cases j with
   | zero => rfl
   | succ j => simp [Zw] at hj
  rw [this j wB, this j' wv]
theorem Rel.G4 (r : Rel T0 B σ a w X h) {d : Nat} (hf : σ.fresh d = true) (hg : w.grownBy w' none) (v : Value) {e : TypeId} {size : Nat} {rows : List (List D)} {xs : List Value}
  (wF : w'.ownsRow 0 e size v rows.length xs) (hz : ∀ r ∈ rows, r.length = size) (wD : Xz w' xs rows.flatten (fun _ => False)) (hb : ∀ b, blk v = some b -> w.heap.size <= b /\ b < w'.heap.size) :
  X6 T0 B (σ.new d (.one (.sref d 0 0 rows.length)) [.arr true size rows]) (a.put (some d) v) w' /\ YQ B w w' := by
 have wO := St.QN hf
 refine ⟨⟨X, fun t j => if t = d then ⟨v, fun k => (xs[k]?).getD undef, fun b => blk v = some b⟩ else h t j, ?_⟩, YQ.qj hg r.hB⟩
 have w6 : (σ.new d (.one (.sref d 0 0 rows.length)) [.arr true size rows]).ob d 0 = .arr true size rows := by rw [St.Xm]; simp [wO, Zw]
 refine r.new hf hg (fun _ hb => hb) (fun _ hb => .inl hb) _ _ [.arr true size rows] (fun _ => ⟨v, fun k => (xs[k]?).getD undef, fun b => blk v = some b⟩) ?_ (fun j => ?_) (fun j b _ hb => hb) (fun j b _ wM => ?_) (fun j j' b wB wv _ _ => ?_)
 ·refine ⟨Xj wF, fun q' wW wK wZ => ?_, fun wW wK wZ => by rw [w6] at wZ; cases wZ⟩
  rw [w6] at wZ; cases wZ
  simp only [if_true]
  exact zS wF
 ·cases j with
  | zero =>
   obtain ⟨hl, Sk, h1, h2, h3⟩ := wD
   exact ⟨e, xs, wF, hz, ⟨hl, Sk, h1, fun k b hk => (h2 k b hk).elim, h3⟩, fun k x d hx _ _ => by simp [hx]⟩
  | succ j => simp [Zw, Xs]
 ·have := hb b wM
  refine ⟨this.1, fun tr => ?_, this.2⟩
  have := (r.hX _ tr).2; omega
 ·have : ∀ j, Zw [Ob.arr true size rows] j ≠ .none -> j = 0 := by
   intro j hj
   cases j with
   | zero => rfl
   | succ j => simp [Zw] at hj
  rw [this j wB, this j' wv]
theorem N6 (r : Rel T0 B σ a w X h) {o : Oper} {T : TypeId} {d : Nat} {row : List At} (wA : o.op = .alloc T) (hd : o.dst = some d) (hf : σ.fresh d = true) (hz : XD P T = true) (uc : yM P 12 T = some row) (wi : Zs d row = false)
  {K : Act -> World -> Prop} {Q : Exit -> Act -> World -> Prop} (hK : ∀ a' w', X6 T0 B (σ.new d (.one (.bptr d 0)) [.box row]) a' w' -> YQ B w w' -> K a' w') : o.wp P a w K Q := by
 obtain ⟨i, z, hi, iJ, vK, wD⟩ := T2 hz uc
 have wV : (execOp a.eval o).run P w = .ok (.value (.pointer (some ⟨w.heap.size, 0, none⟩))) (w.alloc (.cells z.cells T)) := by
  simp [execOp, wA, Instr.alloc, zeroValue, typeInfo, hi, iJ, newVar, newRow]
 unfold Oper.wp
 rw [wV, Oper.upon_value, hd]
 have := r.HB hf z.cells T row wi (wD _ _ _ _)
 exact hK _ _ this.1 this.2
theorem II (r : Rel T0 B σ a w X h) {o : Oper} {T : TypeId} {x : Operand} {d : Nat} (wA : o.op = .box T x) (hd : o.dst = some d) (hf : σ.fresh d = true) (hg : gOf (look P σ T x) = true) (ve : (unc (look P σ T x)).flat = true) (wi : Zs d (unc (look P σ T x)).cells = false)
  {K : Act -> World -> Prop} {Q : Exit -> Act -> World -> Prop} (hK : ∀ a' w', X6 T0 B (σ.new d (.one (.bptr d 0)) [.box (unc (look P σ T x)).cells]) a' w' -> YQ B w w' -> K a' w') : o.wp P a w K Q := by
 have wD := yO ve (r.arg (P := P) T x rfl hg)
 have wV : (execOp a.eval o).run P w = .ok (.value (.pointer (some ⟨w.heap.size, 0, none⟩))) (w.alloc (.cells (a.eval x).cells T)) := by
  simp [execOp, wA, Instr.box, newVar, newRow]
 unfold Oper.wp
 rw [wV, Oper.upon_value, hd]
 have := r.HB hf (a.eval x).cells T _ wi wD
 exact hK _ _ this.1 this.2
end
end Go.Vm
