/- An abstract machine Oj the model of Go, by value, and that it is sound: part Vb. No condition. -/
import Derived.Test.YtjflhdkeibijaaaGreatVa
namespace Go.Vm
open Go.RowKit
section
variable {P : Program} {T0 : CS} {B : Nat → Prop} {σ : St} {a : Act} {w w' : World} {X X' : Nat → Prop} {h : Nat → Nat → Hd}
theorem Z2.BC {T T' : CS} {h h' : Nat → Nat → Hd} {ob ob' : Nat → Nat → Ob} (hT : ∀ b k v, T b k → w.cell? ⟨b, k, none⟩ = some v → w'.cell? ⟨b, k, none⟩ = some v ∧ T' b k) (hc : ∀ t j, Cpt h h' ob ob' t j)
  {x : At} {v : Value} (r : Z2 T h ob w x v) : Z2 T' h' ob' w' x v := by
 -- a slot that the atom does not name
 obtain ⟨d, hd⟩ : ∃ d, x.ref d = false := by
  cases x with
  | sref t j lo len => exact ⟨t + 1, by simp [At.ref]⟩
  | ptr t j i c => exact ⟨t + 1, by simp [At.ref]⟩
  | bptr t c => exact ⟨t + 1, by simp [At.ref]⟩
  | fn f t => exact ⟨t + 1, by simp [At.ref]⟩
  | tref t j i c o => exact ⟨t + 1, by simp [At.ref]⟩
  | any => exact ⟨0, rfl⟩
  | d x => exact ⟨0, rfl⟩
  | nil s => exact ⟨0, rfl⟩
  | rptr r c => exact ⟨0, rfl⟩
 exact Z2.carry hT (d := d) (fun t j _ => hc t j) hd r
def jQ (p : At → Bool) : List At → Bool
 | [] => false
 | x :: xs => p x || jQ p xs
def V.It (p : At → Bool) : V → Bool
 | .one x => p x
 | .agg xs => jQ p xs
 | _ => false
def MM (p : At → Bool) : List V → Bool
 | [] => false
 | x :: xs => x.It p || MM p xs
def V.J9 (p : At → Bool) : V → Bool
 | .tup xs => MM p xs
 | .cnd _ x => x.It p
 | .fix _ x => x.It p
 | .one x => p x
 | .agg xs => jQ p xs
 | .any => false
def KL (p : At → Bool) : List Ob → Bool
 | [] => false
 | .box cells :: os => jQ p cells || KL p os
 | .lit _ rows :: os => jQ p rows.flatten || KL p os
 | _ :: os => KL p os
def St.J9 (p : At → Bool) : St → Bool
 | [] => false
 | e :: σ => e.1.J9 p || KL p e.2 || St.J9 p σ
def At.isT (t : Nat) : At → Bool
 | .tref u _ _ _ _ => u == t
 | _ => false
theorem z3 : ∀ (xs : List At), jQ (fun _ => false) xs = false
 | [] => rfl
 | _ :: xs => by simp [jQ, z3 xs]
theorem Sg : ∀ (xs : List V), MM (fun _ => false) xs = false
 | [] => rfl
 | x :: xs => by cases x <;> simp [MM, V.It, z3, Sg xs]
theorem Gy (x : V) : x.It (fun _ => false) = false := by cases x <;> simp [V.It, z3]
theorem zT (x : V) : x.J9 (fun _ => false) = false := by cases x <;> simp [V.J9, z3, Sg, Gy]
theorem kV : ∀ (os : List Ob), KL (fun _ => false) os = false
 | [] => rfl
 | o :: os => by cases o <;> simp [KL, z3, kV os]
theorem St.zT : ∀ (σ : St), St.J9 (fun _ => false) σ = false
 | [] => rfl
 | e :: σ => by simp [St.J9, Go.Vm.zT, Go.Vm.kV, St.zT σ]
theorem St.Ug {p : At → Bool} : ∀ {σ : St}, σ.J9 p = false → ∀ t, (σ.get t).J9 p = false
 | [], _, t => by simp [St.get, V.J9]
 | e :: σ, h, 0 => by simp only [St.J9, Bool.or_eq_false_iff] at h; exact h.1.1
 | e :: σ, h, t + 1 => by
  simp only [St.J9, Bool.or_eq_false_iff] at h
  have := St.Ug h.2 t
  simpa [St.get] using this
theorem MU {p : At → Bool} : ∀ {os : List Ob}, KL p os = false → ∀ j, KL p [YD os j] = false
 | [], _, j => by simp [YD, KL]
 | o :: os, h, 0 => by cases o <;> simp_all [YD, KL]
 | o :: os, h, j + 1 => by
  have h2 : KL p os = false := by cases o <;> simp_all [KL]
  have := MU h2 j
  simpa [YD] using this
theorem St.Rz {p : At → Bool} : ∀ {σ : St}, σ.J9 p = false → ∀ t j, KL p [σ.ob t j] = false
 | [], _, t, j => by simp [St.ob, KL]
 | e :: σ, h, 0, j => by simp only [St.J9, Bool.or_eq_false_iff] at h; exact MU h.1.2 j
 | e :: σ, h, t + 1, j => by
  simp only [St.J9, Bool.or_eq_false_iff] at h
  have := St.Rz h.2 t j
  simpa [St.ob] using this
theorem R3 {T T' : CS} {h h' : Nat → Nat → Hd} {ob ob' : Nat → Nat → Ob} {p : At → Bool} (f : ∀ {x : At} {v : Value}, p x = false → Z2 T h ob w x v → Z2 T' h' ob' w' x v) {xs : List At} {vs : List Value} (hx : jQ p xs = false)
  (r : Zp (Z2 T h ob w) xs vs) : Zp (Z2 T' h' ob' w') xs vs := by
 induction r with
 | nil => exact .nil
 | cons r _ ih =>
  simp only [jQ, Bool.or_eq_false_iff] at hx
  exact .cons (f hx.1 r) (ih hx.2)
theorem Qe.map {T T' : CS} {h h' : Nat → Nat → Hd} {ob ob' : Nat → Nat → Ob} {p : At → Bool} (f : ∀ {x : At} {v : Value}, p x = false → Z2 T h ob w x v → Z2 T' h' ob' w' x v) {x : V} {v : Value} (hx : x.It p = false)
  (r : Qe T h ob w x v) : Qe T' h' ob' w' x v := by
 cases x with
 | any => exact r
 | one x => exact f hx r
 | agg xs => obtain ⟨cs, e, r⟩ := r; exact ⟨cs, e, R3 f hx r⟩
 | tup xs => exact r.elim
 | cnd g x => exact r.elim
 | fix u x => exact r.elim
theorem XZ.map {T T' : CS} {h h' : Nat → Nat → Hd} {ob ob' : Nat → Nat → Ob} {p : At → Bool} (f : ∀ {x : At} {v : Value}, p x = false → Z2 T h ob w x v → Z2 T' h' ob' w' x v) {x : V} {v : Value} (hx : x.J9 p = false)
  (r : XZ T h ob w x v) : XZ T' h' ob' w' x v := by
 cases x with
 | any => exact r
 | one x => exact f hx r
 | agg xs => obtain ⟨cs, e, r⟩ := r; exact ⟨cs, e, R3 f hx r⟩
 | tup xs =>
  obtain ⟨vs, e, r⟩ := r
  refine ⟨vs, e, ?_⟩
  clear e
  generalize vs.toList = vl at r
  simp only [V.J9] at hx
  induction r with
  | nil => exact .nil
  | cons r _ ih =>
   simp only [MM, Bool.or_eq_false_iff] at hx
   exact .cons (Qe.map f hx.1 r) (ih hx.2)
 | cnd g x => exact ⟨fun hg => Qe.map f hx (r.1 hg), r.2⟩
 | fix u x => exact ⟨r.1, Qe.map f hx r.2⟩
theorem Q5.map {T T' : CS} {h h' : Nat → Nat → Hd} {ob ob' : Nat → Nat → Ob} {p : At → Bool} (f : ∀ {x : At} {v : Value}, p x = false → Z2 T h ob w x v → Z2 T' h' ob' w' x v)
  (hT : ∀ b k v, T b k → w.cell? ⟨b, k, none⟩ = some v → w'.cell? ⟨b, k, none⟩ = some v ∧ T' b k) {hd : Hd} {o : Ob}
  (hub : o ≠ .none → ∀ b, blk hd.v = some b → hd.u b) (hb : o ≠ .none → ∀ b, hd.u b → w'.heap[b]? = w.heap[b]?) (hx : KL p [o] = false) (r : Q5 T h ob w hd o) : Q5 T' h' ob' w' hd o := by
 cases o with
 | none => trivial
 | box cells =>
  obtain ⟨b, cs, e, hv, hh, hal⟩ := r
  simp only [KL, Bool.or_false] at hx
  exact ⟨b, cs, e, hv, by rw [hb (by simp) b (hub (by simp) b (by rw [hv]; rfl))]; exact hh, R3 f hx hal⟩
 | arr q size rows =>
  have hk : ∀ {e : TypeId} {n : Nat} {xs : List Value}, w.ownsRow 0 e size hd.v n xs → w'.ownsRow 0 e size hd.v n xs := fun ho => K2 (fun b h => hb (by simp) b (hub (by simp) b h)) ho
  cases q with
  | false =>
   obtain ⟨e, xs, ho, hz, hal⟩ := r
   exact ⟨e, xs, hk ho, hz, hal.imp fun _ _ => Rd.mono hT⟩
  | true =>
   obtain ⟨e, xs, ho, hz, hal, hn⟩ := r
   exact ⟨e, xs, hk ho, hz, hal.VS (fun b h => hb (by simp) b h.1), hn⟩
 | lit size rows =>
  obtain ⟨e, xs, ho, hz, hal⟩ := r
  simp only [KL, Bool.or_false] at hx
  exact ⟨e, xs, K2 (fun b h => hb (by simp) b (hub (by simp) b h)) ho, hz, R3 f hx hal⟩
def Ob.F8 : Ob → Ob → Prop
 | .arr q s r, .arr q' s' r' => q = q' ∧ s = s' ∧ r.length = r'.length
 | .lit s r, .lit s' r' => s = s' ∧ r.length = r'.length
 | .box _, .box _ => True
 | _, _ => False
theorem Rel.change (r : Rel T0 B σ a w X h) {t j : Nat} (hob : σ.ob t j ≠ .none) (hsz : w'.heap.size = w.heap.size) (hw : ∀ k, ¬ (h t j).u k → w'.heap[k]? = w.heap[k]?) (M : Nat → Prop)
  (hM : ∀ b, M b → ¬ B b ∧ ¬ X b ∧ b < w.heap.size ∧ ∀ u i, σ.ob u i ≠ .none → ¬ (h u i).u b) (o' : Ob) (hsh : (σ.ob t j).F8 o') (hd' : Hd) (hv : hd'.v = (h t j).v) (hu : ∀ b, hd'.u b → (h t j).u b ∨ M b) (hub : ∀ b, blk hd'.v = some b → hd'.u b)
  (p : At → Bool) (hp : σ.J9 p = false) (hn : (∀ u i c o, p (.tref t u i c o) = true) ∨ hd'.n = (h t j).n)
  (hnew : Q5 (Tof T0 X) (fun u i => if u = t ∧ i = j then hd' else h u i) (σ.Zt t j o').ob w' hd' o') : Rel T0 B (σ.Zt t j o') a w' X (fun u i => if u = t ∧ i = j then hd' else h u i) := by
 have hobs : ∀ u i, ¬ (u = t ∧ i = j) → (σ.Zt t j o').ob u i = σ.ob u i := by
  intro u i hne
  rw [St.XX σ t j o' u i hob, if_neg hne]
 have hself : (σ.Zt t j o').ob t j = o' := by rw [St.XX σ t j o' t j hob]; simp
 have hT : ∀ b k v, Tof T0 X b k → w.cell? ⟨b, k, none⟩ = some v → w'.cell? ⟨b, k, none⟩ = some v ∧ Tof T0 X b k := by
  intro b' k v hb' hcell
  refine ⟨?_, hb'⟩
  have hne : ¬ (h t j).u b' := by
   intro hu'
   have hown := r.own t j b' hob hu'
   rcases hb' with hb' | hb'
   ·exact hown.1 (r.hT _ _ hb')
   ·exact hown.2.1 hb'
  rw [World.cell?_of_block (hw b' hne)]; exact hcell
 have hhv : ∀ u i, ((fun u i => if u = t ∧ i = j then hd' else h u i) u i).v = (h u i).v := by
  intro u i
  by_cases hc : u = t ∧ i = j
  ·simp only [hc, and_self, if_true]; exact hv
  ·simp only [hc, if_false]
 -- the shapes, seen from the atoms
 have hsl : ∀ u i q size rows, (σ.Zt t j o').ob u i = .arr q size rows → ∃ rows0, σ.ob u i = .arr q size rows0 ∧ rows0.length = rows.length := by
  intro u i q size rows ho
  by_cases hc : u = t ∧ i = j
  ·obtain ⟨rfl, rfl⟩ := hc
   rw [hself] at ho; subst ho
   cases ho0 : σ.ob u i with
   | arr q0 s0 r0 => rw [ho0] at hsh; obtain ⟨rfl, rfl, hl⟩ := hsh; exact ⟨r0, rfl, hl⟩
   | none => rw [ho0] at hsh; exact hsh.elim
   | box c => rw [ho0] at hsh; exact hsh.elim
   | lit s r => rw [ho0] at hsh; exact hsh.elim
  ·rw [hobs u i hc] at ho; exact ⟨rows, ho, rfl⟩
 have hll : ∀ u i size rows, (σ.Zt t j o').ob u i = .lit size rows → ∃ rows0, σ.ob u i = .lit size rows0 ∧ rows0.length = rows.length := by
  intro u i size rows ho
  by_cases hc : u = t ∧ i = j
  ·obtain ⟨rfl, rfl⟩ := hc
   rw [hself] at ho; subst ho
   cases ho0 : σ.ob u i with
   | arr q0 s0 r0 => rw [ho0] at hsh; exact hsh.elim
   | none => rw [ho0] at hsh; exact hsh.elim
   | box c => rw [ho0] at hsh; exact hsh.elim
   | lit s r => rw [ho0] at hsh; obtain ⟨rfl, hl⟩ := hsh; exact ⟨r, rfl, hl⟩
  ·rw [hobs u i hc] at ho; exact ⟨rows, ho, rfl⟩
 have hbl : ∀ u i cells, (σ.Zt t j o').ob u i = .box cells → ∃ cells0, σ.ob u i = .box cells0 := by
  intro u i cells ho
  by_cases hc : u = t ∧ i = j
  ·obtain ⟨rfl, rfl⟩ := hc
   rw [hself] at ho; subst ho
   cases ho0 : σ.ob u i with
   | arr q0 s0 r0 => rw [ho0] at hsh; exact hsh.elim
   | none => rw [ho0] at hsh; exact hsh.elim
   | box c => exact ⟨c, rfl⟩
   | lit s r => rw [ho0] at hsh; exact hsh.elim
  ·rw [hobs u i hc] at ho; exact ⟨cells, ho⟩
 have at_ : ∀ {x : At} {v : Value}, p x = false → Z2 (Tof T0 X) h σ.ob w x v → Z2 (Tof T0 X) (fun u i => if u = t ∧ i = j then hd' else h u i) (σ.Zt t j o').ob w' x v := by
  intro x v hpx rx
  cases x with
  | any => exact rx
  | d x => exact Rd.mono hT rx
  | nil s => exact rx
  | sref u i lo len =>
   refine ⟨rx.1, fun q size rows ho => ?_, fun size rows ho => ?_⟩
   ·obtain ⟨rows0, ho0, hl⟩ := hsl u i q size rows ho
    rw [hhv, ← hl]; exact rx.2.1 q size rows0 ho0
   ·obtain ⟨rows0, ho0, hl⟩ := hll u i size rows ho
    rw [hhv, ← hl]; exact rx.2.2 size rows0 ho0
  | ptr u i k c =>
   refine ⟨rx.1, fun q size rows ho => ?_⟩
   obtain ⟨rows0, ho0, hl⟩ := hsl u i q size rows ho
   rw [hhv]; exact rx.2 q size rows0 ho0
  | bptr u c =>
   refine ⟨rx.1, fun cells ho => ?_⟩
   obtain ⟨cells0, ho0⟩ := hbl u 0 cells ho
   rw [hhv]; exact rx.2 cells0 ho0
  | fn f u =>
   refine ⟨rx.1, fun cells ho => ?_⟩
   obtain ⟨cells0, ho0⟩ := hbl u 0 cells ho
   rw [hhv]; exact rx.2 cells0 ho0
  | tref u i k c o =>
   refine ⟨rx.1, fun size rows ho => ?_⟩
   obtain ⟨rows0, ho0, hl⟩ := hsl u i true size rows ho
   have h1 := rx.2 size rows0 ho0
   by_cases hc : u = t ∧ i = j
   ·obtain ⟨rfl, rfl⟩ := hc
    rcases hn with hn | hn
    ·rw [hn] at hpx; cases hpx
    ·simp only [and_self, if_true, hn]; exact h1
   ·simp only [hc, if_false]; exact h1
  | rptr rr c =>
   obtain ⟨b, off, g, e, hk⟩ := rx
   exact ⟨b, off, g, e, fun k d hd => ⟨(hT _ _ _ (hk k d hd).2.1 (hk k d hd).1).1, (hk k d hd).2.1, Rd.mono hT (hk k d hd).2.2⟩⟩
 have hne_ : ∀ u i, (σ.Zt t j o').ob u i ≠ .none → σ.ob u i ≠ .none := by
  intro u i hn'
  by_cases hu' : u = t ∧ i = j
  ·obtain ⟨rfl, rfl⟩ := hu'; exact hob
  ·rw [hobs u i hu'] at hn'; exact hn'
 refine ⟨by rw [r.size, St.XA], r.defers, by rw [hsz]; exact r.hB, fun b hb => by rw [hsz]; exact r.hX b hb, r.hT, fun u hu' => ?_, fun u i => ?_, fun u i b' hne hb' => ?_, fun u i b' hne hb' => ?_, fun u i u' i' b' hne hne' hb1 hb2 => ?_⟩
 ·rw [St.XA] at hu'
  rw [St.XJ]; exact XZ.map at_ (St.Ug hp u) (r.slot u hu')
 ·by_cases hc : u = t ∧ i = j
  ·obtain ⟨rfl, rfl⟩ := hc; rw [hself]; simp only [and_self, if_true]; exact hnew
  ·rw [hobs u i hc]
   simp only [hc, if_false]
   exact Q5.map at_ hT (fun ho b => r.ub u i b ho) (fun ho b hb => hw b (fun hbt => hc (r.inj u i t j b ho hob hb hbt))) (St.Rz hp u i) (r.obj u i)
 ·by_cases hc : u = t ∧ i = j
  ·simp only [hc, and_self, if_true] at hb' ⊢; exact hub b' hb'
  ·simp only [hc, if_false] at hb' ⊢; exact r.ub u i b' (hne_ u i hne) hb'
 ·rw [hsz]
  by_cases hc : u = t ∧ i = j
  ·simp only [hc, and_self, if_true] at hb'
   rcases hu b' hb' with h1 | h1
   ·exact r.own t j b' hob h1
   ·have := hM b' h1; exact ⟨this.1, this.2.1, this.2.2.1⟩
  ·simp only [hc, if_false] at hb'; exact r.own u i b' (hne_ u i hne) hb'
 ·by_cases hc : u = t ∧ i = j
  ·by_cases hc' : u' = t ∧ i' = j
   ·exact ⟨by rw [hc.1, hc'.1], by rw [hc.2, hc'.2]⟩
   ·simp only [hc, and_self, if_true] at hb1
    simp only [hc', if_false] at hb2
    rcases hu b' hb1 with h1 | h1
    ·have := r.inj t j u' i' b' hob (hne_ u' i' hne') h1 hb2
     rw [hc.1, hc.2]; exact this
    ·exact absurd hb2 ((hM b' h1).2.2.2 u' i' (hne_ u' i' hne'))
  ·by_cases hc' : u' = t ∧ i' = j
   ·simp only [hc', and_self, if_true] at hb2
    simp only [hc, if_false] at hb1
    rcases hu b' hb2 with h1 | h1
    ·have := r.inj u i t j b' (hne_ u i hne) hob hb1 h1
     rw [hc'.1, hc'.2]; exact this
    ·exact absurd hb1 ((hM b' h1).2.2.2 u i (hne_ u i hne))
   ·simp only [hc, if_false] at hb1
    simp only [hc', if_false] at hb2
    exact r.inj u i u' i' b' (hne_ u i hne) (hne_ u' i' hne') hb1 hb2
theorem Rel.FK (r : Rel T0 B σ a w X h) {t j : Nat} (hob : σ.ob t j ≠ .none) (hsz : w'.heap.size = w.heap.size) (hw : ∀ k, ¬ (h t j).u k → w'.heap[k]? = w.heap[k]?)
  (o' : Ob) (hsh : (σ.ob t j).F8 o') (hnew : Q5 (Tof T0 X) h (σ.Zt t j o').ob w' (h t j) o') : Rel T0 B (σ.Zt t j o') a w' X h := by
 have hh : (fun u i => if u = t ∧ i = j then h t j else h u i) = h := by
  funext u i
  by_cases hc : u = t ∧ i = j
  ·simp [hc]
  ·simp [hc]
 have := r.change hob hsz hw (fun _ => False) (fun _ hh => hh.elim) o' hsh (h t j) rfl (fun b hb => .inl hb) (fun b hb => r.ub t j b hob hb) (fun _ => false) (St.zT σ) (.inr rfl) (by rw [hh]; exact hnew)
 rw [hh] at this; exact this
theorem run_store {T : TypeId} {ti : TypeInfo} (hi : P.info? T = some ti) {g o : Nat} {e : TypeId} {cur : Array Value} {val : Value} (hg : w.heap[g]? = some (.cells cur e (0, 0))) (hsz : val.cells.size = P.cellsOf T) (hle : o + P.cellsOf T ≤ cur.size) (h1 : ∀ u ∈ val.cells.toList, u.oneCell' = true) :
  (Instr.storeAt T (.pointer (some ⟨g, o, none⟩)) val).run P w = .ok () (w.setRow g (place cur.toList o val.cells.toList).toArray) := by
 have hst := run_storeCells_at P g o e val.cells.toList 0 cur w hg (by simp; omega) h1
 have hne : ¬ val.cells.size ≠ P.cellsOf T := by omega
 simp only [Instr.storeAt, Instr.sureAddr, storeVar, Sem.run_bind, Sem.run_pure, Result.andThen_ok, Qi hi, if_neg hne]
 rw [hst]
 simp [place]
theorem Yo.setRow {B : Nat → Prop} {g : Nat} (hg : ¬ B g) (cs : Array Value) : Yo B w (w.setRow g cs) :=
 ⟨rfl, rfl, rfl, by simp [World.setRow], fun k hk => setRow_other w g k cs (fun e => hg (e ▸ hk))⟩
theorem PK (r : Rel T0 B σ a w X h) {o : Oper} {T : TypeId} {x y : Operand} (hop : o.op = .store T x y) (hd : o.dst = none) (ht : Yd P T = true) (hgx : gOf (look P σ 0 x) = true) (hgy : gOf (look P σ T y) = true)
  {t c : Nat} (hx : unc (look P σ 0 x) = .one (.bptr t c)) {cells : List At} (ho : σ.ob t 0 = .box cells) (hfl : (unc (look P σ T y)).flat = true) (hl : (unc (look P σ T y)).cells.length = P.cellsOf T) (hle : c + P.cellsOf T ≤ cells.length)
  {K : Act → World → Prop} {Q : Exit → Act → World → Prop} (hK : ∀ a' w', Qo T0 B (σ.Zt t 0 (.box (place cells c (unc (look P σ T y)).cells))) a' w' → Yo B w w' → K a' w') : o.wp P a w K Q := by
 obtain ⟨_, ti, _, hi, _, _⟩ := qQ ht
 have hax := r.arg (P := P) 0 x hx hgx
 obtain ⟨b, cs, e, hb, he, hh, hal⟩ := r.box ho hax
 have hy := qJ hfl (r.arg (P := P) T y rfl hgy)
 have hyl := hy.length
 have hcl := hal.length
 have e1 : cs.toList.length = cs.size := Array.length_toList
 have e2 : (a.eval y).cells.toList.length = (a.eval y).cells.size := Array.length_toList
 have hrun := run_store (P := P) (w := w) hi (o := c) (val := a.eval y) hh (by omega) (by omega) (fun u hu => by obtain ⟨x', _, hx'⟩ := hy.mem hu; exact Z2.Yv hx')
 have hob : σ.ob t 0 ≠ .none := by rw [ho]; simp
 have hblk : blk (h t 0).v = some b := by rw [hb]; rfl
 have hB := r.Et hob hblk
 have hub := r.ub t 0 b hob hblk
 unfold Oper.wp
 simp only [execOp, hop, he, Sem.run_bind, hrun, Result.andThen_ok, Sem.run_pure, Oper.upon_skip, hd]
 refine hK _ _ ⟨X, h, ?_⟩ (Yo.setRow hB.1 _)
 have hnewheap := setRow_heap w b cs (place cs.toList c (a.eval y).cells.toList).toArray e (0, 0) hh
 refine r.FK hob (by simp [World.setRow]) (fun k hk => setRow_other w b k _ (fun e => hk (e ▸ hub))) _ (by rw [ho]; trivial) ?_
 -- the atoms, in the new world
 have r2 : Rel T0 B (σ.Zt t 0 (.box (place cells c (unc (look P σ T y)).cells))) a (w.setRow b (place cs.toList c (a.eval y).cells.toList).toArray) X h → True := fun _ => trivial
 have hT : ∀ b' k v, Tof T0 X b' k → w.cell? ⟨b', k, none⟩ = some v → (w.setRow b (place cs.toList c (a.eval y).cells.toList).toArray).cell? ⟨b', k, none⟩ = some v ∧ Tof T0 X b' k := by
  intro b' k v hb' hcell
  refine ⟨?_, hb'⟩
  have hne : b' ≠ b := by
   rintro rfl
   rcases hb' with hb' | hb'
   ·exact hB.1 (r.hT _ _ hb')
   ·exact hB.2.1 hb'
  rw [World.cell?_of_block (setRow_other w b b' _ hne)]; exact hcell
 have hobs : ∀ u i, ¬ (u = t ∧ i = 0) → (σ.Zt t 0 (.box (place cells c (unc (look P σ T y)).cells))).ob u i = σ.ob u i := by
  intro u i hne
  rw [St.XX σ t 0 _ u i hob, if_neg hne]
 have hself : (σ.Zt t 0 (.box (place cells c (unc (look P σ T y)).cells))).ob t 0 = .box (place cells c (unc (look P σ T y)).cells) := by rw [St.XX σ t 0 _ t 0 hob]; simp
 have hcp : ∀ u i, Cpt h h σ.ob (σ.Zt t 0 (.box (place cells c (unc (look P σ T y)).cells))).ob u i := by
  intro u i
  by_cases hu : u = t ∧ i = 0
  ·obtain ⟨rfl, rfl⟩ := hu
   refine ⟨fun q size rows ho' => ?_, fun size rows ho' => ?_, fun cells' ho' => ⟨rfl, cells, ho⟩⟩
   ·rw [hself] at ho'; cases ho'
   ·rw [hself] at ho'; cases ho'
  ·exact Cpt.same rfl (hobs u i hu)
 have at_ : ∀ {x : At} {v : Value}, Z2 (Tof T0 X) h σ.ob w x v → Z2 (Tof T0 X) h (σ.Zt t 0 (.box (place cells c (unc (look P σ T y)).cells))).ob (w.setRow b (place cs.toList c (a.eval y).cells.toList).toArray) x v := fun rx => Z2.BC hT hcp rx
 refine ⟨b, _, e, hb, hnewheap, ?_⟩
 have := (hal.place c hy).imp (fun _ _ => at_)
 simpa using this
end
end Go.Vm
namespace Go.Vm
open Go.RowKit
section
variable {P : Program} {T0 : CS} {B : Nat → Prop} {σ : St} {a : Act} {w w' : World} {X X' : Nat → Prop} {h : Nat → Nat → Hd}
theorem zB {α : Type} (size c : Nat) (ds : List α) (hc : c + ds.length ≤ size) : ∀ (rows : List (List α)) (i : Nat) (row : List α), rows[i]? = some row → (∀ r ∈ rows, r.length = size) →
  (rows.set i (place row c ds)).flatten = place rows.flatten (i * size + c) ds
 | [], i, row, hr, _ => by simp at hr
 | r0 :: rows, 0, row, hr, hz => by
  simp at hr; subst hr
  have h0 : r0.length = size := hz r0 (by simp)
  simp only [List.set_cons_zero, List.flatten_cons, place, Nat.zero_mul, Nat.zero_add]
  rw [List.take_append_of_le_length (by omega), List.drop_append_of_le_length (by omega)]
  simp
 | r0 :: rows, i + 1, row, hr, hz => by
  have h0 : r0.length = size := hz r0 (by simp)
  have ih := zB size c ds hc rows i row (by simpa using hr) (fun r hr => hz r (by simp [hr]))
  rw [List.set_cons_succ, List.flatten_cons, ih, List.flatten_cons]
  unfold place
  have e1 : (i + 1) * size + c = r0.length + (i * size + c) := by rw [h0, Nat.add_mul]; omega
  have e2 : (i + 1) * size + c + ds.length = r0.length + (i * size + c + ds.length) := by rw [h0, Nat.add_mul]; omega
  rw [e2, e1, List.take_length_add_append, List.drop_length_add_append]
  simp
theorem O2 {α : Type} (l : List α) (n off : Nat) (xs : List α) (hl : off + xs.length ≤ n) (hn : n ≤ l.length) : (place l off xs).take n = place (l.take n) off xs := by
 unfold place
 rw [List.take_take, Nat.min_eq_left (by omega), List.drop_take]
 rw [List.take_append, List.take_append]
 simp only [List.length_append, List.length_take]
 rw [Nat.min_eq_left (by omega), List.take_of_length_le (l := List.take off l) (by simp; omega), List.take_of_length_le (l := xs) (by omega)]
theorem yr {α : Type} (l : List α) (o : Nat) (xs : List α) (hl : o + xs.length ≤ l.length) (k : Nat) (v : α) (hv : (place l o xs)[k]? = some v) :
  (o ≤ k ∧ k < o + xs.length ∧ xs[k - o]? = some v) ∨ (¬ (o ≤ k ∧ k < o + xs.length) ∧ l[k]? = some v) := by
 unfold place at hv
 have h1 : (l.take o).length = o := by simp; omega
 rcases Nat.lt_or_ge k o with hk | hk
 ·rw [List.append_assoc, List.getElem?_append_left (by omega), List.getElem?_take, if_pos hk] at hv
  exact .inr ⟨by omega, hv⟩
 ·rw [List.append_assoc, List.getElem?_append_right (by omega), h1] at hv
  rcases Nat.lt_or_ge (k - o) xs.length with hk2 | hk2
  ·rw [List.getElem?_append_left hk2] at hv
   exact .inl ⟨hk, by omega, hv⟩
  ·rw [List.getElem?_append_right hk2, List.getElem?_drop] at hv
   refine .inr ⟨by omega, ?_⟩
   rw [show o + xs.length + (k - o - xs.length) = k by omega] at hv; exact hv
theorem PY (r : Rel T0 B σ a w X h) {o : Oper} {T : TypeId} {x y : Operand} (hop : o.op = .store T x y) (hd : o.dst = none) (ht : Yd P T = true) (hgx : gOf (look P σ 0 x) = true) (hgy : gOf (look P σ T y) = true)
  {t j i c : Nat} (hx : unc (look P σ 0 x) = .one (.ptr t j i c)) {q : Bool} {size : Nat} {rows : List (List D)} (ho : σ.ob t j = .arr q size rows) (hi : i < rows.length) {ds : List D} (hfl : (unc (look P σ T y)).flat = true) (hds : rowOf σ (unc (look P σ T y)).cells = some ds) (hst : Qr (unc (look P σ T y)).cells = true)
  (hl : ds.length = P.cellsOf T) (hle : c + P.cellsOf T ≤ size) (hq : q = true → (∀ d ∈ ds, d.scalar = true) ∧ ∀ k d, k < P.cellsOf T → (rows.getD i [])[c + k]? = some d → d.scalar = true)
  {K : Act → World → Prop} {Q : Exit → Act → World → Prop} (hK : ∀ a' w', Qo T0 B (σ.Zt t j (.arr q size (rows.set i (place (rows.getD i []) c ds)))) a' w' → Yo B w w' → K a' w') : o.wp P a w K Q := by
 obtain ⟨_, ti, _, hti, _, _⟩ := qQ ht
 have hax := r.arg (P := P) 0 x hx hgx
 obtain ⟨b, cap, cur, e, xs, hb, he, hh, hcap, hmx, hcs, htk, hz, hxl0, hal, hown⟩ := r.arr ho hax
 have hy := qJ hfl (r.arg (P := P) T y rfl hgy)
 have hrd := r.rowOf true hds hy (fun _ => hst)
 simp only [if_true] at hrd
 have hyl := hrd.length
 have e2 : (a.eval y).cells.toList.length = (a.eval y).cells.size := Array.length_toList
 have e3 : cur.toList.length = cur.size := Array.length_toList
 have hrow : rows[i]? = some (rows.getD i []) := by simp [List.getD_eq_getElem?_getD, List.getElem?_eq_getElem hi]
 have hmul : i * size + size ≤ rows.length * size := by rw [← Nat.succ_mul]; exact Nat.mul_le_mul_right _ hi
 have hcap2 : rows.length * size ≤ cap * size := Nat.mul_le_mul_right _ hcap
 have hrun := run_store (P := P) (w := w) hti (o := i * size + c) (val := a.eval y) hh (by omega) (by omega) (fun u hu => by obtain ⟨x', _, hx'⟩ := hy.mem hu; exact Z2.Yv hx')
 have hob : σ.ob t j ≠ .none := by rw [ho]; simp
 have hblk : blk (h t j).v = some b := by rw [hb]; rfl
 have hB := r.Et hob hblk
 have hub := r.ub t j b hob hblk
 unfold Oper.wp
 simp only [execOp, hop, he, Sem.run_bind, hrun, Result.andThen_ok, Sem.run_pure, Oper.upon_skip, hd]
 refine hK _ _ ⟨X, h, ?_⟩ (Yo.setRow hB.1 _)
 refine r.FK hob (by simp [World.setRow]) (fun k hk => setRow_other w b k _ (fun e => hk (e ▸ hub))) _ (by rw [ho]; simp [Ob.F8]) ?_
 have hnewheap := setRow_heap w b cur (place cur.toList (i * size + c) (a.eval y).cells.toList).toArray e (0, 0) hh
 have hT : ∀ b' k v, Tof T0 X b' k → w.cell? ⟨b', k, none⟩ = some v → (w.setRow b (place cur.toList (i * size + c) (a.eval y).cells.toList).toArray).cell? ⟨b', k, none⟩ = some v ∧ Tof T0 X b' k := by
  intro b' k v hb' hcell
  refine ⟨?_, hb'⟩
  have hne : b' ≠ b := by
   rintro rfl
   rcases hb' with hb' | hb'
   ·exact hB.1 (r.hT _ _ hb')
   ·exact hB.2.1 hb'
  rw [World.cell?_of_block (setRow_other w b b' _ hne)]; exact hcell
 have hxl : xs.length = rows.length * size := by rw [hxl0, Z5 rows size hz]
 have hrl : (rows.getD i []).length = size := hz _ (List.mem_of_getElem? hrow)
 have hown' : (w.setRow b (place cur.toList (i * size + c) (a.eval y).cells.toList).toArray).ownsRow 0 e size (h t j).v (rows.set i (place (rows.getD i []) c ds)).length (place xs (i * size + c) (a.eval y).cells.toList) := by
  refine ⟨?_, .inr ⟨b, cap, _, by simpa using hb, Nat.zero_le _, hnewheap, by simpa using hcap, hmx, ?_, ?_⟩⟩
  ·rw [XB _ _ _ (by omega), hxl]; simp
  ·simp only [List.size_toArray]
   rw [XB _ _ _ (by omega), e3, hcs]
  ·simp only [List.length_set]
   rw [O2 _ _ _ _ (by omega) (by omega), htk]
 have hz' : ∀ r ∈ rows.set i (place (rows.getD i []) c ds), r.length = size := by
  intro r' hr'
  rcases List.mem_or_eq_of_mem_set hr' with hr' | hr'
  ·exact hz r' hr'
  ·rw [hr', XB _ _ _ (by omega), hrl]
 cases q with
 | false =>
  refine ⟨e, _, hown', hz', ?_⟩
  rw [zB size c ds (by omega) rows i _ hrow hz]
  exact ((hal rfl).imp fun _ _ => Rd.mono hT).place _ (hrd.imp fun _ _ => Rd.mono hT)
 | true =>
  obtain ⟨⟨_, Sk, h1, h2, h3⟩, hn⟩ := hown rfl
  obtain ⟨hq1, hq2⟩ := hq rfl
  -- the new cells: written ones are scalars, the others are as they were
  have hcell : ∀ k u, (place xs (i * size + c) (a.eval y).cells.toList)[k]? = some u → (i * size + c ≤ k ∧ k < i * size + c + ds.length ∧ (a.eval y).cells.toList[k - (i * size + c)]? = some u) ∨ (¬ (i * size + c ≤ k ∧ k < i * size + c + ds.length) ∧ xs[k]? = some u) := by
   intro k u hu
   exact yr xs _ _ (by omega) k u hu |>.imp (fun hh => ⟨hh.1, by omega, hh.2.2⟩) (fun hh => ⟨by rw [← hyl]; exact hh.1, hh.2⟩)
  have hdat : ∀ k d, (rows.set i (place (rows.getD i []) c ds)).flatten[k]? = some d → (i * size + c ≤ k ∧ k < i * size + c + ds.length ∧ ds[k - (i * size + c)]? = some d) ∨ (¬ (i * size + c ≤ k ∧ k < i * size + c + ds.length) ∧ rows.flatten[k]? = some d) := by
   intro k d hdd
   rw [zB size c ds (by omega) rows i _ hrow hz] at hdd
   exact yr _ _ _ (by rw [Z5 rows size hz]; omega) k d hdd
  refine ⟨e, _, hown', hz', ⟨?_, Sk, fun k u d hu hdd => ?_, h2, h3⟩, fun k u d hu hdd hsc => ?_⟩
  ·rw [XB _ _ _ (by omega), hxl0, Z5 rows size hz, Z5 _ size hz']; simp
  ·rcases hcell k u hu with ⟨p1, p2, p3⟩ | ⟨p1, p3⟩
   ·rcases hdat k d hdd with ⟨_, _, p4⟩ | ⟨p4, _⟩
    ·obtain ⟨d', hd', hr'⟩ := hrd.get _ _ p3
     rw [p4] at hd'; cases hd'
     have hs := hq1 d (List.mem_of_getElem? p4)
     cases hr' with
     | int k n => exact .int _ _ _
     | bool b => exact .bool _ _
     | str s => exact .str _ _
     | unk v h => exact .unk _ h _
     | nil => simp [D.scalar] at hs
     | sl => simp [D.scalar] at hs
    ·exact absurd ⟨p1, p2⟩ p4
   ·rcases hdat k d hdd with ⟨p4, p5, _⟩ | ⟨_, p4⟩
    ·exact absurd ⟨p4, p5⟩ p1
    ·refine (h1 k u d p3 p4).VS (fun b' hb' => setRow_other w b b' _ ?_)
     rintro rfl
     exact (h2 k b' hb').2 hblk
  ·rcases hdat k d hdd with ⟨p4, p5, p6⟩ | ⟨p4, p6⟩
   ·have := hq1 d (List.mem_of_getElem? p6)
    rw [hsc] at this; cases this
   ·rcases hcell k u hu with ⟨p1, p2, _⟩ | ⟨_, p3⟩
    ·exact absurd ⟨p1, p2⟩ p4
    ·exact hn k u d p3 p6 hsc
end
end Go.Vm
namespace Go.Vm
open Go.RowKit
section
variable {P : Program} {T0 : CS} {B : Nat → Prop} {σ : St} {a : Act} {w w' : World} {X X' : Nat → Prop} {h : Nat → Nat → Hd}
theorem SD (t ty e e0 : TypeId) (i : TypeInfo) (ht : P.underlying t = some (.slice e)) (hi : P.info? e = some i)
  (g sLen sCap : Nat) (cur : Array Value) (hg : w.heap[g]? = some (.cells cur e0 (0, 0)))
  (a : Addr) (m c : Nat) (news : List Value) (hl : news.length = m * i.size) (hnews : ∀ j u, news[j]? = some u → w.cell? (a.add j) = some u) (h1 : ∀ u ∈ news, u.oneCell' = true)
  (hroom : sLen + m ≤ sCap) (hfit : sLen * i.size + news.length ≤ cur.size) :
  (Builtin.append_ #[t, t] ty #[.slice (some ⟨g, 0, none⟩) sLen sCap, .slice (some a) m c]).run P w =
   .ok (.slice (some ⟨g, 0, none⟩) (sLen + m) sCap) (w.setRow g (cur.toList.take (sLen * i.size) ++ news ++ cur.toList.drop (sLen * i.size + news.length)).toArray) := by
 have hf := run_firstCells_some (P := P) w i.size m a m c news hl hnews
 have hst := run_storeCells_at P g (sLen * i.size) e0 news 0 cur w hg (by simpa using hfit) h1
 simp only [Nat.add_zero] at hst
 simp [Builtin.append_, run_underlying ht, sizeOf, typeInfo, hi, Builtin.lenOf, hroom, hf, Addr.add_lit, hst]
theorem yI (t ty e e0 : TypeId) (i : TypeInfo) (z : Value) (ht : P.underlying t = some (.slice e)) (hi : P.info? e = some i) (hz : i.zero = some z)
  (hzs : z.cells.size = i.size) (hsz : 0 < i.size) (v : Value) (n : Nat) (xs : List Value) (hown : w.ownsRow 0 e0 i.size v n xs)
  (a : Addr) (m c : Nat) (news : List Value) (hl : news.length = m * i.size) (hnews : ∀ j u, news[j]? = some u → w.cell? (a.add j) = some u) (h1 : ∀ u ∈ news, u.oneCell' = true)
  (h63 : n + m ≤ maxLen) (hbytes : (n + m) * i.bytes ≤ 140737488355328) :
  ∃ v' w' e1, (Builtin.append_ #[t, t] ty #[v, .slice (some a) m c]).run P w = .ok v' w' ∧ w'.ownsRow 0 e1 i.size v' (n + m) (xs ++ news) ∧ w.grownBy w' (blk v) ∧
   (∀ b, blk v' = some b → (w.heap.size ≤ b ∧ b < w'.heap.size) ∨ blk v = some b) := by
 have hlen : (xs ++ news).length = (n + m) * i.size := by rw [List.length_append, hown.1, hl, Nat.add_mul]
 rcases hown.2 with ⟨rfl, rfl⟩ | ⟨g, cap, cur, rfl, _, hg, hnc, hcm, hcs, htake⟩
 ·have hx : xs = [] := List.eq_nil_of_length_eq_zero (by simpa using hown.1)
  subst hx
  obtain ⟨v', w', hr, ho, hgr, _⟩ := run_append_own (P := P) w w.heap.size t ty e i z i.size i.bytes ht hi hz rfl rfl hzs hsz (.slice none 0 0) 0 [] (World.ownsRow_nil w _ e i.size) a m c news hl hnews h1 h63 hbytes (Nat.le_refl _)
  refine ⟨v', w', e, hr, ?_, hgr, fun b hb => .inl ?_⟩
  ·refine ⟨ho.1, ho.2.imp id ?_⟩
   rintro ⟨g, cap, cur, hv, _, rest⟩
   exact ⟨g, cap, cur, hv, Nat.zero_le _, rest⟩
  ·have hb' : v'.ownBlock = some b := by
    cases v' with
    | slice o l c => cases o with
     | none => simp [blk] at hb
     | some ad => simpa [blk, Value.ownBlock] using hb
    | pointer o => rcases ho.2 with ⟨hv, _⟩ | ⟨g, cap, cur, hv, _⟩ <;> cases hv
    | _ => simp [blk] at hb
   exact ho.lt b hb'
 ·by_cases hroom : n + m ≤ cap
  ·have hfit : n * i.size + news.length ≤ cur.size := by rw [hl, hcs, ← Nat.add_mul]; exact Nat.mul_le_mul_right _ hroom
   have hr := SD (P := P) (w := w) t ty e e0 i ht hi g n cap cur hg a m c news hl hnews h1 hroom hfit
   refine ⟨_, _, e0, hr, ⟨hlen, .inr ⟨g, cap, _, rfl, Nat.zero_le _, setRow_heap w g cur _ e0 _ hg, hroom, hcm, ?_, ?_⟩⟩, ⟨rfl, rfl, rfl, by simp [World.setRow], fun k _ hk => setRow_other w g k _ (fun e => hk (by simp [blk, e]))⟩, fun b hb => .inr (by simpa [blk] using hb)⟩
   ·simp only [List.size_toArray, List.length_append, List.length_take, List.length_drop, Array.length_toList]
    omega
   ·rw [htake, ← hlen]
    exact List.take_left
  ·have holds : ∀ j u, xs[j]? = some u → w.cell? ((⟨g, 0, none⟩ : Addr).add j) = some u := hown.cells (g := g) rfl
   have hsmall : n + m ≤ 9223372036854775807 := by simp only [maxLen] at h63; omega
   have hr := run_append_grow (P := P) w t ty e i z ht hi hz ⟨g, 0, none⟩ n cap xs hown.1 holds a m c news hl hnews (by omega) (by omega) (growslice_fits (by omega) hbytes)
   have hge := grownCap_ge w (n + m) cap e
   have hcm2 : grownCap w (n + m) cap e ≤ maxLen := grownCap_le_maxLen w (n + m) cap e h63
   refine ⟨_, _, e, hr, ⟨hlen, .inr ⟨w.heap.size, _, _, rfl, Nat.zero_le _, heap_alloc_new w.drew _, hge, hcm2, ?_, ?_⟩⟩, ⟨rfl, rfl, rfl, by simp, fun k hk _ => (World.grownBy_alloc w.drew _ none).block k hk (by simp)⟩, fun b hb => .inl ?_⟩
   ·simp only [Array.size_append, List.size_toArray, size_zeroCells, hzs, hown.1, hl, ← Nat.add_mul]
    congr 1
    omega
   ·simp only [Array.toList_append, List.append_assoc]
    rw [← List.append_assoc, ← hlen]
    exact List.take_left
   ·simp [blk] at hb; subst hb; simp
theorem J0 (t ty e : TypeId) (i : TypeInfo) (ht : P.underlying t = some (.slice e)) (hi : P.info? e = some i) (base : Option Addr) (n cap : Nat) (hnc : n ≤ cap) (hb : base = none → cap = 0) :
  (Builtin.append_ #[t, t] ty #[.slice base n cap, .slice none 0 0]).run P w = .ok (.slice base n cap) w := by
 cases base with
 | none =>
  have := hb rfl; subst this
  have : n = 0 := by omega
  subst this
  simp [Builtin.append_, run_underlying ht, sizeOf, typeInfo, hi, Builtin.lenOf, Builtin.firstCells]
 | some ad => simp [Builtin.append_, run_underlying ht, sizeOf, typeInfo, hi, Builtin.lenOf, Builtin.firstCells, hnc, storeCells]
theorem Rel.less (r : Rel T0 B σ a w X h) {σ' : St} (hl : σ'.length = σ.length) (hget : ∀ t, σ'.get t = σ.get t) (hk : ∀ t j, σ'.ob t j ≠ .none → σ'.ob t j = σ.ob t j) : Rel T0 B σ' a w X h := by
 have back : ∀ t j o, σ'.ob t j = o → o ≠ .none → σ.ob t j = o := by
  intro t j o ho hne
  rw [← hk t j (by rw [ho]; exact hne)]; exact ho
 have at_ : ∀ {x : At} {v : Value}, (fun _ : At => false) x = false → Z2 (Tof T0 X) h σ.ob w x v → Z2 (Tof T0 X) h σ'.ob w x v := by
  intro x v _ rx
  cases x with
  | any => exact rx
  | d x => exact rx
  | nil s => exact rx
  | sref u i lo len => exact ⟨rx.1, fun q size rows ho => rx.2.1 q size rows (back u i _ ho (by simp)), fun size rows ho => rx.2.2 size rows (back u i _ ho (by simp))⟩
  | ptr u i k c => exact ⟨rx.1, fun q size rows ho => rx.2 q size rows (back u i _ ho (by simp))⟩
  | bptr u c => exact ⟨rx.1, fun cells ho => rx.2 cells (back u 0 _ ho (by simp))⟩
  | fn f u => exact ⟨rx.1, fun cells ho => rx.2 cells (back u 0 _ ho (by simp))⟩
  | tref u i k c o => exact ⟨rx.1, fun size rows ho => rx.2 size rows (back u i _ ho (by simp))⟩
  | rptr rr c => exact rx
 have hne_ : ∀ u i, σ'.ob u i ≠ .none → σ.ob u i ≠ .none := fun u i hn => by rw [← hk u i hn]; exact hn
 refine ⟨by rw [r.size, hl], r.defers, r.hB, r.hX, r.hT, fun u hu => ?_, fun u i => ?_, fun u i b hn => r.ub u i b (hne_ u i hn), fun u i b hn => r.own u i b (hne_ u i hn), fun u i u' i' b hn hn' => r.inj u i u' i' b (hne_ u i hn) (hne_ u' i' hn')⟩
 ·rw [hget u]; exact XZ.map at_ (zT _) (r.slot u (by omega))
 ·by_cases hn : σ'.ob u i = .none
  ·rw [hn]; trivial
  ·rw [hk u i hn]
   exact Q5.map at_ (fun b k v hb hc => ⟨hc, hb⟩) (fun ho b => r.ub u i b ho) (fun _ _ _ => rfl) (kV _) (r.obj u i)
theorem St.Vs (σ : St) (t j u i : Nat) : (σ.Zt t j .none).ob u i = if u = t ∧ i = j then .none else σ.ob u i := by
 by_cases hob : σ.ob t j = .none
 ·have key : ∀ (σ : St) (t u : Nat), σ.ob t j = .none → (σ.Zt t j .none).ob u i = σ.ob u i := by
   intro σ
   induction σ with
   | nil => intro t u _; simp [St.Zt]
   | cons e σ ih =>
    intro t u ho
    cases t with
    | zero => cases u with
     | zero =>
      simp only [St.Zt, St.ob, List.getElem?_cons_zero, HX] at ho ⊢
      split
      ·rename_i hh; rw [hh.1, ho]
      ·rfl
     | succ u => simp [St.Zt, St.ob]
    | succ t => cases u with
     | zero => simp [St.Zt, St.ob]
     | succ u =>
      have := ih t u (by simpa [St.ob] using ho)
      simp only [St.ob, St.Zt] at this ⊢; simpa using this
  rw [key σ t u hob]
  split
  ·rename_i hh; rw [hh.1, hh.2]; exact hob
  ·rfl
 ·exact St.XX σ t j _ u i hob
theorem Rel.drop (r : Rel T0 B σ a w X h) (t j : Nat) : Rel T0 B (σ.Zt t j .none) a w X h := by
 refine r.less (St.XA _ _ _ _) (fun u => St.XJ _ _ _ _ u) (fun u i hn => ?_)
 rw [St.Vs] at hn ⊢
 split
 ·rename_i hh; rw [if_pos hh] at hn; exact absurd rfl hn
 ·rfl
def St.Zn : St → List (Nat × Nat) → St
 | σ, [] => σ
 | σ, p :: l => St.Zn (σ.Zt p.1 p.2 .none) l
theorem St.KR : ∀ (l : List (Nat × Nat)) (σ : St), (σ.Zn l).length = σ.length
 | [], σ => rfl
 | p :: l, σ => by rw [St.Zn, St.KR l, St.XA]
theorem St.xI : ∀ (l : List (Nat × Nat)) (σ : St) (t : Nat), (σ.Zn l).get t = σ.get t
 | [], σ, t => rfl
 | p :: l, σ, t => by rw [St.Zn, St.xI l, St.XJ]
theorem St.JR : ∀ (l : List (Nat × Nat)) (σ : St) (t j : Nat), (σ.Zn l).ob t j = if (t, j) ∈ l then .none else σ.ob t j
 | [], σ, t, j => by simp [St.Zn]
 | p :: l, σ, t, j => by
  rw [St.Zn, St.JR l, St.Vs]
  by_cases h1 : (t, j) ∈ l
  ·simp [h1]
  ·by_cases h2 : t = p.1 ∧ j = p.2
   ·have : (t, j) = p := by rw [h2.1, h2.2]
    rw [if_neg h1, if_pos h2, if_pos (by rw [this]; simp)]
   ·have : ¬ (t, j) = p := fun e => h2 (by rw [← e]; exact ⟨rfl, rfl⟩)
    simp [h1, h2, this]
theorem Rel.Zn (r : Rel T0 B σ a w X h) (l : List (Nat × Nat)) : Rel T0 B (σ.Zn l) a w X h := by
 refine r.less (St.KR l σ) (St.xI l σ) (fun u i hn => ?_)
 rw [St.JR] at hn ⊢
 split
 ·rename_i hh; rw [if_pos hh] at hn; exact absurd rfl hn
 ·rfl
end
end Go.Vm
namespace Go.Vm
open Go.RowKit
section
variable {P : Program} {T0 : CS} {B : Nat → Prop} {σ : St} {a : Act} {w w' : World} {X X' : Nat → Prop} {h : Nat → Nat → Hd}
theorem KT {T : TypeId} (hz : Zl P T = true) : ∃ i z row, P.info? T = some i ∧ i.zero = some z ∧ Yb P 12 T = some row ∧ i.size = row.length ∧ z.cells.size = i.size ∧ i.size = P.cellsOf T ∧ (∀ T' h ob w, Zp (Z2 T' h ob w) row z.cells.toList) := by
 have hzr : ∃ row, Yb P 12 T = some row := by
  unfold Zl at hz
  split at hz
  ·rename_i row i hr hi; exact ⟨row, hr⟩
  ·cases hz
 obtain ⟨row, hr⟩ := hzr
 obtain ⟨i, z, hi, hzz, hsz, hal⟩ := PM hz hr
 refine ⟨i, z, row, hi, hzz, hr, hsz, ?_, by simp [Program.cellsOf, hi], hal⟩
 have := (hal (fun _ _ => True) (fun _ _ => Hd.of undef) (fun _ _ => .none) default).length
 have e1 : z.cells.toList.length = z.cells.size := Array.length_toList
 omega
def Kr (σ : St) (x : V) (size : Nat) (news : List (List D)) : Prop :=
 match x with
 | .one (.d (.sl s rows)) => s = size ∧ news = rows
 | .one (.nil _) => news = []
 | .one (.sref t j lo len) => ∃ rows, σ.ob t j = .arr false size rows ∧ lo + len ≤ rows.length ∧ news = cut rows lo len
 | _ => False
def kc (σ : St) (x : V) (size : Nat) (olds : List (List D)) (σ1 : St) : Prop :=
 match x with
 | .one (.nil _) => olds = [] ∧ σ1 = σ
 | .one (.sref t j lo len) => ∃ rows, σ.ob t j = .arr false size rows ∧ lo = 0 ∧ len ≤ rows.length ∧ olds = rows.take len ∧ σ1 = σ.Zt t j .none
 | _ => False
theorem Mm (v : Value) (n : Nat) : blk (M0 v n) = blk v := by
 cases v with
 | slice o _ _ => cases o <;> rfl
 | _ => rfl
theorem Km (rows : List (List D)) (size : Nat) (hz : ∀ r ∈ rows, r.length = size) (len : Nat) (hle : len ≤ rows.length) : (rows.take len).flatten = rows.flatten.take (len * size) := by
 induction rows generalizing len with
 | nil => simp
 | cons r rows ih =>
  cases len with
  | zero => simp
  | succ len =>
   have h1 := hz r (by simp)
   have h2 := ih (fun q hq => hz q (by simp [hq])) len (by simpa using hle)
   have h3 : (len + 1) * size = r.length + len * size := by rw [Nat.add_mul, h1]; omega
   rw [List.take_succ_cons, List.flatten_cons, List.flatten_cons, h2, h3, List.take_length_add_append]
theorem Ux {e : TypeId} {size : Nat} {v : Value} {n len : Nat} {xs : List Value} (ho : w.ownsRow 0 e size v n xs) (hle : len ≤ n) : w.ownsRow 0 e size (M0 v len) len (xs.take (len * size)) := by
 have hm : len * size ≤ n * size := Nat.mul_le_mul_right _ hle
 refine ⟨by rw [List.length_take, ho.1]; omega, ?_⟩
 rcases ho.2 with ⟨rfl, rfl⟩ | ⟨g, cap, cur, rfl, hx, hg, hnc, hcm, hcs, htk⟩
 ·have : len = 0 := by omega
  subst this
  exact .inl ⟨rfl, rfl⟩
 ·refine .inr ⟨g, cap, cur, rfl, hx, hg, by omega, hcm, hcs, ?_⟩
  rw [← htk, List.take_take]
  congr 1
  omega
theorem MP (r : Rel T0 B σ a w X h) {x : V} {v : Value} {size : Nat} {news : List (List D)} (hs : Kr σ x size news) (hv : XZ (Tof T0 X) h σ.ob w x v) :
  (∀ n ∈ news, n.length = size) ∧ ((v = .slice none 0 0 ∧ news = []) ∨ ∃ ad c xs, v = .slice (some ad) news.length c ∧ (∀ j u, xs[j]? = some u → w.cell? (ad.add j) = some u) ∧ Zp (Rd (Tof T0 X) w) xs news.flatten) := by
 unfold Kr at hs
 split at hs
 ·rename_i s rows
  obtain ⟨rfl, rfl⟩ := hs
  refine ⟨Ny (show Rd _ _ _ _ from hv), ?_⟩
  cases (show Rd _ _ _ _ from hv) with
  | nil => exact .inl ⟨rfl, rfl⟩
  | sl ad len cap s rows g hl hc hm hz hsp hg hr =>
   refine .inr ⟨ad, cap, (List.range news.flatten.length).map g, by rw [hl], fun j u hu => ?_, ?_⟩
   ·rw [List.getElem?_map] at hu
    rcases Nat.lt_or_ge j news.flatten.length with hj | hj
    ·rw [List.getElem?_range hj] at hu
     cases hu
     have hne : news.flatten ≠ [] := by intro he; rw [he] at hj; simp at hj
     have := (hg j _ (List.getElem?_eq_getElem hj)).1
     obtain ⟨b, off, sp⟩ := ad
     have := hsp hne
     simp at this; subst this
     rw [KS]; assumption
    ·rw [List.getElem?_eq_none (by simpa using hj)] at hu; cases hu
   ·refine Zp.yG (by simp) (fun k u d hu hd => ?_)
    rw [List.getElem?_map] at hu
    have hk := (List.getElem?_eq_some_iff.1 hd).1
    rw [List.getElem?_range hk] at hu
    cases hu
    exact hr k d hd
 ·subst hs
  exact ⟨(by intro n hn; cases hn), .inl ⟨hv, rfl⟩⟩
 ·rename_i t j lo len
  obtain ⟨rows, ho, hle, rfl⟩ := hs
  have h0 := r.obj t j
  rw [ho] at h0
  obtain ⟨e, xs, ⟨hl, hown⟩, hz, hal⟩ := h0
  refine ⟨fun x hx => hz x (List.mem_of_mem_drop (List.mem_of_mem_take hx)), ?_⟩
  have hv' : Z2 (Tof T0 X) h σ.ob w (.sref t j lo len) v := hv
  obtain ⟨_, _, _, base, cap, rfl, hcap, _, hnn, hb⟩ := hv'.2.1 _ size rows ho
  have hcl : (cut rows lo len).length = len := YT _ _ _ hle
  by_cases hpos : 0 < len
  ·obtain ⟨b, cap0, hh, rfl⟩ := hb hpos
   rcases hown with ⟨hn, _⟩ | ⟨g, cap', cur, hv', _, hgg, hnc, hmx, hcs, htk⟩
   ·rw [hh] at hn; cases hn
   ·rw [hh] at hv'; cases hv'
    refine .inr ⟨_, cap, cut xs (lo * size) (len * size), by rw [hcl], fun j u hu => ?_, ?_⟩
    ·have h1 := J2 _ _ _ _ _ hu
     rw [KS]
     refine Jh hgg _ _ ?_
     rw [← htk, List.getElem?_take] at h1
     split at h1
     ·exact h1
     ·cases h1
    ·have hxl : xs.length = rows.length * size := by rw [hal.length, Z5 rows size hz]
     have hmul : lo * size + len * size ≤ rows.length * size := by rw [← Nat.add_mul]; exact Nat.mul_le_mul_right _ hle
     refine Zp.yG ?_ (fun k u d hu hd => ?_)
     ·rw [YT _ _ _ (by omega), Z5 (cut rows lo len) size (fun x hx => hz x (List.mem_of_mem_drop (List.mem_of_mem_take hx))), hcl]
     ·have h1 := J2 _ _ _ _ _ hu
      have h2 := zl rows size lo len hz k d hd
      obtain ⟨d', hd', hr⟩ := hal.get _ _ h1
      rw [h2] at hd'; cases hd'
      exact hr
  ·have : len = 0 := by omega
   subst this
   have hnil : cut rows lo 0 = [] := by simp [cut]
   rw [hnil]
   cases base with
   | none => have := hnn rfl; subst this; exact .inl ⟨rfl, rfl⟩
   | some ad => exact .inr ⟨ad, cap, [], rfl, by simp, .nil⟩
 ·exact hs.elim
theorem Le (r : Rel T0 B σ a w X h) {o : Oper} {t : TypeId} {x y : Operand} {d : Nat} {olds news : List (List D)} {σ1 : St} (hop : o.op = .call ⟨.builtin .append, #[x, y], #[t, t]⟩) (hd : o.dst = some d)
  (hgx : gOf (look P σ t x) = true) (hgy : gOf (look P σ t y) = true) (ht : Z9 P t = true) (hz : Zl P (ZK P t) = true) (hpos : 0 < P.cellsOf (ZK P t))
  (hdst : kc σ (unc (look P σ t x)) (P.cellsOf (ZK P t)) olds σ1) (hsrc : Kr σ (unc (look P σ t y)) (P.cellsOf (ZK P t)) news) (hfr : σ1.fresh d = true)
  (hbytes : (olds.length + news.length) * P.bytesOf (ZK P t) ≤ 140737488355328) (hmax : olds.length + news.length ≤ 9223372036854775807)
  {K : Act → World → Prop} {Q : Exit → Act → World → Prop} (hK : ∀ a' w', Qo T0 B (σ1.new d (.one (.sref d 0 0 (olds.length + news.length))) [.arr false (P.cellsOf (ZK P t)) (olds ++ news)]) a' w' → Yo B w w' → K a' w') : o.wp P a w K Q := by
 obtain ⟨ti, hu, hi, hisz⟩ := Y1 ht
 obtain ⟨i, z, row, hi', hzz, hzr, hsz1, hzs, hsz2, hzal⟩ := KT hz
 rw [hi] at hi'; cases hi'
 have hby : P.bytesOf (ZK P t) = ti.bytes := by simp [Program.bytesOf, hi]
 rw [hby] at hbytes
 rw [← hsz2] at hdst hsrc hpos hK
 have hvx := r.arg (P := P) t x rfl hgx
 have hvy := r.arg (P := P) t y rfl hgy
 obtain ⟨hnz, hsc⟩ := MP r hsrc hvy
 -- the destination: its header, its cells
 have hdx : ∃ e0 xs, w.ownsRow 0 e0 ti.size (a.eval x) olds.length xs ∧ (∀ q ∈ olds, q.length = ti.size) ∧ Zp (Rd (Tof T0 X) w) xs olds.flatten ∧ Rel T0 B σ1 a w X h ∧
   (∀ b, blk (a.eval x) = some b → ¬ B b ∧ ¬ X b ∧ b < w.heap.size ∧ ∀ u j, σ1.ob u j ≠ .none → ¬ (h u j).u b) := by
  unfold kc at hdst
  split at hdst
  ·rename_i s heq
   obtain ⟨rfl, rfl⟩ := hdst
   rw [heq] at hvx
   have he : a.eval x = .slice none 0 0 := hvx
   rw [he]
   exact ⟨0, [], World.ownsRow_nil w 0 0 _, (by intro q hq; cases hq), .nil, r, (fun b hb => by cases hb)⟩
  ·rename_i u j lo len heq
   obtain ⟨rows, ho, rfl, hle, rfl, rfl⟩ := hdst
   rw [heq] at hvx
   have hvx' : Z2 (Tof T0 X) h σ.ob w (.sref u j 0 len) (a.eval x) := hvx
   obtain ⟨_, _, hpre, _⟩ := hvx'.2.1 _ _ _ ho
   have he : a.eval x = M0 (h u j).v len := hpre rfl
   have h0 := r.obj u j
   rw [ho] at h0
   obtain ⟨e, xs, hown, hzz', hal⟩ := h0
   have hob : σ.ob u j ≠ .none := by rw [ho]; simp
   have htl : (rows.take len).length = len := by rw [List.length_take]; omega
   have hfl : (rows.take len).flatten = rows.flatten.take (len * ti.size) := Km rows ti.size hzz' len hle
   refine ⟨e, xs.take (len * ti.size), by rw [he, htl]; exact Ux hown hle, fun q hq => hzz' q (List.mem_of_mem_take hq), by rw [hfl]; exact hal.take _, r.drop u j, fun b hb => ?_⟩
   rw [he, Mm] at hb
   have hbu := r.ub u j b hob hb
   have hown' := r.own u j b hob hbu
   refine ⟨hown'.1, hown'.2.1, hown'.2.2, fun u' j' hne hb' => ?_⟩
   have hob' : σ.ob u' j' ≠ .none := by
    intro hh
    rw [St.XX σ u j _ u' j' hob] at hne
    split at hne
    ·exact hne rfl
    ·exact hne hh
   have := r.inj u j u' j' b hob hob' hbu hb'
   obtain ⟨rfl, rfl⟩ := this
   rw [St.XX σ u j _ u j hob] at hne
   simp at hne
  ·exact hdst.elim
 obtain ⟨e0, xs, hown, hoz, hoal, r1, hblk⟩ := hdx
 have hflr : ∀ q ∈ olds ++ news, q.length = ti.size := by
  intro q hq
  rcases List.mem_append.1 hq with hq | hq
  ·exact hoz q hq
  ·exact hnz q hq
 -- what comes out, in either case
 have key : ∀ (v' : Value) (w' : World) (e1 : TypeId) (ys : List Value), (Builtin.append_ #[t, t] o.type #[a.eval x, a.eval y]).run P w = .ok v' w' → w'.ownsRow 0 e1 ti.size v' (olds.length + news.length) (xs ++ ys) →
   Zp (Rd (Tof T0 X) w) ys news.flatten → w.grownBy w' (blk (a.eval x)) → (∀ b, blk v' = some b → (w.heap.size ≤ b ∧ b < w'.heap.size) ∨ blk (a.eval x) = some b) → o.wp P a w K Q := by
  intro v' w' e1 ys hrun ho' hyal hgr hbv
  have hlt := St.J5 hfr
  have hT : ∀ b k v, Tof T0 X b k → w.cell? ⟨b, k, none⟩ = some v → w'.cell? ⟨b, k, none⟩ = some v ∧ Tof T0 X b k := by
   intro b k v hb hcell
   refine ⟨?_, hb⟩
   have hne : some b ≠ blk (a.eval x) := by
    intro e
    have h1 := hblk b e.symm
    rcases hb with hb | hb
    ·exact h1.1 (r.hT b k hb)
    ·exact h1.2.1 hb
   rw [World.cell?_of_block (hgr.block b (r.Tlt hb) hne)]; exact hcell
  unfold Oper.wp
  have hexec : (execOp a.eval o).run P w = .ok (.value v') w' := by
   simp only [execOp, hop, resolve, invoke, builtin, Sem.run_bind, Sem.run_pure, Result.andThen_ok, List.map_toArray, List.map_cons, List.map_nil, hrun]
  rw [hexec, Oper.upon_value, hd]
  refine hK _ _ ⟨X, fun u j => if u = d then Hd.of v' else h u j, ?_⟩ ⟨hgr.os, hgr.tape, hgr.output, hgr.size, fun k hk => hgr.block k (r.hB k hk) (fun e => (hblk k e.symm).1 hk)⟩
  have hob0 : (σ1.new d (.one (.sref d 0 0 (olds.length + news.length))) [.arr false ti.size (olds ++ news)]).ob d 0 = .arr false ti.size (olds ++ news) := by rw [St.Qg]; simp [hlt, YD]
  have hown2 : w'.ownsRow 0 e1 ti.size v' (olds ++ news).length (xs ++ ys) := by rw [List.length_append]; exact ho'
  have hal2 : Zp (Rd (Tof T0 X) w') (xs ++ ys) (olds ++ news).flatten := by
   rw [List.flatten_append]
   exact (hoal.imp fun _ _ => Rd.mono hT).append (hyal.imp fun _ _ => Rd.mono hT)
  refine r1.DC hfr (fun b => blk (a.eval x) = some b) hgr.size (fun k hk hne => hgr.block k hk (fun e => hne e.symm)) (fun b hb => ⟨(hblk b hb).1, (hblk b hb).2.1, fun u j _ hne => (hblk b hb).2.2.2 u j hne⟩) (fun _ hb => hb) (fun _ hb => .inl hb) _ _ [.arr false ti.size (olds ++ news)] (fun _ => Hd.of v') ?_ (fun j => ?_) (fun j b _ hb => hb) (fun j b hne hb' => ?_) (fun j j' b hne hne' _ _ => ?_)
  ·refine ⟨QQ ho', fun q' size' rows' hh => ?_, fun size' rows' hh => by rw [hob0] at hh; cases hh⟩
   rw [hob0] at hh; cases hh
   simp only [if_true, List.length_append]
   have := ql hown2
   rwa [List.length_append] at this
  ·cases j with
   | zero => exact ⟨e1, xs ++ ys, hown2, hflr, hal2⟩
   | succ j => simp [YD, Q5]
  ·rcases hbv b hb' with h1 | h1
   ·exact ⟨.inl h1.1, fun hx => by have := (r.hX b hx).2; omega, h1.2⟩
   ·have h2 := hblk b h1
    exact ⟨.inr h1, h2.2.1, by have := hgr.size; omega⟩
  ·have : ∀ j, YD [Ob.arr false ti.size (olds ++ news)] j ≠ .none → j = 0 := by
    intro j hj
    cases j with
    | zero => rfl
    | succ j => simp [YD] at hj
   rw [this j hne, this j' hne']
 rcases hsc with ⟨hey, rfl⟩ | ⟨ad, c, ys, hey, hcell, hyal⟩
 ·have hform : ∃ base cap, a.eval x = .slice base olds.length cap ∧ olds.length ≤ cap ∧ (base = none → cap = 0) := by
   rcases hown.2 with ⟨h1, h2⟩ | ⟨g, cap, cur, h1, _, _, hnc, _⟩
   ·exact ⟨none, 0, by rw [h1, h2], by omega, fun _ => rfl⟩
   ·exact ⟨_, cap, h1, hnc, (fun hh => by cases hh)⟩
  obtain ⟨base, cap, hex, hnc, hb0⟩ := hform
  refine key (a.eval x) w e0 [] ?_ (by simpa using hown) .nil ⟨rfl, rfl, rfl, Nat.le_refl _, fun _ _ _ => rfl⟩ (fun b hb => .inr hb)
  rw [hex, hey]
  exact J0 t o.type _ ti hu hi base olds.length cap hnc hb0
 ·have hyl : ys.length = news.length * ti.size := by rw [hyal.length, Z5 news ti.size hnz]
  obtain ⟨v', w', e1, hrun, ho', hgr, hbv⟩ := yI (P := P) (w := w) t o.type _ e0 ti z hu hi hzz hzs (by omega) (a.eval x) olds.length xs hown ad news.length c ys hyl hcell
   (fun u hu' => by
    obtain ⟨k, hk⟩ := List.mem_iff_getElem?.1 hu'
    obtain ⟨d', _, hr'⟩ := hyal.get k u hk
    exact Rd.Yv hr') (by simp only [maxLen]; omega) hbytes
  refine key v' w' e1 ys ?_ ho' hyal hgr hbv
  rw [hey]; exact hrun
end
end Go.Vm
namespace Go.Vm
open Go.RowKit
section
variable {P : Program} {T0 : CS} {B : Nat → Prop} {σ : St} {a : Act} {w w' : World} {X X' : Nat → Prop} {h : Nat → Nat → Hd}
def P5 (P : Program) (σ : St) (T : TypeId) (size : Nat) : List (Nat × Operand) → Nat → List (List D) → Prop
 | [], _, rs => rs = []
 | (i, x) :: ps, k, rs => i = k ∧ gOf (look P σ T x) = true ∧ (unc (look P σ T x)).flat = true ∧ Qr (unc (look P σ T x)).cells = true ∧
   ∃ r rest, rowOf σ (unc (look P σ T x)).cells = some r ∧ r.length = size ∧ P5 P σ T size ps (k + 1) rest ∧ rs = r :: rest
theorem SR {α : Type} (l : List α) (o : Nat) (xs ys : List α) (hl : o + (xs ++ ys).length ≤ l.length) : place (place l o xs) (o + xs.length) ys = place l o (xs ++ ys) := by
 simp only [List.length_append] at hl
 unfold place
 have h1 : (l.take o ++ xs).length = o + xs.length := by simp; omega
 have h2 : (l.take o ++ xs ++ l.drop (o + xs.length)).take (o + xs.length) = l.take o ++ xs := by
  rw [List.take_append_of_le_length (by omega), List.take_of_length_le (by omega)]
 have h3 : (l.take o ++ xs ++ l.drop (o + xs.length)).drop (o + xs.length + ys.length) = l.drop (o + (xs ++ ys).length) := by
  rw [show o + xs.length + ys.length = (l.take o ++ xs).length + ys.length by omega, List.drop_length_add_append, List.drop_drop]
  congr 1; simp; omega
 rw [h2, h3]; simp
theorem ML (r : Rel T0 B σ a w X h) (T : TypeId) (size : Nat) : ∀ (ps : List (Nat × Operand)) (k : Nat) (rs : List (List D)) (cells : Array Value), P5 P σ T size ps k rs → (k + ps.length) * size ≤ cells.size →
   ∃ cells' ys, Instr.fill (fun i => some (i * size, size)) cells (ps.map fun x => (x.1, a.eval x.2)) = some cells' ∧ cells'.toList = place cells.toList (k * size) ys ∧ Zp (Rd (Tof T0 X) w) ys rs.flatten ∧ (∀ q ∈ rs, q.length = size) ∧ rs.length = ps.length
 | [], k, rs, cells, hb, _ => by cases hb; exact ⟨cells, [], rfl, by simp [place], .nil, (by intro q hq; cases hq), rfl⟩
 | (i, x) :: ps, k, rs, cells, hb, hl => by
  obtain ⟨rfl, hg, hf, hst, r0, rest, hr0, hlen, hb, rfl⟩ := hb
  have hx := qJ hf (r.arg (P := P) T x rfl hg)
  have hrd := r.rowOf true hr0 hx (fun _ => hst)
  simp only [if_true] at hrd
  have hl2 := hrd.length
  have e1 : cells.toList.length = cells.size := Array.length_toList
  have e2 : (a.eval x).cells.toList.length = (a.eval x).cells.size := Array.length_toList
  have hmul : (i + (ps.length + 1)) * size = i * size + size + ps.length * size := by rw [Nat.add_mul, Nat.add_mul]; omega
  simp only [List.length_cons] at hl
  have heq := kS (i * size) (a.eval x).cells cells (by omega)
  have hsz1 : ((a.eval x).cells.zipIdx.foldl (fun cs x => cs.setIfInBounds (i * size + x.2) x.1) cells).size = cells.size := by
   rw [← Array.length_toList, heq, XB _ _ _ (by omega), e1]
  have hmul2 : (i + 1 + ps.length) * size = i * size + size + ps.length * size := by rw [Nat.add_mul, Nat.add_mul]; omega
  obtain ⟨cells', ys, h1, h2, h3, h4, h5⟩ := ML r T size ps (i + 1) rest _ hb (by rw [hsz1]; omega)
  have hyl : ys.length = ps.length * size := by rw [h3.length, Z5 rest size h4, h5]
  refine ⟨cells', (a.eval x).cells.toList ++ ys, ?_, ?_, ?_, ?_, by simp [h5]⟩
  ·simp only [List.map_cons, Instr.fill]
   rw [if_neg (by simp; omega)]
   exact h1
  ·rw [h2, heq]
   rw [show (i + 1) * size = i * size + (a.eval x).cells.toList.length by rw [Nat.add_mul]; omega]
   exact SR _ _ _ _ (by simp; omega)
  ·rw [List.flatten_cons]; exact hrd.append h3
  ·intro q hq
   rcases List.mem_cons.1 hq with rfl | hq
   ·exact hlen
   ·exact h4 q hq
theorem Ti (r : Rel T0 B σ a w X h) {o : Oper} {T : TypeId} {n : Nat} {parts : Array (Nat × Operand)} {d : Nat} {rows : List (List D)} (hop : o.op = .buildSlice T n parts) (hd : o.dst = some d) (hfr : σ.fresh d = true)
  (ht : Z9 P T = true) (hz : Zl P (ZK P T) = true) (hpos : 0 < P.cellsOf (ZK P T)) (hn : parts.toList.length = n) (hsm : n * P.cellsOf (ZK P T) ≤ 16777216) (hb : P5 P σ (ZK P T) (P.cellsOf (ZK P T)) parts.toList 0 rows)
  {K : Act → World → Prop} {Q : Exit → Act → World → Prop} (hK : ∀ a' w', Qo T0 B (σ.new d (.one (.sref d 0 0 rows.length)) [.arr false (P.cellsOf (ZK P T)) rows]) a' w' → Yo B w w' → K a' w') : o.wp P a w K Q := by
 obtain ⟨ti, hu, hi, hisz⟩ := Y1 ht
 obtain ⟨i, z, row, hi', hzz, hzr, hsz1, hzs, hsz2, hzal⟩ := KT hz
 rw [hi] at hi'; cases hi'
 have hzrun : (zeroValue (ZK P T)).run P w = .ok z w := by simp [zeroValue, typeInfo, hi, hzz]
 -- the cells before they are filled
 obtain ⟨zero, hzero⟩ : ∃ zero : Array Value, (n * P.cellsOf (ZK P T) = 0 → zero = #[]) ∧ (¬ n * P.cellsOf (ZK P T) = 0 → zero = z.cells) := by
  by_cases h0 : n * P.cellsOf (ZK P T) = 0
  ·exact ⟨#[], fun _ => rfl, fun hh => absurd h0 hh⟩
  ·exact ⟨z.cells, fun hh => absurd hh h0, fun _ => rfl⟩
 obtain ⟨cells', ys, h1, h2, h3, h4, h5⟩ := ML r (ZK P T) (P.cellsOf (ZK P T)) parts.toList 0 rows ((Array.range (n * P.cellsOf (ZK P T))).map (zero[· % zero.size]!)) hb (by simp [hn])
 have hyl : ys.length = n * P.cellsOf (ZK P T) := by rw [h3.length, Z5 rows _ h4, h5, hn]
 have hcl : cells'.toList = ys := by
  rw [h2]
  unfold place
  simp [hyl]
 have hmap : (parts.map fun (x : Nat × Operand) => (x.1, a.eval x.2)).toList = parts.toList.map fun x => (x.1, a.eval x.2) := by simp
 have hrun : (execOp a.eval o).run P w = .ok (.value (.slice (some ⟨w.heap.size, 0, none⟩) n n)) (w.alloc (.cells cells' (ZK P T))) := by
  have hnot : ¬ (n * P.cellsOf (ZK P T) > 2 ^ 24) := by omega
  by_cases h0 : n * P.cellsOf (ZK P T) = 0
  ·have hz0 := hzero.1 h0
   subst hz0
   simp only [execOp, hop, Instr.buildSlice, Sem.run_bind, run_underlying hu, Result.andThen_ok, Qi hi, if_neg hnot, if_pos h0, hmap, h1, newRow, Sem.run_pure, run_newObj_alloc]
  ·have hz0 := hzero.2 h0
   subst hz0
   simp only [execOp, hop, Instr.buildSlice, Sem.run_bind, run_underlying hu, Result.andThen_ok, Qi hi, if_neg hnot, if_neg h0, hzrun, hmap, h1, newRow, Sem.run_pure, run_newObj_alloc]
 unfold Oper.wp
 rw [hrun, Oper.upon_value, hd]
 have hlen : rows.length = n := by rw [h5, hn]
 have hT : ∀ b k v, Tof T0 X b k → w.cell? ⟨b, k, none⟩ = some v → (w.alloc (.cells cells' (ZK P T))).cell? ⟨b, k, none⟩ = some v ∧ Tof T0 X b k := by
  intro b k v hb hcell
  refine ⟨?_, hb⟩
  rw [World.cell?_of_block ((World.grownBy_alloc w (.cells cells' (ZK P T)) none).block b (r.Tlt hb) (by simp))]; exact hcell
 have hsz' : cells'.size = n * P.cellsOf (ZK P T) := by rw [← Array.length_toList, hcl, hyl]
 have hmx : n ≤ maxLen := by
  have : n ≤ n * P.cellsOf (ZK P T) := Nat.le_mul_of_pos_right _ hpos
  simp only [maxLen]; omega
 have := r.DG hfr (World.grownBy_alloc w (.cells cells' (ZK P T)) none) (.slice (some ⟨w.heap.size, 0, none⟩) n n) (size := P.cellsOf (ZK P T)) (rows := rows)
  ⟨ZK P T, ys, ⟨by rw [hyl, hlen], .inr ⟨w.heap.size, n, cells', by rw [hlen], Nat.zero_le _, heap_alloc_new w _, by omega, hmx, hsz', by rw [hcl, hlen, List.take_of_length_le (by omega)]⟩⟩, h4, h3.imp fun _ _ => Rd.mono hT⟩
  (fun b hb => by simp [blk] at hb; subst hb; exact ⟨Nat.le_refl _, by simp⟩)
 exact hK _ _ this.1 this.2
def zD : List At → Option (List D)
 | [] => some []
 | .d x :: xs => (zD xs).map (x :: ·)
 | .nil s :: xs => (zD xs).map (.sl s [] :: ·)
 | _ => none
theorem M7 {T : CS} {ob : Nat → Nat → Ob} : ∀ {xs : List At} {ds : List D} {vs : List Value}, zD xs = some ds → Zp (Z2 T h ob w) xs vs → Zp (Rd T w) vs ds
 | [], ds, vs, hz, hal => by cases hal; simp [zD] at hz; subst hz; exact .nil
 | x :: xs, ds, vs, hz, hal => by
  cases hal with
  | cons hx hal =>
   cases x with
   | d x =>
    simp only [zD, Option.map_eq_some_iff] at hz
    obtain ⟨ds', hz', rfl⟩ := hz
    exact .cons hx (M7 hz' hal)
   | nil s =>
    simp only [zD, Option.map_eq_some_iff] at hz
    obtain ⟨ds', hz', rfl⟩ := hz
    cases hx
    exact .cons (.nil _) (M7 hz' hal)
   | any => simp [zD] at hz
   | sref => simp [zD] at hz
   | ptr => simp [zD] at hz
   | bptr => simp [zD] at hz
   | fn => simp [zD] at hz
   | rptr => simp [zD] at hz
   | tref => simp [zD] at hz
theorem yb {α : Type} (z : List α) (n k : Nat) (hk : k < n * z.length) : (List.replicate n z).flatten[k]? = z[k % z.length]? := by
 induction n generalizing k with
 | zero => simp at hk
 | succ n ih =>
  rw [List.replicate_succ, List.flatten_cons]
  rcases Nat.lt_or_ge k z.length with hlt | hge
  ·rw [List.getElem?_append_left hlt, Nat.mod_eq_of_lt hlt]
  ·rw [List.getElem?_append_right hge, ih (k - z.length) (by rw [Nat.add_mul] at hk; omega)]
   congr 1
   rw [Nat.mod_eq_sub_mod hge]
theorem Re (r : Rel T0 B σ a w X h) {o : Oper} {T : TypeId} {x : Operand} {d : Nat} {k : IntKind} {n : Nat} {z : List At} {zr : List D} (hop : o.op = .makeSlice T x x) (hd : o.dst = some d) (hfr : σ.fresh d = true)
  (ht : Z9 P T = true) (hz : Zl P (ZK P T) = true) (hzr : Yb P 12 (ZK P T) = some z) (hzd : zD z = some zr) (hpos : 0 < P.cellsOf (ZK P T)) (hx : qe P σ x k (n : Int)) (hby : P.bytesOf (ZK P T) * n ≤ 281474976710656) (hmax : n ≤ 9223372036854775807)
  {K : Act → World → Prop} {Q : Exit → Act → World → Prop} (hK : ∀ a' w', Qo T0 B (σ.new d (.one (.sref d 0 0 n)) [.arr false (P.cellsOf (ZK P T)) (List.replicate n zr)]) a' w' → Yo B w w' → K a' w') : o.wp P a w K Q := by
 obtain ⟨ti, hu, hi, hisz⟩ := Y1 ht
 obtain ⟨i, zv, row, hi', hzz, hzr', hsz1, hzs, hsz2, hzal⟩ := KT hz
 rw [hi] at hi'; cases hi'
 rw [hzr] at hzr'; cases hzr'
 have hex := KU r hx
 have hby' : (ti.bytes : Int) * (n : Int) ≤ 281474976710656 := by
  have : P.bytesOf (ZK P T) = ti.bytes := by simp [Program.bytesOf, hi]
  rw [this] at hby
  have h : ((ti.bytes * n : Nat) : Int) ≤ 281474976710656 := by omega
  rwa [Int.natCast_mul] at h
 have hrun := run_make (P := P) w T (ZK P T) ti zv hu hi hzz k k n n (by omega) (Int.le_refl _) hby' (by omega)
 simp only [Int.toNat_natCast] at hrun
 unfold Oper.wp
 simp only [execOp, hop, hex, Sem.run_bind, hrun, Result.andThen_ok, Sem.run_pure, Oper.upon_value, hd]
 have hzrd := M7 hzd (hzal (Tof T0 X) h σ.ob w)
 have hzl := hzrd.length
 have e1 : zv.cells.toList.length = zv.cells.size := Array.length_toList
 have hzl2 : zr.length = ti.size := by omega
 have hT : ∀ b k v, Tof T0 X b k → w.cell? ⟨b, k, none⟩ = some v → (w.alloc (.cells (madeCells zv.cells (n * ti.size)) (ZK P T))).cell? ⟨b, k, none⟩ = some v ∧ Tof T0 X b k := by
  intro b k v hb hcell
  refine ⟨?_, hb⟩
  rw [World.cell?_of_block ((World.grownBy_alloc w (.cells (madeCells zv.cells (n * ti.size)) (ZK P T)) none).block b (r.Tlt hb) (by simp))]; exact hcell
 have hmlen : (madeCells zv.cells (n * ti.size)).toList.length = n * ti.size := by rw [Array.length_toList, size_madeCells]
 have hmget : ∀ q u, (madeCells zv.cells (n * ti.size)).toList[q]? = some u → zv.cells.toList[q % ti.size]? = some u := by
  intro q u hq
  have hlt : q < n * ti.size := by have := (List.getElem?_eq_some_iff.1 hq).1; omega
  have hmod : q % ti.size < zv.cells.size := by rw [hzs]; exact Nat.mod_lt _ (by omega)
  have : (madeCells zv.cells (n * ti.size)).toList[q]? = some (zv.cells[q % zv.cells.size]!) := by
   simp [madeCells, hlt]
  rw [this] at hq
  cases hq
  rw [hzs]
  simp [hmod]
 have hal2 : Zp (Rd (Tof T0 X) w) (madeCells zv.cells (n * ti.size)).toList (List.replicate n zr).flatten := by
  refine Zp.yG (by rw [hmlen, Z5 _ ti.size (by intro q hq; rw [List.eq_of_mem_replicate hq]; exact hzl2)]; simp) (fun q u dd hq hdd => ?_)
  have hlt : q < n * ti.size := by have := (List.getElem?_eq_some_iff.1 hq).1; omega
  rw [yb zr n q (by rw [hzl2]; exact hlt), hzl2] at hdd
  obtain ⟨d', hd', hr'⟩ := hzrd.get _ _ (hmget q u hq)
  rw [hdd] at hd'; cases hd'
  exact hr'
 have := r.DG hfr (World.grownBy_alloc w (.cells (madeCells zv.cells (n * ti.size)) (ZK P T)) none) (.slice (some ⟨w.heap.size, 0, none⟩) n n) (size := P.cellsOf (ZK P T)) (rows := List.replicate n zr)
  ⟨ZK P T, (madeCells zv.cells (n * ti.size)).toList, ⟨by rw [hmlen, hsz2]; simp, .inr ⟨w.heap.size, n, _, by simp, Nat.zero_le _, heap_alloc_new w _, by simp, by simp only [maxLen]; omega, by rw [size_madeCells, hsz2], by rw [List.take_of_length_le (by rw [hmlen, hsz2]; simp)]⟩⟩,
   (by intro q hq; rw [List.eq_of_mem_replicate hq]; omega), hal2.imp fun _ _ => Rd.mono hT⟩
  (fun b hb => by simp [blk] at hb; subst hb; exact ⟨Nat.le_refl _, by simp⟩)
 rw [List.length_replicate] at this
 exact hK _ _ this.1 this.2
end
end Go.Vm
namespace Go.Vm
open Go.RowKit
def QN (l : List UInt8) : List (List D) := l.map fun b => [D.int .u8 (b.toNat : Int)]
def QP (P : Program) (t : TypeId) : Bool := match P.underlying t with
 | some (.slice e) => (match P.underlying e with | some (.int .u8) => true | _ => false)
 | _ => false
theorem SM {P : Program} {t : TypeId} (ht : QP P t = true) : ∃ e, P.underlying t = some (.slice e) ∧ P.underlying e = some (.int .u8) := by
 unfold QP at ht
 split at ht
 ·rename_i e he
  split at ht
  ·rename_i h2; exact ⟨e, he, h2⟩
  ·cases ht
 ·cases ht
theorem jz (l : List UInt8) : (QN l).flatten = l.map fun b => D.int .u8 (b.toNat : Int) := by
 induction l with
 | nil => rfl
 | cons b l ih => simp only [QN, List.map_cons, List.flatten_cons] at ih ⊢; rw [ih]; rfl
section
variable {P : Program} {T0 : CS} {B : Nat → Prop} {σ : St} {a : Act} {w w' : World} {X X' : Nat → Prop} {h : Nat → Nat → Hd}
theorem VV (r : Rel T0 B σ a w X h) {o : Oper} {S T : TypeId} {x : Operand} {l : List UInt8} (hop : o.op = .convert S T x) (hg : gOf (look P σ S x) = true) (hS : QP P S = true) (hT : JO P T = true)
  (hsrc : Kr σ (unc (look P σ S x)) 1 (QN l)) : ∃ val, (execOp a.eval o).run P w = .ok (.value val) w ∧ XZ (Tof T0 X) h σ.ob w (.one (.d (.str ⟨l.toArray⟩))) val := by
 obtain ⟨e, hs, he⟩ := SM hS
 have hv := r.arg (P := P) S x rfl hg
 obtain ⟨_, hsc⟩ := MP r hsrc hv
 refine ⟨.string ⟨l.toArray⟩, ?_, .str _⟩
 rcases hsc with ⟨hex, hnil⟩ | ⟨ad, c, xs, hex, hcell, hal⟩
 ·have hl : l = [] := by cases l with
   | nil => rfl
   | cons b l => simp [QN] at hnil
  subst hl
  have hr : (convert S T (.slice none 0 0)).run P w = .ok (.string ⟨#[]⟩) w := by
   rw [run_convert_bytes_string w S T e none 0 0 hs he (zR hT)]
   rfl
  simp only [execOp, hop, hex, Sem.run_bind, hr, Result.andThen_ok, Sem.run_pure, List.toArray]
 ·have hlen : (QN l).length = l.length := by simp [QN]
  rw [hlen] at hex
  have hr := run_convert_bytes_back (P := P) w S T e ad c l hs he (zR hT) (fun j hj => by
   rw [jz] at hal
   obtain ⟨u, hu, hr⟩ := hal.get' j (D.int .u8 (l[j].toNat : Int)) (by simp [hj])
   have := kW hr
   subst this
   exact hcell j _ hu)
  simp only [execOp, hop, hex, Sem.run_bind, hr, Result.andThen_ok, Sem.run_pure]
theorem VR (r : Rel T0 B σ a w X h) {o : Oper} {S T : TypeId} {x : Operand} {d : Nat} {s : ByteArray} (hop : o.op = .convert S T x) (hd : o.dst = some d) (hg : gOf (look P σ S x) = true) (hS : JO P S = true) (hT : QP P T = true)
  (hx : unc (look P σ S x) = .one (.d (.str s))) (hsz : s.size ≤ 9223372036854775807)
  {K : Act → World → Prop} {Q : Exit → Act → World → Prop} (hK : ∀ a' w', Qo T0 B (σ.put d (.one (.d (.sl 1 (QN s.data.toList))))) a' w' → Yo B w w' → K a' w') : o.wp P a w K Q := by
 obtain ⟨e, hdd, he⟩ := SM hT
 have hex := WS (r.arg (P := P) S x hx hg)
 have hrun := run_bytes_of_string (P := P) w S T e s (zR hS) hdd he
 unfold Oper.wp
 simp only [execOp, hop, hex, Sem.run_bind, hrun, Result.andThen_ok, Sem.run_pure, Oper.upon_value, hd]
 generalize hcap : grownCap w s.size 0 e = cap at *
 have hge : s.size ≤ cap := by rw [← hcap]; exact grownCap_ge w s.size 0 e
 have hmx : cap ≤ maxLen := by rw [← hcap]; exact grownCap_le_maxLen w s.size 0 e (by simp only [maxLen]; omega)
 generalize hw' : w.drew.alloc (.cells (bytesRow s cap) e ((bytesRow s cap).size, (bytesRow s cap).size + 1)) = w'
 have hg' : w.grownBy w' none := by
  rw [← hw']
  exact ⟨rfl, rfl, rfl, by simp, fun k hk _ => (World.grownBy_alloc w.drew _ none).block k hk (by simp)⟩
 have hnew : w'.heap[w.heap.size]? = some (.cells (bytesRow s cap) e ((bytesRow s cap).size, (bytesRow s cap).size + 1)) := by rw [← hw']; exact heap_alloc_new w.drew _
 have hsize : w.heap.size < w'.heap.size := (Array.getElem?_eq_some_iff.1 hnew).1
 have r2 := r.grow (X' := fun b => X b ∨ b = w.heap.size) hg' (fun b hb => .inl hb) (fun b hb => hb.imp id (fun hh => by subst hh; exact ⟨Nat.le_refl _, hsize⟩))
 refine hK _ _ ⟨_, _, r2.put d _ _ ?_⟩ (Yo.Wy hg' r.hB)
 have hfl := jz s.data.toList
 refine Rd.sl ⟨w.heap.size, 0, none⟩ s.size cap 1 _ (fun k => .int .u8 ((s.data.toList.getD k 0).toNat : Int)) (by simp [QN]) hge hmx (by intro q hq; simp [QN] at hq; obtain ⟨b, _, rfl⟩ := hq; rfl) (fun _ => rfl) (fun k dd hk => ?_) (fun k dd hk => ?_)
 ·rw [hfl, List.getElem?_map] at hk
  cases hb : s.data.toList[k]? with
  | none => rw [hb] at hk; cases hk
  | some b =>
   refine ⟨?_, .inr (.inr rfl)⟩
   simp only [Nat.zero_add]
   refine Jh hnew _ _ ?_
   have hklt : k < s.data.size := by have := (List.getElem?_eq_some_iff.1 hb).1; simpa using this
   simp only [bytesRow]
   rw [Array.toList_append, List.getElem?_append_left (by simpa using hklt)]
   simp [hb]
 ·rw [hfl, List.getElem?_map] at hk
  cases hb : s.data.toList[k]? with
  | none => rw [hb] at hk; cases hk
  | some b =>
   rw [hb] at hk; cases hk
   rw [List.getD_eq_getElem?_getD, hb]
   exact .int _ _
end
end Go.Vm
namespace Go.Vm
open Go.RowKit
def YF : List At → List (Nat × Nat)
 | [] => []
 | .sref t j _ _ :: xs => (t, j) :: YF xs
 | _ :: xs => YF xs
def mvD (σ : St) : At → Option D
 | .d (.sl _ _) => none
 | .d x => some x
 | .nil s => some (.sl s [])
 | .sref t j lo len => (match σ.ob t j with | .arr _ size rows => if lo = 0 ∧ len = rows.length then some (.sl size rows) else none | _ => none)
 | _ => none
def Ru (σ : St) : At → Prop
 | .sref t j _ _ => (match σ.ob t j with | .arr false _ rows => ∀ r ∈ rows, ∀ x ∈ r, x.scalar = true | _ => True)
 | _ => True
def X1 (σ : St) : List At → Option (List D)
 | [] => some []
 | x :: xs => (match mvD σ x, X1 σ xs with | some d, some ds => some (d :: ds) | _, _ => none)
def X0 (σ : St) : List At → Prop
 | [] => True
 | x :: xs => Ru σ x ∧ X0 σ xs
def JV (σ : St) : List (List At) → Option (List (List D))
 | [] => some []
 | xs :: rest => (match X1 σ xs, JV σ rest with | some r, some rs => some (r :: rs) | _, _ => none)
def Qf (σ : St) : List (List At) → Prop
 | [] => True
 | x :: xs => X0 σ x ∧ Qf σ xs
theorem Wp : ∀ (xs : List At) (i j : Nat) (t u lo len lo' len' : Nat), (YF xs).Nodup → xs[i]? = some (.sref t u lo len) → xs[j]? = some (.sref t u lo' len') → i = j := by
 intro xs
 induction xs with
 | nil => intro i j t u lo len lo' len' _ hi; simp at hi
 | cons x xs ih =>
  intro i j t u lo len lo' len' hnd hi hj
  have mem : ∀ (k lo len : Nat), xs[k]? = some (At.sref t u lo len) → (t, u) ∈ YF xs := by
   intro k lo len hk
   clear ih hnd hi hj
   induction xs generalizing k with
   | nil => simp at hk
   | cons y ys ih2 =>
    cases k with
    | zero => simp at hk; subst hk; simp [YF]
    | succ k =>
     have := ih2 k (by simpa using hk)
     cases y <;> simp [YF, this]
  have nd' : (YF xs).Nodup := by
   cases x <;> simp only [YF] at hnd <;> first | exact hnd | exact (List.nodup_cons.1 hnd).2
  cases i with
  | zero =>
   simp at hi; subst hi
   cases j with
   | zero => rfl
   | succ j =>
    simp only [YF] at hnd
    exact absurd (mem j lo' len' (by simpa using hj)) (List.nodup_cons.1 hnd).1
  | succ i =>
   cases j with
   | zero =>
    simp at hj; subst hj
    simp only [YF] at hnd
    exact absurd (mem i lo len (by simpa using hi)) (List.nodup_cons.1 hnd).1
   | succ j => rw [ih i j t u lo len lo' len' nd' (by simpa using hi) (by simpa using hj)]
theorem Mq : ∀ {xs : List At} {k t j lo len : Nat}, xs[k]? = some (At.sref t j lo len) → (t, j) ∈ YF xs
 | [], k, t, j, lo, len, h => by simp at h
 | x :: xs, 0, t, j, lo, len, h => by simp at h; subst h; simp [YF]
 | x :: xs, k + 1, t, j, lo, len, h => by
  have := Mq (xs := xs) (k := k) (by simpa using h)
  cases x <;> simp [YF, this]
theorem j4 {σ : St} : ∀ {xs : List At} {ds : List D}, X1 σ xs = some ds → xs.length = ds.length ∧ ∀ (k : Nat) (x : At) (d : D), xs[k]? = some x → ds[k]? = some d → mvD σ x = some d
 | [], ds, h => by simp [X1] at h; subst h; exact ⟨rfl, fun k x d hx => by simp at hx⟩
 | x :: xs, ds, h => by
  simp only [X1] at h
  split at h
  ·rename_i d ds' h1 h2
   cases h
   obtain ⟨hl, ih⟩ := j4 h2
   refine ⟨by simp [hl], fun k y e hy he => ?_⟩
   cases k with
   | zero => simp at hy he; subst hy; subst he; exact h1
   | succ k => exact ih k y e (by simpa using hy) (by simpa using he)
  ·cases h
theorem Up {σ : St} : ∀ {xs ys : List At} {ds es : List D}, X1 σ xs = some ds → X1 σ ys = some es → X1 σ (xs ++ ys) = some (ds ++ es)
 | [], ys, ds, es, h1, h2 => by simp [X1] at h1; subst h1; simpa using h2
 | x :: xs, ys, ds, es, h1, h2 => by
  simp only [X1] at h1
  split at h1
  ·rename_i d ds' h3 h4
   cases h1
   simp [X1, h3, Up h4 h2]
  ·cases h1
theorem qv {σ : St} : ∀ {xss : List (List At)} {rs : List (List D)}, JV σ xss = some rs → X1 σ xss.flatten = some rs.flatten ∧ xss.length = rs.length ∧ ∀ n, (∀ x ∈ xss, x.length = n) → ∀ r ∈ rs, r.length = n
 | [], rs, h => by simp [JV] at h; subst h; exact ⟨rfl, rfl, fun n _ r hr => by cases hr⟩
 | xs :: xss, rs, h => by
  simp only [JV] at h
  split at h
  ·rename_i r rs' h1 h2
   cases h
   obtain ⟨i1, i2, i3⟩ := qv h2
   refine ⟨by rw [List.flatten_cons, List.flatten_cons]; exact Up h1 i1, by simp [i2], fun n hn q hq => ?_⟩
   rcases List.mem_cons.1 hq with rfl | hq
   ·rw [← (j4 h1).1]; exact hn xs (by simp)
   ·exact i3 n (fun x hx => hn x (by simp [hx])) q hq
  ·cases h
theorem Ss {σ : St} : ∀ {xs : List At}, X0 σ xs → ∀ (k : Nat) (x : At), xs[k]? = some x → Ru σ x
 | [], _, k, x, hx => by simp at hx
 | y :: xs, h, 0, x, hx => by simp at hx; subst hx; exact h.1
 | y :: xs, h, k + 1, x, hx => Ss h.2 k x (by simpa using hx)
theorem WW {σ : St} : ∀ {xs ys : List At}, X0 σ xs → X0 σ ys → X0 σ (xs ++ ys)
 | [], _, _, h => h
 | _ :: _, _, h1, h2 => ⟨h1.1, WW h1.2 h2⟩
theorem y7 {σ : St} : ∀ {xss : List (List At)}, Qf σ xss → X0 σ xss.flatten
 | [], _ => trivial
 | xs :: xss, h => by rw [List.flatten_cons]; exact WW h.1 (y7 h.2)
section
variable {P : Program} {T0 : CS} {B : Nat → Prop} {σ : St} {a : Act} {w w' : World} {X X' : Nat → Prop} {h : Nat → Nat → Hd}
theorem Rd.own {T : CS} {v : Value} {d : D} {S : Nat → Prop} (hs : d.scalar = true) (hr : Rd T w v d) : Own w v d S := by
 cases hr with
 | int k n => exact .int _ _ _
 | bool b => exact .bool _ _
 | str s => exact .str _ _
 | unk v h => exact .unk _ h _
 | nil => cases hs
 | sl => cases hs
theorem Rel.Bj (r : Rel T0 B σ a w X h) {t j : Nat} {q : Bool} {size : Nat} {rows : List (List D)} (ho : σ.ob t j = .arr q size rows) (hq : q = false → ∀ r ∈ rows, ∀ x ∈ r, x.scalar = true) : Own w (h t j).v (.sl size rows) (h t j).u := by
 have h0 := r.obj t j
 have hub := r.ub t j
 rw [ho] at h0 hub
 cases q with
 | false =>
  obtain ⟨e, xs, how, hz, hal⟩ := h0
  refine .sl _ size rows _ e xs (fun _ _ => False) how hz (fun b hb => hub b (by simp) hb) hal.length (fun k x d hx hd => ?_) (fun k b hb => hb.elim) (fun i j b hb => hb.elim)
  obtain ⟨d', hd', hr⟩ := hal.get k x hx
  rw [hd] at hd'; cases hd'
  obtain ⟨r0, hr0, hdr⟩ := List.mem_flatten.1 (List.mem_of_getElem? hd)
  exact Rd.own (hq rfl r0 hr0 d hdr) hr
 | true =>
  obtain ⟨e, xs, how, hz, ⟨hl, Sk, h1, h2, h3⟩, hn⟩ := h0
  exact .sl _ size rows _ e xs Sk how hz (fun b hb => hub b (by simp) hb) hl h1 (fun k b hb => h2 k b hb) h3
def X2 (σ : St) (h : Nat → Nat → Hd) (l : List (Nat × Nat)) (b : Nat) : Prop := ∃ p ∈ l, σ.ob p.1 p.2 ≠ .none ∧ (h p.1 p.2).u b
theorem SC (r : Rel T0 B σ a w X h) {xs : List At} {vs : List Value} {ds : List D} (hal : Zp (Z2 (Tof T0 X) h σ.ob w) xs vs) (hmv : X1 σ xs = some ds) (hok : X0 σ xs) (hnd : (YF xs).Nodup) : QK w vs ds (X2 σ h (YF xs)) := by
 obtain ⟨hl, hmv⟩ := j4 hmv
 refine ⟨by rw [← hal.length, hl], fun k b => ∃ t j lo len, xs[k]? = some (.sref t j lo len) ∧ σ.ob t j ≠ .none ∧ (h t j).u b, fun k v d hv hd => ?_, ?_, ?_⟩
 ·obtain ⟨x, hx, hr⟩ := hal.get' k v hv
  have hm := hmv k x d hx hd
  have ho := Ss hok k x hx
  cases x with
  | d x =>
   cases x with
   | sl s rows => simp [mvD] at hm
   | int k n => simp [mvD] at hm; subst hm; exact Rd.own rfl hr
   | bool b => simp [mvD] at hm; subst hm; exact Rd.own rfl hr
   | str s => simp [mvD] at hm; subst hm; exact Rd.own rfl hr
   | unk => simp [mvD] at hm; subst hm; exact Rd.own rfl hr
  | nil s =>
   simp [mvD] at hm; subst hm
   cases hr
   exact .sl _ s [] _ 0 [] (fun _ _ => False) (World.ownsRow_nil w 0 0 s) (by intro q hq; cases hq) (fun b hb => by cases hb) rfl (fun k x d hx => by simp at hx) (fun k b hb => hb.elim) (fun i j b hb => hb.elim)
  | sref t j lo len =>
   simp only [mvD] at hm
   split at hm
   ·rename_i q size rows hob
    split at hm
    ·rename_i hc
     obtain ⟨rfl, rfl⟩ := hc
     cases hm
     obtain ⟨_, hfull, _⟩ := hr.2.1 q size rows hob
     rw [hfull rfl rfl]
     refine (r.Bj hob (fun hq => ?_)).mono (fun b hb => ⟨t, j, 0, rows.length, hx, by rw [hob]; simp, hb⟩)
     subst hq
     simp only [Ru, hob] at ho; exact ho
    ·cases hm
   ·cases hm
  | any => simp [mvD] at hm
  | ptr => simp [mvD] at hm
  | bptr => simp [mvD] at hm
  | fn => simp [mvD] at hm
  | rptr => simp [mvD] at hm
  | tref => simp [mvD] at hm
 ·rintro k b ⟨t, j, lo, len, hx, hne, hu⟩
  exact ⟨(t, j), Mq hx, hne, hu⟩
 ·rintro i k b ⟨t, j, lo, len, hx, hne, hu⟩ ⟨t', j', lo', len', hx', hne', hu'⟩
  obtain ⟨rfl, rfl⟩ := r.inj t j t' j' b hne hne' hu hu'
  exact Wp xs i k t j lo len lo' len' hnd hx hx'
theorem QK.append {xs ys : List Value} {ds es : List D} {S S' : Nat → Prop} (h1 : QK w xs ds S) (h2 : QK w ys es S') (hd : ∀ b, S b → S' b → False) : QK w (xs ++ ys) (ds ++ es) (fun b => S b ∨ S' b) := by
 obtain ⟨l1, Sk, a1, a2, a3⟩ := h1
 obtain ⟨l2, Sk', b1, b2, b3⟩ := h2
 refine ⟨by simp [l1, l2], fun k => if k < xs.length then Sk k else Sk' (k - xs.length), fun k x d hx hd' => ?_, fun k b hb => ?_, fun i j b hi hj => ?_⟩
 ·by_cases hk : k < xs.length
  ·simp only [hk, if_true]
   rw [List.getElem?_append_left hk] at hx
   rw [List.getElem?_append_left (by omega)] at hd'
   exact a1 k x d hx hd'
  ·simp only [hk, if_false]
   rw [List.getElem?_append_right (by omega)] at hx
   rw [List.getElem?_append_right (by omega), ← l1] at hd'
   exact b1 _ x d hx hd'
 ·by_cases hk : k < xs.length
  ·simp only [hk, if_true] at hb; exact .inl (a2 k b hb)
  ·simp only [hk, if_false] at hb; exact .inr (b2 _ b hb)
 ·by_cases hi' : i < xs.length
  ·simp only [hi', if_true] at hi
   by_cases hj' : j < xs.length
   ·simp only [hj', if_true] at hj; exact a3 i j b hi hj
   ·simp only [hj', if_false] at hj; exact (hd b (a2 i b hi) (b2 _ b hj)).elim
  ·simp only [hi', if_false] at hi
   by_cases hj' : j < xs.length
   ·simp only [hj', if_true] at hj; exact (hd b (a2 j b hj) (b2 _ b hi)).elim
   ·simp only [hj', if_false] at hj
    have := b3 _ _ b hi hj; omega
theorem QK.mono {xs : List Value} {ds : List D} {S S' : Nat → Prop} (hS : ∀ b, S b → S' b) (h1 : QK w xs ds S) : QK w xs ds S' := by
 obtain ⟨l1, Sk, a1, a2, a3⟩ := h1
 exact ⟨l1, Sk, a1, fun k b hb => hS b (a2 k b hb), a3⟩
theorem QK.nil (S : Nat → Prop) : QK w [] [] S := ⟨rfl, fun _ _ => False, fun k x d hx => by simp at hx, fun _ _ hb => hb.elim, fun _ _ _ hb => hb.elim⟩
theorem Rel.KP (r : Rel T0 B σ a w X h) (l : List (Nat × Nat)) (b : Nat) (hb : X2 σ h l b) : ¬ B b ∧ ¬ X b ∧ b < w.heap.size ∧ ∀ u i, (σ.Zn l).ob u i ≠ .none → ¬ (h u i).u b := by
 obtain ⟨p, hp, hne, hu⟩ := hb
 have ho := r.own p.1 p.2 b hne hu
 refine ⟨ho.1, ho.2.1, ho.2.2, fun u i hn hu' => ?_⟩
 rw [St.JR] at hn
 split at hn
 ·exact hn rfl
 ·rename_i hnm
  obtain ⟨h1, h2⟩ := r.inj p.1 p.2 u i b hne hn hu hu'
  exact hnm (by rw [← h1, ← h2]; exact hp)
end
end Go.Vm
namespace Go.Vm
open Go.RowKit
section
variable {P : Program} {T0 : CS} {B : Nat → Prop} {σ : St} {a : Act} {w w' : World} {X X' : Nat → Prop} {h : Nat → Nat → Hd}
def Um (P : Program) (σ : St) (T : TypeId) (size : Nat) : List (Nat × Operand) → Nat → List (List At) → Prop
 | [], _, rs => rs = []
 | (i, x) :: ps, k, rs => i = k ∧ gOf (look P σ T x) = true ∧ (unc (look P σ T x)).flat = true ∧ (unc (look P σ T x)).cells.length = size ∧
   ∃ rest, Um P σ T size ps (k + 1) rest ∧ rs = (unc (look P σ T x)).cells :: rest
theorem HJ (r : Rel T0 B σ a w X h) (T : TypeId) (size : Nat) : ∀ (ps : List (Nat × Operand)) (k : Nat) (rs : List (List At)) (cells : Array Value), Um P σ T size ps k rs → (k + ps.length) * size ≤ cells.size →
   ∃ cells' ys, Instr.fill (fun i => some (i * size, size)) cells (ps.map fun x => (x.1, a.eval x.2)) = some cells' ∧ cells'.toList = place cells.toList (k * size) ys ∧ Zp (Z2 (Tof T0 X) h σ.ob w) rs.flatten ys ∧ (∀ q ∈ rs, q.length = size) ∧ rs.length = ps.length
 | [], k, rs, cells, hb, _ => by cases hb; exact ⟨cells, [], rfl, by simp [place], .nil, (by intro q hq; cases hq), rfl⟩
 | (i, x) :: ps, k, rs, cells, hb, hl => by
  obtain ⟨rfl, hg, hf, hlen, rest, hb, rfl⟩ := hb
  have hx := qJ hf (r.arg (P := P) T x rfl hg)
  have hl2 := hx.length
  have e1 : cells.toList.length = cells.size := Array.length_toList
  have e2 : (a.eval x).cells.toList.length = (a.eval x).cells.size := Array.length_toList
  have hmul : (i + (ps.length + 1)) * size = i * size + size + ps.length * size := by rw [Nat.add_mul, Nat.add_mul]; omega
  simp only [List.length_cons] at hl
  have heq := kS (i * size) (a.eval x).cells cells (by omega)
  have hsz1 : ((a.eval x).cells.zipIdx.foldl (fun cs x => cs.setIfInBounds (i * size + x.2) x.1) cells).size = cells.size := by
   rw [← Array.length_toList, heq, XB _ _ _ (by omega), e1]
  have hmul2 : (i + 1 + ps.length) * size = i * size + size + ps.length * size := by rw [Nat.add_mul, Nat.add_mul]; omega
  obtain ⟨cells', ys, h1, h2, h3, h4, h5⟩ := HJ r T size ps (i + 1) rest _ hb (by rw [hsz1]; omega)
  have hyl : ys.length = ps.length * size := by rw [← h3.length, Z5 rest size h4, h5]
  refine ⟨cells', (a.eval x).cells.toList ++ ys, ?_, ?_, ?_, ?_, by simp [h5]⟩
  ·simp only [List.map_cons, Instr.fill]
   rw [if_neg (by simp; omega)]
   exact h1
  ·rw [h2, heq]
   rw [show (i + 1) * size = i * size + (a.eval x).cells.toList.length by rw [Nat.add_mul]; omega]
   exact SR _ _ _ _ (by simp; omega)
  ·rw [List.flatten_cons]; exact hx.append h3
  ·intro q hq
   rcases List.mem_cons.1 hq with rfl | hq
   ·exact hlen
   ·exact h4 q hq
theorem Wj (r : Rel T0 B σ a w X h) {o : Oper} {T : TypeId} {n : Nat} {parts : Array (Nat × Operand)} {d : Nat} {rows : List (List At)} (hop : o.op = .buildSlice T n parts) (hd : o.dst = some d) (hfr : σ.fresh d = true)
  (ht : Z9 P T = true) (hz : Zl P (ZK P T) = true) (hpos : 0 < P.cellsOf (ZK P T)) (hn : parts.toList.length = n) (hsm : n * P.cellsOf (ZK P T) ≤ 16777216) (hb : Um P σ (ZK P T) (P.cellsOf (ZK P T)) parts.toList 0 rows) (hrf : Z7 d rows.flatten = false)
  {K : Act → World → Prop} {Q : Exit → Act → World → Prop} (hK : ∀ a' w', Qo T0 B (σ.new d (.one (.sref d 0 0 rows.length)) [.lit (P.cellsOf (ZK P T)) rows]) a' w' → Yo B w w' → K a' w') : o.wp P a w K Q := by
 obtain ⟨ti, hu, hi, hisz⟩ := Y1 ht
 obtain ⟨i, z, row, hi', hzz, hzr, hsz1, hzs, hsz2, hzal⟩ := KT hz
 rw [hi] at hi'; cases hi'
 have hzrun : (zeroValue (ZK P T)).run P w = .ok z w := by simp [zeroValue, typeInfo, hi, hzz]
 obtain ⟨zero, hzero⟩ : ∃ zero : Array Value, (n * P.cellsOf (ZK P T) = 0 → zero = #[]) ∧ (¬ n * P.cellsOf (ZK P T) = 0 → zero = z.cells) := by
  by_cases h0 : n * P.cellsOf (ZK P T) = 0
  ·exact ⟨#[], fun _ => rfl, fun hh => absurd h0 hh⟩
  ·exact ⟨z.cells, fun hh => absurd hh h0, fun _ => rfl⟩
 obtain ⟨cells', ys, h1, h2, h3, h4, h5⟩ := HJ r (ZK P T) (P.cellsOf (ZK P T)) parts.toList 0 rows ((Array.range (n * P.cellsOf (ZK P T))).map (zero[· % zero.size]!)) hb (by simp [hn])
 have hyl : ys.length = n * P.cellsOf (ZK P T) := by rw [← h3.length, Z5 rows _ h4, h5, hn]
 have hcl : cells'.toList = ys := by
  rw [h2]
  unfold place
  simp [hyl]
 have hmap : (parts.map fun (x : Nat × Operand) => (x.1, a.eval x.2)).toList = parts.toList.map fun x => (x.1, a.eval x.2) := by simp
 have hrun : (execOp a.eval o).run P w = .ok (.value (.slice (some ⟨w.heap.size, 0, none⟩) n n)) (w.alloc (.cells cells' (ZK P T))) := by
  have hnot : ¬ (n * P.cellsOf (ZK P T) > 2 ^ 24) := by omega
  by_cases h0 : n * P.cellsOf (ZK P T) = 0
  ·have hz0 := hzero.1 h0
   subst hz0
   simp only [execOp, hop, Instr.buildSlice, Sem.run_bind, run_underlying hu, Result.andThen_ok, Qi hi, if_neg hnot, if_pos h0, hmap, h1, newRow, Sem.run_pure, run_newObj_alloc]
  ·have hz0 := hzero.2 h0
   subst hz0
   simp only [execOp, hop, Instr.buildSlice, Sem.run_bind, run_underlying hu, Result.andThen_ok, Qi hi, if_neg hnot, if_neg h0, hzrun, hmap, h1, newRow, Sem.run_pure, run_newObj_alloc]
 unfold Oper.wp
 rw [hrun, Oper.upon_value, hd]
 have hlen : rows.length = n := by rw [h5, hn]
 have hg := World.grownBy_alloc w (.cells cells' (ZK P T)) none
 have hlt := St.J5 hfr
 have hT : ∀ b k v, Tof T0 X b k → w.cell? ⟨b, k, none⟩ = some v → (w.alloc (.cells cells' (ZK P T))).cell? ⟨b, k, none⟩ = some v ∧ Tof T0 X b k := by
  intro b k v hb hcell
  refine ⟨?_, hb⟩
  rw [World.cell?_of_block (hg.block b (r.Tlt hb) (by simp))]; exact hcell
 have hsz' : cells'.size = n * P.cellsOf (ZK P T) := by rw [← Array.length_toList, hcl, hyl]
 have hmx : n ≤ maxLen := by
  have : n ≤ n * P.cellsOf (ZK P T) := Nat.le_mul_of_pos_right _ hpos
  simp only [maxLen]; omega
 have hown : (w.alloc (.cells cells' (ZK P T))).ownsRow 0 (ZK P T) (P.cellsOf (ZK P T)) (.slice (some ⟨w.heap.size, 0, none⟩) n n) rows.length ys :=
  ⟨by rw [hyl, hlen], .inr ⟨w.heap.size, n, cells', by rw [hlen], Nat.zero_le _, heap_alloc_new w _, by omega, hmx, hsz', by rw [hcl, hlen, List.take_of_length_le (by omega)]⟩⟩
 refine hK _ _ ⟨X, fun t j => if t = d then Hd.of (.slice (some ⟨w.heap.size, 0, none⟩) n n) else h t j, ?_⟩ (Yo.Wy hg r.hB)
 have hob0 : (σ.new d (.one (.sref d 0 0 rows.length)) [.lit (P.cellsOf (ZK P T)) rows]).ob d 0 = .lit (P.cellsOf (ZK P T)) rows := by rw [St.Qg]; simp [hlt, YD]
 have hc : ∀ t j, t ≠ d → Cpt h (fun t j => if t = d then Hd.of (.slice (some ⟨w.heap.size, 0, none⟩) n n) else h t j) σ.ob (σ.new d (.one (.sref d 0 0 rows.length)) [.lit (P.cellsOf (ZK P T)) rows]).ob t j := by
  intro t j hne
  have he : (σ.new d (.one (.sref d 0 0 rows.length)) [.lit (P.cellsOf (ZK P T)) rows]).ob t j = σ.ob t j := by rw [St.Qg, if_neg (fun hh => hne hh.1)]
  exact Cpt.same (by simp [hne]) he
 refine r.new hfr hg (fun _ hb => hb) (fun _ hb => .inl hb) _ _ [.lit (P.cellsOf (ZK P T)) rows] (fun _ => Hd.of (.slice (some ⟨w.heap.size, 0, none⟩) n n)) ?_ (fun j => ?_) (fun j b _ hb => hb) (fun j b _ hb' => ?_) (fun j j' b hne hne' _ _ => ?_)
 ·refine ⟨QQ hown, fun q' size' rows' ho' => (by rw [hob0] at ho'; cases ho'), fun size' rows' ho' => ?_⟩
  rw [hob0] at ho'; cases ho'
  simp only [if_true]
  exact ql hown
 ·cases j with
  | zero => exact ⟨ZK P T, ys, hown, h4, qF hT hc hrf h3⟩
  | succ j => simp [YD, Q5]
 ·simp [Hd.of, blk] at hb'; subst hb'
  refine ⟨Nat.le_refl _, fun hx' => ?_, by simp⟩
  have := (r.hX _ hx').2; omega
 ·have : ∀ j, YD [Ob.lit (P.cellsOf (ZK P T)) rows] j ≠ .none → j = 0 := by
   intro j hj
   cases j with
   | zero => rfl
   | succ j => simp [YD] at hj
  rw [this j hne, this j' hne']
theorem G3 {T : CS} {ob : Nat → Nat → Ob} : ∀ {xs : List At} {ds : List D} {vs : List Value}, zD xs = some ds → Zp (Z2 T h ob w) xs vs → (∀ x ∈ xs, ∀ s r, x ≠ .d (.sl s r)) → ∀ (w' : World) (S : Nat → Prop) (k : Nat) (v : Value) (d : D), vs[k]? = some v → ds[k]? = some d → Own w' v d S
 | [], ds, vs, hz, hal, _, w', S, k, v, d, hv, _ => by cases hal; simp at hv
 | x :: xs, ds, vs, hz, hal, hns, w', S, k, v, d, hv, hd => by
  cases hal with
  | cons hx hal =>
   cases x with
   | d x =>
    simp only [zD, Option.map_eq_some_iff] at hz
    obtain ⟨ds', hz', rfl⟩ := hz
    cases k with
    | zero =>
     simp at hv hd; subst hv; subst hd
     cases x with
     | sl s r => exact absurd rfl (hns _ (by simp) s r)
     | int k n => cases (show Rd _ _ _ _ from hx); exact .int _ _ _
     | bool b => cases (show Rd _ _ _ _ from hx); exact .bool _ _
     | str s => cases (show Rd _ _ _ _ from hx); exact .str _ _
     | unk => exact .unk _ (Rd.Yv hx) _
    | succ k => exact G3 hz' hal (fun x hx => hns x (by simp [hx])) w' S k v d (by simpa using hv) (by simpa using hd)
   | nil s =>
    simp only [zD, Option.map_eq_some_iff] at hz
    obtain ⟨ds', hz', rfl⟩ := hz
    cases k with
    | zero =>
     simp at hv hd; subst hv; subst hd
     cases hx
     exact .sl _ s [] _ 0 [] (fun _ _ => False) (World.ownsRow_nil w' 0 0 s) (by intro q hq; cases hq) (fun b hb => by cases hb) rfl (fun k x d hx => by simp at hx) (fun k b hb => hb.elim) (fun i j b hb => hb.elim)
    | succ k => exact G3 hz' hal (fun x hx => hns x (by simp [hx])) w' S k v d (by simpa using hv) (by simpa using hd)
   | any => simp [zD] at hz
   | sref => simp [zD] at hz
   | ptr => simp [zD] at hz
   | bptr => simp [zD] at hz
   | fn => simp [zD] at hz
   | rptr => simp [zD] at hz
   | tref => simp [zD] at hz
def EB (σ : St) (x : V) (size : Nat) (olds : List (List D)) (l : List (Nat × Nat)) : Prop :=
 match x with
 | .one (.nil _) => olds = [] ∧ l = []
 | .one (.sref t j lo len) => σ.ob t j = .arr true size olds ∧ lo = 0 ∧ len = olds.length ∧ l = [(t, j)]
 | _ => False
def EA (σ : St) (x : V) (size : Nat) (news : List (List D)) (l : List (Nat × Nat)) : Prop :=
 match x with
 | .one (.sref t j lo len) => ∃ rows, σ.ob t j = .lit size rows ∧ lo = 0 ∧ len = rows.length ∧ JV σ rows = some news ∧ Qf σ rows ∧ l = YF rows.flatten
 | _ => False
theorem NX (r : Rel T0 B σ a w X h) {o : Oper} {t : TypeId} {x y : Operand} {d : Nat} {olds news : List (List D)} {l1 l2 : List (Nat × Nat)} (hop : o.op = .call ⟨.builtin .append, #[x, y], #[t, t]⟩) (hd : o.dst = some d)
  (hgx : gOf (look P σ t x) = true) (hgy : gOf (look P σ t y) = true) (ht : Z9 P t = true) (hz : Zl P (ZK P t) = true) (hpos : 0 < P.cellsOf (ZK P t))
  (hdst : EB σ (unc (look P σ t x)) (P.cellsOf (ZK P t)) olds l1) (hsrc : EA σ (unc (look P σ t y)) (P.cellsOf (ZK P t)) news l2) (hnd : (l1 ++ l2).Nodup) (hfr : (σ.Zn (l1 ++ l2)).fresh d = true)
  (hbytes : (olds.length + news.length) * P.bytesOf (ZK P t) ≤ 140737488355328) (hmax : olds.length + news.length ≤ 9223372036854775807)
  {K : Act → World → Prop} {Q : Exit → Act → World → Prop} (hK : ∀ a' w', Qo T0 B ((σ.Zn (l1 ++ l2)).new d (.one (.sref d 0 0 (olds.length + news.length))) [.arr true (P.cellsOf (ZK P t)) (olds ++ news)]) a' w' → Yo B w w' → K a' w') : o.wp P a w K Q := by
 obtain ⟨ti, hu, hi, hisz⟩ := Y1 ht
 obtain ⟨i, z, row, hi', hzz, hzr, hsz1, hzs, hsz2, hzal⟩ := KT hz
 rw [hi] at hi'; cases hi'
 have hby : P.bytesOf (ZK P t) = ti.bytes := by simp [Program.bytesOf, hi]
 rw [hby] at hbytes
 rw [← hsz2] at hdst hsrc hpos hK
 have hvx := r.arg (P := P) t x rfl hgx
 have hvy := r.arg (P := P) t y rfl hgy
 -- the source: a literal
 obtain ⟨t2, j2, rows, hsy, hlit, hmv, hmok, hl2⟩ : ∃ t2 j2 rows, unc (look P σ t y) = .one (.sref t2 j2 0 rows.length) ∧ σ.ob t2 j2 = .lit ti.size rows ∧ JV σ rows = some news ∧ Qf σ rows ∧ l2 = YF rows.flatten := by
  unfold EA at hsrc
  split at hsrc
  ·rename_i t2 j2 lo len heq
   obtain ⟨rows, ho, rfl, rfl, hm, hk, rfl⟩ := hsrc
   exact ⟨t2, j2, rows, heq, ho, hm, hk, rfl⟩
  ·exact hsrc.elim
 subst hl2
 obtain ⟨hmv1, hmv2, hmv3⟩ := qv hmv
 have hmok' := y7 hmok
 rw [hsy] at hvy
 have h0 := r.obj t2 j2
 rw [hlit] at h0
 obtain ⟨e2, ys, hown2, hz2, hal2⟩ := h0
 obtain ⟨_, hfull2, _⟩ := hvy.2.2 _ _ hlit
 have hey0 : a.eval y = (h t2 j2).v := hfull2 rfl rfl
 have hnz : ∀ q ∈ news, q.length = ti.size := hmv3 _ hz2
 have hyown := SC r hal2 hmv1 hmok' (List.nodup_append.1 hnd).2.1
 -- the destination
 have hdx : ∃ e0 xs, w.ownsRow 0 e0 ti.size (a.eval x) olds.length xs ∧ (∀ q ∈ olds, q.length = ti.size) ∧ QK w xs olds.flatten (fun b => X2 σ h l1 b ∧ blk (a.eval x) ≠ some b) ∧ (∀ b, blk (a.eval x) = some b → X2 σ h l1 b) := by
  unfold EB at hdst
  split at hdst
  ·rename_i s heq
   obtain ⟨rfl, rfl⟩ := hdst
   rw [heq] at hvx
   have he : a.eval x = .slice none 0 0 := hvx
   rw [he]
   exact ⟨0, [], World.ownsRow_nil w 0 0 _, (by intro q hq; cases hq), QK.nil _, (fun b hb => by cases hb)⟩
  ·rename_i u j lo len heq
   obtain ⟨ho, rfl, rfl, rfl⟩ := hdst
   rw [heq] at hvx
   have hvx' : Z2 (Tof T0 X) h σ.ob w (.sref u j 0 olds.length) (a.eval x) := hvx
   obtain ⟨_, hfull, _⟩ := hvx'.2.1 _ _ _ ho
   have he : a.eval x = (h u j).v := hfull rfl rfl
   have h0 := r.obj u j
   rw [ho] at h0
   obtain ⟨e, xs, hown, hzz', hal, hn⟩ := h0
   have hob : σ.ob u j ≠ .none := by rw [ho]; simp
   rw [he]
   exact ⟨e, xs, hown, hzz', hal.mono (fun b hb => ⟨⟨(u, j), by simp, hob, hb.1⟩, hb.2⟩), fun b hb => ⟨(u, j), by simp, hob, r.ub u j b hob hb⟩⟩
  ·exact hdst.elim
 obtain ⟨e0, xs, hown, hoz, hoal, hroot⟩ := hdx
 have hflr : ∀ q ∈ olds ++ news, q.length = ti.size := by
  intro q hq
  rcases List.mem_append.1 hq with hq | hq
  ·exact hoz q hq
  ·exact hnz q hq
 have hyl : ys.length = news.length * ti.size := by rw [hyown.1, Z5 news ti.size hnz]
 have hdis : ∀ b, X2 σ h l1 b → X2 σ h (YF rows.flatten) b → False := by
  rintro b ⟨p, hp, hne, hu⟩ ⟨p', hp', hne', hu'⟩
  obtain ⟨e1, e2⟩ := r.inj p.1 p.2 p'.1 p'.2 b hne hne' hu hu'
  have hpp : p = p' := Prod.ext e1 e2
  subst hpp
  exact (List.nodup_append.1 hnd).2.2 p hp p hp' rfl
 have hgiv : ∀ b, X2 σ h (l1 ++ YF rows.flatten) b ↔ X2 σ h l1 b ∨ X2 σ h (YF rows.flatten) b := by
  intro b
  constructor
  ·rintro ⟨p, hp, hr⟩
   rcases List.mem_append.1 hp with hp | hp
   ·exact .inl ⟨p, hp, hr⟩
   ·exact .inr ⟨p, hp, hr⟩
  ·rintro (⟨p, hp, hr⟩ | ⟨p, hp, hr⟩)
   ·exact ⟨p, by simp [hp], hr⟩
   ·exact ⟨p, by simp [hp], hr⟩
 have r1 := r.Zn (l1 ++ YF rows.flatten)
 have hfree := r.KP (l1 ++ YF rows.flatten)
 have hlt := St.J5 hfr
 -- what comes out, in either case
 have key : ∀ (v' : Value) (w' : World) (e1 : TypeId), (Builtin.append_ #[t, t] o.type #[a.eval x, a.eval y]).run P w = .ok v' w' → w'.ownsRow 0 e1 ti.size v' (olds.length + news.length) (xs ++ ys) →
   w.grownBy w' (blk (a.eval x)) → (∀ b, blk v' = some b → (w.heap.size ≤ b ∧ b < w'.heap.size) ∨ blk (a.eval x) = some b) → o.wp P a w K Q := by
  intro v' w' e1 hrun ho' hgr hbv
  unfold Oper.wp
  have hexec : (execOp a.eval o).run P w = .ok (.value v') w' := by
   simp only [execOp, hop, resolve, invoke, builtin, Sem.run_bind, Sem.run_pure, Result.andThen_ok, List.map_toArray, List.map_cons, List.map_nil, hrun]
  rw [hexec, Oper.upon_value, hd]
  refine hK _ _ ⟨X, fun u j => if u = d then ⟨v', fun k => ((xs ++ ys)[k]?).getD undef, fun b => blk v' = some b ∨ (X2 σ h (l1 ++ YF rows.flatten) b ∧ blk (a.eval x) ≠ some b)⟩ else h u j, ?_⟩
   ⟨hgr.os, hgr.tape, hgr.output, hgr.size, fun k hk => hgr.block k (r.hB k hk) (fun e => (hfree k ((hgiv k).2 (.inl (hroot k e.symm)))).1 hk)⟩
  have hob0 : ((σ.Zn (l1 ++ YF rows.flatten)).new d (.one (.sref d 0 0 (olds.length + news.length))) [.arr true ti.size (olds ++ news)]).ob d 0 = .arr true ti.size (olds ++ news) := by rw [St.Qg]; simp [hlt, YD]
  have hown2 : w'.ownsRow 0 e1 ti.size v' (olds ++ news).length (xs ++ ys) := by rw [List.length_append]; exact ho'
  have hkeep : ∀ b, blk (a.eval x) ≠ some b → b < w.heap.size → w'.heap[b]? = w.heap[b]? := fun b hb hl => hgr.block b hl (fun e => hb e.symm)
  have hOw : QK w' (xs ++ ys) (olds ++ news).flatten (fun b => (blk v' = some b ∨ (X2 σ h (l1 ++ YF rows.flatten) b ∧ blk (a.eval x) ≠ some b)) ∧ blk v' ≠ some b) := by
   rw [List.flatten_append]
   have h1 : QK w' xs olds.flatten (fun b => X2 σ h l1 b ∧ blk (a.eval x) ≠ some b) := hoal.VS (fun b hb => hkeep b hb.2 (hfree b ((hgiv b).2 (.inl hb.1))).2.2.1)
   have hne2 : ∀ b, X2 σ h (YF rows.flatten) b → blk (a.eval x) ≠ some b := fun b hb e => hdis b (hroot b e) hb
   have h2 : QK w' ys news.flatten (X2 σ h (YF rows.flatten)) := hyown.VS (fun b hb => hkeep b (hne2 b hb) (hfree b ((hgiv b).2 (.inr hb))).2.2.1)
   refine (h1.append h2 (fun b hb1 hb2 => hdis b hb1.1 hb2)).mono (fun b hb => ?_)
   have hg : X2 σ h (l1 ++ YF rows.flatten) b ∧ blk (a.eval x) ≠ some b := by
    rcases hb with hb | hb
    ·exact ⟨(hgiv b).2 (.inl hb.1), hb.2⟩
    ·exact ⟨(hgiv b).2 (.inr hb), hne2 b hb⟩
   refine ⟨.inr hg, fun e => ?_⟩
   rcases hbv b e with hl | hl
   ·have := (hfree b hg.1).2.2.1; omega
   ·exact hg.2 hl
  refine r1.DC hfr (X2 σ h (l1 ++ YF rows.flatten)) hgr.size (fun k hk hne => hgr.block k hk (fun e => hne ((hgiv k).2 (.inl (hroot k e.symm))))) (fun b hb => ⟨(hfree b hb).1, (hfree b hb).2.1, fun u j _ hne => (hfree b hb).2.2.2 u j hne⟩) (fun _ hb => hb) (fun _ hb => .inl hb) _ _ [.arr true ti.size (olds ++ news)]
   (fun _ => ⟨v', fun k => ((xs ++ ys)[k]?).getD undef, fun b => blk v' = some b ∨ (X2 σ h (l1 ++ YF rows.flatten) b ∧ blk (a.eval x) ≠ some b)⟩) ?_ (fun j => ?_) (fun j b _ hb => .inl hb) (fun j b hne hb' => ?_) (fun j j' b hne hne' _ _ => ?_)
  ·refine ⟨QQ ho', fun q' size' rows' hh => ?_, fun size' rows' hh => by rw [hob0] at hh; cases hh⟩
   rw [hob0] at hh; cases hh
   simp only [if_true, List.length_append]
   have := ql hown2
   rwa [List.length_append] at this
  ·cases j with
   | zero => exact ⟨e1, xs ++ ys, hown2, hflr, hOw, fun k x d hx _ _ => by simp [hx]⟩
   | succ j => simp [YD, Q5]
  ·rcases hb' with hb' | hb'
   ·rcases hbv b hb' with h1 | h1
    ·exact ⟨.inl h1.1, fun hx => by have := (r.hX b hx).2; omega, h1.2⟩
    ·have h3 := (hgiv b).2 (.inl (hroot b h1))
     have h2 := hfree b h3
     exact ⟨.inr h3, h2.2.1, by have := hgr.size; omega⟩
   ·have h2 := hfree b hb'.1
    exact ⟨.inr hb'.1, h2.2.1, by have := hgr.size; omega⟩
  ·have : ∀ j, YD [Ob.arr true ti.size (olds ++ news)] j ≠ .none → j = 0 := by
    intro j hj
    cases j with
    | zero => rfl
    | succ j => simp [YD] at hj
   rw [this j hne, this j' hne']
 rcases hown2.2 with ⟨hn1, hn2⟩ | ⟨g2, cap2, cur2, hv2, _, hg2, hnc2, hmx2, hcs2, htk2⟩
 ·have hrows : rows = [] := List.eq_nil_of_length_eq_zero hn2
  have hnews : news = [] := List.eq_nil_of_length_eq_zero (by rw [← hmv2, hn2])
  have hys : ys = [] := List.eq_nil_of_length_eq_zero (by rw [hyl, hnews]; simp)
  have hform : ∃ base cap, a.eval x = .slice base olds.length cap ∧ olds.length ≤ cap ∧ (base = none → cap = 0) := by
   rcases hown.2 with ⟨h1, h2⟩ | ⟨g, cap, cur, h1, _, _, hnc, _⟩
   ·exact ⟨none, 0, by rw [h1, h2], by omega, fun _ => rfl⟩
   ·exact ⟨_, cap, h1, hnc, (fun hh => by cases hh)⟩
  obtain ⟨base, cap, hex, hnc, hb0⟩ := hform
  refine key (a.eval x) w e0 ?_ (by rw [hys, hnews]; simpa using hown) ⟨rfl, rfl, rfl, Nat.le_refl _, fun _ _ _ => rfl⟩ (fun b hb => .inr hb)
  rw [hey0, hn1]
  rw [hex]
  exact J0 t o.type _ ti hu hi base olds.length cap hnc hb0
 ·have hey : a.eval y = .slice (some ⟨g2, 0, none⟩) news.length cap2 := by rw [hey0, hv2, hmv2]
  have hcell : ∀ j u, ys[j]? = some u → w.cell? ((⟨g2, 0, none⟩ : Addr).add j) = some u := by
   intro j u hu'
   rw [KS]
   refine Jh hg2 _ _ ?_
   rw [← htk2, List.getElem?_take] at hu'
   split at hu'
   ·simpa using hu'
   ·cases hu'
  obtain ⟨v', w', e1, hrun, ho', hgr, hbv⟩ := yI (P := P) (w := w) t o.type _ e0 ti z hu hi hzz hzs (by omega) (a.eval x) olds.length xs hown ⟨g2, 0, none⟩ news.length cap2 ys hyl hcell
   (fun u hu' => by
    obtain ⟨x', _, hx'⟩ := hal2.mem hu'
    exact Z2.Yv hx') (by simp only [maxLen]; omega) hbytes
  refine key v' w' e1 ?_ ho' hgr hbv
  rw [hey]; exact hrun
theorem QK.pick {xs : List Value} {ds : List D} {S : Nat → Prop} (h1 : QK w xs ds S) {p q n : Nat} (hp : p ≤ q) (hq : q + n ≤ xs.length) : QK w (xs.take p ++ cut xs q n) (ds.take p ++ cut ds q n) S := by
 obtain ⟨hl, Sk, hk, hs, hd⟩ := h1
 have hpl : (xs.take p).length = p := by rw [List.length_take]; omega
 have hpd : (ds.take p).length = p := by rw [List.length_take]; omega
 refine ⟨by rw [List.length_append, List.length_append, hpl, hpd, YT _ _ _ hq, YT _ _ _ (by omega)], fun k => if k < p then Sk k else Sk (q + (k - p)), fun k x d hx hd' => ?_, fun k b hb => ?_, fun i j b hi hj => ?_⟩
 ·by_cases hkp : k < p
  ·rw [List.getElem?_append_left (by omega)] at hx hd'
   rw [List.getElem?_take, if_pos hkp] at hx hd'
   simp only [if_pos hkp]
   exact hk k x d hx hd'
  ·rw [List.getElem?_append_right (by omega), hpl] at hx
   rw [List.getElem?_append_right (by omega), hpd] at hd'
   simp only [if_neg hkp]
   exact hk _ x d (J2 _ _ _ _ _ hx) (J2 _ _ _ _ _ hd')
 ·dsimp only at hb
  split at hb <;> exact hs _ b hb
 ·dsimp only at hi hj
  split at hi <;> split at hj
  ·exact hd _ _ b hi hj
  ·have := hd _ _ b hi hj; omega
  ·have := hd _ _ b hi hj; omega
  ·have := hd _ _ b hi hj; omega
theorem Wg (rows : List (List D)) (size : Nat) (hz : ∀ r ∈ rows, r.length = size) (lo n : Nat) (hle : lo + n ≤ rows.length) : (cut rows lo n).flatten = cut rows.flatten (lo * size) (n * size) := by
 have hdz : ∀ r ∈ rows.drop lo, r.length = size := fun r hr => hz r (List.mem_of_mem_drop hr)
 have e1 : (rows.drop lo).flatten = rows.flatten.drop (lo * size) := by
  have h1 := Km rows size hz lo (by omega)
  have h2 : (rows.take lo).flatten ++ (rows.drop lo).flatten = rows.flatten := by rw [← List.flatten_append, List.take_append_drop]
  have h3 : (rows.take lo).flatten.length = lo * size := by rw [Z5 _ size (fun r hr => hz r (List.mem_of_mem_take hr)), List.length_take]; congr 1; omega
  rw [← h2, ← h3, List.drop_left]
 unfold cut
 rw [Km (rows.drop lo) size hdz n (by rw [List.length_drop]; omega), e1]
theorem NF (r : Rel T0 B σ a w X h) {o : Oper} {t : TypeId} {x y : Operand} {d u j len lo n : Nat} {rows : List (List D)} (hop : o.op = .call ⟨.builtin .append, #[x, y], #[t, t]⟩) (hd : o.dst = some d)
  (hgx : gOf (look P σ t x) = true) (hgy : gOf (look P σ t y) = true) (ht : Z9 P t = true) (hz : Zl P (ZK P t) = true) (hpos : 0 < P.cellsOf (ZK P t))
  (hx : unc (look P σ t x) = .one (.sref u j 0 len)) (hy : unc (look P σ t y) = .one (.sref u j lo n)) (ho : σ.ob u j = .arr true (P.cellsOf (ZK P t)) rows) (hle : len ≤ lo) (hle2 : lo + n ≤ rows.length) (hfr : (σ.Zn [(u, j)]).fresh d = true)
  (hbytes : (len + n) * P.bytesOf (ZK P t) ≤ 140737488355328) (hmax : len + n ≤ 9223372036854775807)
  {K : Act → World → Prop} {Q : Exit → Act → World → Prop} (hK : ∀ a' w', Qo T0 B ((σ.Zn [(u, j)]).new d (.one (.sref d 0 0 (len + n))) [.arr true (P.cellsOf (ZK P t)) (rows.take len ++ cut rows lo n)]) a' w' → Yo B w w' → K a' w') : o.wp P a w K Q := by
 obtain ⟨ti, hu, hi, hisz⟩ := Y1 ht
 obtain ⟨i, z, row, hi', hzz, hzr, hsz1, hzs, hsz2, hzal⟩ := KT hz
 rw [hi] at hi'; cases hi'
 have hby : P.bytesOf (ZK P t) = ti.bytes := by simp [Program.bytesOf, hi]
 rw [hby] at hbytes
 rw [← hsz2] at ho hpos hK
 have hvx := r.arg (P := P) t x rfl hgx
 have hvy := r.arg (P := P) t y rfl hgy
 rw [hx] at hvx
 rw [hy] at hvy
 have hvx' : Z2 (Tof T0 X) h σ.ob w (.sref u j 0 len) (a.eval x) := hvx
 have hvy' : Z2 (Tof T0 X) h σ.ob w (.sref u j lo n) (a.eval y) := hvy
 obtain ⟨_, _, hpre, _⟩ := hvx'.2.1 _ _ _ ho
 have he : a.eval x = M0 (h u j).v len := hpre rfl
 obtain ⟨_, _, _, base, cap, hey, hcap, hcm, hnn, hb⟩ := hvy'.2.1 _ _ _ ho
 have h0 := r.obj u j
 rw [ho] at h0
 obtain ⟨e0, zs, hown0, hzz', hal, hn⟩ := h0
 have hob : σ.ob u j ≠ .none := by rw [ho]; simp
 have hzl : zs.length = rows.length * ti.size := hown0.1
 have hm1 : len * ti.size ≤ lo * ti.size := Nat.mul_le_mul_right _ hle
 have hm2 : lo * ti.size + n * ti.size ≤ zs.length := by rw [hzl, ← Nat.add_mul]; exact Nat.mul_le_mul_right _ hle2
 let xs := zs.take (len * ti.size)
 let ys := cut zs (lo * ti.size) (n * ti.size)
 have hown : w.ownsRow 0 e0 ti.size (a.eval x) len xs := by rw [he]; exact Ux hown0 (by omega)
 have hyl : ys.length = n * ti.size := YT _ _ _ hm2
 have hblx : blk (a.eval x) = blk (h u j).v := by rw [he, Mm]
 have hflat : (rows.take len ++ cut rows lo n).flatten = rows.flatten.take (len * ti.size) ++ cut rows.flatten (lo * ti.size) (n * ti.size) := by
  rw [List.flatten_append, Km rows ti.size hzz' len (by omega), Wg rows ti.size hzz' lo n hle2]
 have hflr : ∀ q ∈ rows.take len ++ cut rows lo n, q.length = ti.size := by
  intro q hq
  rcases List.mem_append.1 hq with hq | hq
  ·exact hzz' q (List.mem_of_mem_take hq)
  ·exact hzz' q (List.mem_of_mem_drop (List.mem_of_mem_take hq))
 have hlen : (rows.take len ++ cut rows lo n).length = len + n := by rw [List.length_append, List.length_take, YT _ _ _ hle2]; omega
 have hg0 : ∀ b, (h u j).u b → X2 σ h [(u, j)] b := fun b hb => ⟨(u, j), by simp, hob, hb⟩
 have hroot : ∀ b, blk (a.eval x) = some b → X2 σ h [(u, j)] b := fun b hb => hg0 b (r.ub u j b hob (by rw [← hblx]; exact hb))
 have r1 := r.Zn [(u, j)]
 have hfree := r.KP [(u, j)]
 have hlt := St.J5 hfr
 have key : ∀ (v' : Value) (w' : World) (e1 : TypeId), (Builtin.append_ #[t, t] o.type #[a.eval x, a.eval y]).run P w = .ok v' w' → w'.ownsRow 0 e1 ti.size v' (len + n) (xs ++ ys) →
   w.grownBy w' (blk (a.eval x)) → (∀ b, blk v' = some b → (w.heap.size ≤ b ∧ b < w'.heap.size) ∨ blk (a.eval x) = some b) → o.wp P a w K Q := by
  intro v' w' e1 hrun ho' hgr hbv
  unfold Oper.wp
  have hexec : (execOp a.eval o).run P w = .ok (.value v') w' := by
   simp only [execOp, hop, resolve, invoke, builtin, Sem.run_bind, Sem.run_pure, Result.andThen_ok, List.map_toArray, List.map_cons, List.map_nil, hrun]
  rw [hexec, Oper.upon_value, hd]
  refine hK _ _ ⟨X, fun u' j' => if u' = d then ⟨v', fun k => ((xs ++ ys)[k]?).getD undef, fun b => blk v' = some b ∨ (X2 σ h [(u, j)] b ∧ blk (a.eval x) ≠ some b)⟩ else h u' j', ?_⟩
   ⟨hgr.os, hgr.tape, hgr.output, hgr.size, fun k hk => hgr.block k (r.hB k hk) (fun e => (hfree k (hroot k e.symm)).1 hk)⟩
  have hob0 : ((σ.Zn [(u, j)]).new d (.one (.sref d 0 0 (len + n))) [.arr true ti.size (rows.take len ++ cut rows lo n)]).ob d 0 = .arr true ti.size (rows.take len ++ cut rows lo n) := by rw [St.Qg]; simp [hlt, YD]
  have hown2 : w'.ownsRow 0 e1 ti.size v' (rows.take len ++ cut rows lo n).length (xs ++ ys) := by rw [hlen]; exact ho'
  have hkeep : ∀ b, blk (a.eval x) ≠ some b → b < w.heap.size → w'.heap[b]? = w.heap[b]? := fun b hb hl => hgr.block b hl (fun e => hb e.symm)
  have hOw : QK w' (xs ++ ys) (rows.take len ++ cut rows lo n).flatten (fun b => (blk v' = some b ∨ (X2 σ h [(u, j)] b ∧ blk (a.eval x) ≠ some b)) ∧ blk v' ≠ some b) := by
   rw [hflat]
   have h1 : QK w (xs ++ ys) (rows.flatten.take (len * ti.size) ++ cut rows.flatten (lo * ti.size) (n * ti.size)) (fun b => X2 σ h [(u, j)] b ∧ blk (a.eval x) ≠ some b) :=
    (hal.pick hm1 hm2).mono (fun b hb => ⟨hg0 b hb.1, by rw [hblx]; exact hb.2⟩)
   refine (h1.VS (fun b hb => hkeep b hb.2 (hfree b hb.1).2.2.1)).mono (fun b hb => ⟨.inr hb, fun e => ?_⟩)
   rcases hbv b e with hl | hl
   ·have := (hfree b hb.1).2.2.1; omega
   ·exact hb.2 hl
  refine r1.DC hfr (X2 σ h [(u, j)]) hgr.size (fun k hk hne => hgr.block k hk (fun e => hne (hroot k e.symm))) (fun b hb => ⟨(hfree b hb).1, (hfree b hb).2.1, fun u' j' _ hne => (hfree b hb).2.2.2 u' j' hne⟩) (fun _ hb => hb) (fun _ hb => .inl hb) _ _ [.arr true ti.size (rows.take len ++ cut rows lo n)]
   (fun _ => ⟨v', fun k => ((xs ++ ys)[k]?).getD undef, fun b => blk v' = some b ∨ (X2 σ h [(u, j)] b ∧ blk (a.eval x) ≠ some b)⟩) ?_ (fun j' => ?_) (fun j' b _ hb => .inl hb) (fun j' b hne hb' => ?_) (fun j1 j2 b hne hne' _ _ => ?_)
  ·refine ⟨QQ ho', fun q' size' rows' hh => ?_, fun size' rows' hh => by rw [hob0] at hh; cases hh⟩
   rw [hob0] at hh; cases hh
   simp only [if_true]
   have := ql hown2
   rw [hlen] at this ⊢
   exact this
  ·cases j' with
   | zero => exact ⟨e1, xs ++ ys, hown2, hflr, hOw, fun k x d hx _ _ => by simp [hx]⟩
   | succ j' => simp [YD, Q5]
  ·rcases hb' with hb' | hb'
   ·rcases hbv b hb' with h1 | h1
    ·exact ⟨.inl h1.1, fun hx => by have := (r.hX b hx).2; omega, h1.2⟩
    ·have h3 := hroot b h1
     have h2 := hfree b h3
     exact ⟨.inr h3, h2.2.1, by have := hgr.size; omega⟩
   ·have h2 := hfree b hb'.1
    exact ⟨.inr hb'.1, h2.2.1, by have := hgr.size; omega⟩
  ·have : ∀ j, YD [Ob.arr true ti.size (rows.take len ++ cut rows lo n)] j ≠ .none → j = 0 := by
    intro j hj
    cases j with
    | zero => rfl
    | succ j => simp [YD] at hj
   rw [this j1 hne, this j2 hne']
 cases base with
 | none =>
  have hc0 := hnn rfl
  subst hc0
  have hn0 : n = 0 := by omega
  subst hn0
  have hys : ys = [] := List.eq_nil_of_length_eq_zero (by rw [hyl]; simp)
  have hform : ∃ base cap, a.eval x = .slice base len cap ∧ len ≤ cap ∧ (base = none → cap = 0) := by
   rcases hown.2 with ⟨h1, h2⟩ | ⟨g, cap, cur, h1, _, _, hnc, _⟩
   ·exact ⟨none, 0, by rw [h1, h2], by omega, fun _ => rfl⟩
   ·exact ⟨_, cap, h1, hnc, (fun hh => by cases hh)⟩
  obtain ⟨base, cap, hex, hnc, hb0⟩ := hform
  refine key (a.eval x) w e0 ?_ (by rw [hys]; simpa using hown) ⟨rfl, rfl, rfl, Nat.le_refl _, fun _ _ _ => rfl⟩ (fun b hb => .inr hb)
  rw [hey, hex]
  exact J0 t o.type _ ti hu hi base len cap hnc hb0
 | some ad =>
  have hcell : ∀ k v, ys[k]? = some v → w.cell? (ad.add k) = some v := by
   intro k v hv
   have hnp : 0 < n := by
    rcases Nat.eq_zero_or_pos n with h0 | h0
    ·have hk := (List.getElem?_eq_some_iff.1 hv).1
     rw [hyl, h0] at hk
     simp at hk
    ·exact h0
   obtain ⟨b, cap0, hh, hbase⟩ := hb hnp
   cases hbase
   rcases hown0.2 with ⟨hn1, _⟩ | ⟨g, cap', cur, hv', _, hgg, hnc, hmx, hcs, htk⟩
   ·rw [hh] at hn1; cases hn1
   ·rw [hh] at hv'; cases hv'
    have h1 := J2 _ _ _ _ _ hv
    rw [KS]
    refine Jh hgg _ _ ?_
    rw [← htk, List.getElem?_take] at h1
    split at h1
    ·exact h1
    ·cases h1
  have h1c : ∀ v ∈ ys, v.oneCell' = true := by
   intro v hv
   have hv2 : v ∈ zs := List.mem_of_mem_drop (List.mem_of_mem_take hv)
   obtain ⟨hl, Sk, hk, _⟩ := hal
   obtain ⟨k, hk'⟩ := List.mem_iff_getElem?.1 hv2
   have hlt' : k < rows.flatten.length := by rw [← hl]; exact (List.getElem?_eq_some_iff.1 hk').1
   exact (hk k v _ hk' (List.getElem?_eq_getElem hlt')).Yv
  obtain ⟨v', w', e1, hrun, ho', hgr, hbv⟩ := yI (P := P) (w := w) t o.type _ e0 ti z hu hi hzz hzs (by omega) (a.eval x) len xs hown ad n cap ys hyl hcell h1c (by simp only [maxLen]; omega) hbytes
  refine key v' w' e1 ?_ ho' hgr hbv
  rw [hey]; exact hrun
end
end Go.Vm
namespace Go.Vm
open Go.RowKit
def SL : List At → Bool
 | [] => true
 | .d (.sl _ _) :: _ => false
 | _ :: xs => SL xs
theorem Hy : ∀ {xs : List At}, SL xs = true → ∀ x ∈ xs, ∀ s r, x ≠ .d (.sl s r)
 | [], _, x, hx, _, _ => by cases hx
 | y :: xs, h, x, hx, s, r => by
  have h2 : SL xs = true ∧ ∀ s r, y ≠ .d (.sl s r) := by
   cases y with
   | d z => cases z with
    | sl s r => cases h
    | _ => exact ⟨h, fun s r e => by cases e⟩
   | _ => exact ⟨h, fun s r e => by cases e⟩
  rcases List.mem_cons.1 hx with rfl | hx
  ·exact h2.2 s r
  ·exact Hy h2.1 x hx s r
section
variable {P : Program} {T0 : CS} {B : Nat → Prop} {σ : St} {a : Act} {w w' : World} {X X' : Nat → Prop} {h : Nat → Nat → Hd}
theorem PJ (r : Rel T0 B σ a w X h) {o : Oper} {T : TypeId} {x : Operand} {d : Nat} {k : IntKind} {n : Nat} {z : List At} {zr : List D} (hop : o.op = .makeSlice T x x) (hd : o.dst = some d) (hfr : σ.fresh d = true)
  (ht : Z9 P T = true) (hz : Zl P (ZK P T) = true) (hzr : Yb P 12 (ZK P T) = some z) (hzd : zD z = some zr) (hzf : SL z = true) (hpos : 0 < P.cellsOf (ZK P T)) (hx : qe P σ x k (n : Int)) (hby : P.bytesOf (ZK P T) * n ≤ 281474976710656) (hmax : n ≤ 9223372036854775807)
  {K : Act → World → Prop} {Q : Exit → Act → World → Prop} (hK : ∀ a' w', Qo T0 B (σ.new d (.one (.sref d 0 0 n)) [.arr true (P.cellsOf (ZK P T)) (List.replicate n zr)]) a' w' → Yo B w w' → K a' w') : o.wp P a w K Q := by
 obtain ⟨ti, hu, hi, hisz⟩ := Y1 ht
 obtain ⟨i, zv, row, hi', hzz, hzr', hsz1, hzs, hsz2, hzal⟩ := KT hz
 rw [hi] at hi'; cases hi'
 rw [hzr] at hzr'; cases hzr'
 have hex := KU r hx
 have hby' : (ti.bytes : Int) * (n : Int) ≤ 281474976710656 := by
  have : P.bytesOf (ZK P T) = ti.bytes := by simp [Program.bytesOf, hi]
  rw [this] at hby
  have h : ((ti.bytes * n : Nat) : Int) ≤ 281474976710656 := by omega
  rwa [Int.natCast_mul] at h
 have hrun := run_make (P := P) w T (ZK P T) ti zv hu hi hzz k k n n (by omega) (Int.le_refl _) hby' (by omega)
 simp only [Int.toNat_natCast] at hrun
 unfold Oper.wp
 simp only [execOp, hop, hex, Sem.run_bind, hrun, Result.andThen_ok, Sem.run_pure, Oper.upon_value, hd]
 have hzrd := M7 hzd (hzal (Tof T0 X) h σ.ob w)
 have hzl := hzrd.length
 have e1 : zv.cells.toList.length = zv.cells.size := Array.length_toList
 have hzl2 : zr.length = ti.size := by omega
 have hmlen : (madeCells zv.cells (n * ti.size)).toList.length = n * ti.size := by rw [Array.length_toList, size_madeCells]
 have hmget : ∀ q u, (madeCells zv.cells (n * ti.size)).toList[q]? = some u → zv.cells.toList[q % ti.size]? = some u := by
  intro q u hq
  have hlt : q < n * ti.size := by have := (List.getElem?_eq_some_iff.1 hq).1; omega
  have hmod : q % ti.size < zv.cells.size := by rw [hzs]; exact Nat.mod_lt _ (by omega)
  have : (madeCells zv.cells (n * ti.size)).toList[q]? = some (zv.cells[q % zv.cells.size]!) := by
   simp [madeCells, hlt]
  rw [this] at hq
  cases hq
  rw [hzs]
  simp [hmod]
 have hal2 : QK (w.alloc (.cells (madeCells zv.cells (n * ti.size)) (ZK P T))) (madeCells zv.cells (n * ti.size)).toList (List.replicate n zr).flatten (fun _ => False) := by
  refine ⟨by rw [hmlen, Z5 _ ti.size (by intro q hq; rw [List.eq_of_mem_replicate hq]; exact hzl2)]; simp, fun _ _ => False, fun q u dd hq hdd => ?_, fun _ _ hb => hb, fun _ _ _ hb => hb.elim⟩
  have hlt : q < n * ti.size := by have := (List.getElem?_eq_some_iff.1 hq).1; omega
  rw [yb zr n q (by rw [hzl2]; exact hlt), hzl2] at hdd
  exact G3 hzd (hzal (Tof T0 X) h σ.ob w) (Hy hzf) _ _ _ u dd (hmget q u hq) hdd
 have := r.Dt hfr (World.grownBy_alloc w (.cells (madeCells zv.cells (n * ti.size)) (ZK P T)) none) (.slice (some ⟨w.heap.size, 0, none⟩) n n) (e := ZK P T) (size := P.cellsOf (ZK P T)) (rows := List.replicate n zr) (xs := (madeCells zv.cells (n * ti.size)).toList)
  ⟨by rw [hmlen, hsz2]; simp, .inr ⟨w.heap.size, n, _, by simp, Nat.zero_le _, heap_alloc_new w _, by simp, by simp only [maxLen]; omega, by rw [size_madeCells, hsz2], by rw [List.take_of_length_le (by rw [hmlen, hsz2]; simp)]⟩⟩
  (by intro q hq; rw [List.eq_of_mem_replicate hq]; omega) hal2
  (fun b hb => by simp [blk] at hb; subst hb; exact ⟨Nat.le_refl _, by simp⟩)
 rw [List.length_replicate] at this
 exact hK _ _ this.1 this.2
theorem QK.place {xs ys : List Value} {ds es : List D} {S S' : Nat → Prop} (h1 : QK w xs ds S) (h2 : QK w ys es S') (hd : ∀ b, S b → S' b → False) (o : Nat) (ho : o + ys.length ≤ xs.length) : QK w (Vm.place xs o ys) (Vm.place ds o es) (fun b => S b ∨ S' b) := by
 obtain ⟨l1, Sk, a1, a2, a3⟩ := h1
 obtain ⟨l2, Sk', b1, b2, b3⟩ := h2
 refine ⟨by rw [XB _ _ _ ho, XB _ _ _ (by omega), l1], fun k => if o ≤ k ∧ k < o + ys.length then Sk' (k - o) else Sk k, fun k x d hx hd' => ?_, fun k b hb => ?_, fun i j b hi hj => ?_⟩
 ·rcases yr xs o ys ho k x hx with ⟨p1, p2, p3⟩ | ⟨p1, p3⟩
  ·rcases yr ds o es (by omega) k d hd' with ⟨_, _, p4⟩ | ⟨p4, _⟩
   ·simp only [p1, p2, and_self, if_true]; exact b1 _ x d p3 p4
   ·exact absurd ⟨p1, by omega⟩ p4
  ·rcases yr ds o es (by omega) k d hd' with ⟨p4, p5, _⟩ | ⟨_, p4⟩
   ·exact absurd ⟨p4, by omega⟩ p1
   ·simp only [p1, if_false]; exact a1 k x d p3 p4
 ·by_cases hk : o ≤ k ∧ k < o + ys.length
  ·simp only [hk, and_self, if_true] at hb; exact .inr (b2 _ b hb)
  ·simp only [hk, if_false] at hb; exact .inl (a2 k b hb)
 ·by_cases hi' : o ≤ i ∧ i < o + ys.length
  ·simp only [hi', and_self, if_true] at hi
   by_cases hj' : o ≤ j ∧ j < o + ys.length
   ·simp only [hj', and_self, if_true] at hj
    have := b3 _ _ b hi hj; omega
   ·simp only [hj', if_false] at hj; exact (hd b (a2 j b hj) (b2 _ b hi)).elim
  ·simp only [hi', if_false] at hi
   by_cases hj' : o ≤ j ∧ j < o + ys.length
   ·simp only [hj', and_self, if_true] at hj; exact (hd b (a2 i b hi) (b2 _ b hj)).elim
   ·simp only [hj', if_false] at hj; exact a3 i j b hi hj
theorem Rn (r : Rel T0 B σ a w X h) {o : Oper} {T : TypeId} {x y : Operand} (hop : o.op = .store T x y) (hd : o.dst = none) (ht : Yd P T = true) (hgx : gOf (look P σ 0 x) = true) (hgy : gOf (look P σ T y) = true)
  {t j i c : Nat} (hx : unc (look P σ 0 x) = .one (.ptr t j i c)) {size : Nat} {rows : List (List D)} (ho : σ.ob t j = .arr true size rows) (hi : i < rows.length) {ds : List D} (hfl : (unc (look P σ T y)).flat = true) (hds : X1 σ (unc (look P σ T y)).cells = some ds) (hok : X0 σ (unc (look P σ T y)).cells)
  (hnd : (YF (unc (look P σ T y)).cells).Nodup) (hnt : (t, j) ∉ YF (unc (look P σ T y)).cells) (htr : (σ.Zn (YF (unc (look P σ T y)).cells)).J9 (At.isT t) = false) (hl : ds.length = P.cellsOf T) (hle : c + P.cellsOf T ≤ size)
  {K : Act → World → Prop} {Q : Exit → Act → World → Prop} (hK : ∀ a' w', Qo T0 B ((σ.Zn (YF (unc (look P σ T y)).cells)).Zt t j (.arr true size (rows.set i (place (rows.getD i []) c ds)))) a' w' → Yo B w w' → K a' w') : o.wp P a w K Q := by
 obtain ⟨_, ti, _, hti, _, _⟩ := qQ ht
 have hax := r.arg (P := P) 0 x hx hgx
 obtain ⟨b, cap, cur, e, xs, hb, he, hh, hcap, hmx, hcs, htk, hz, hxl0, _, hown⟩ := r.arr ho hax
 obtain ⟨hown, hn⟩ := hown rfl
 have hy := qJ hfl (r.arg (P := P) T y rfl hgy)
 have hyown := SC r hy hds hok hnd
 have hyl := hyown.1
 have e2 : (a.eval y).cells.toList.length = (a.eval y).cells.size := Array.length_toList
 have e3 : cur.toList.length = cur.size := Array.length_toList
 have hrow : rows[i]? = some (rows.getD i []) := by simp [List.getD_eq_getElem?_getD, List.getElem?_eq_getElem hi]
 have hmul : i * size + size ≤ rows.length * size := by rw [← Nat.succ_mul]; exact Nat.mul_le_mul_right _ hi
 have hcap2 : rows.length * size ≤ cap * size := Nat.mul_le_mul_right _ hcap
 have hrun := run_store (P := P) (w := w) hti (o := i * size + c) (val := a.eval y) hh (by omega) (by omega) (fun u hu => by obtain ⟨x', _, hx'⟩ := hy.mem hu; exact Z2.Yv hx')
 have hob : σ.ob t j ≠ .none := by rw [ho]; simp
 have hblk : blk (h t j).v = some b := by rw [hb]; rfl
 have hB := r.Et hob hblk
 have hub := r.ub t j b hob hblk
 have hxl : xs.length = rows.length * size := by rw [hxl0, Z5 rows size hz]
 have hrl : (rows.getD i []).length = size := hz _ (List.mem_of_getElem? hrow)
 generalize hL : YF (unc (look P σ T y)).cells = L at *
 have r1 := r.Zn L
 have hob1 : (σ.Zn L).ob t j = .arr true size rows := by rw [St.JR, if_neg hnt, ho]
 have hfree := r.KP L
 have hdis : ∀ b', (h t j).u b' → X2 σ h L b' → False := by
  rintro b' hu' ⟨p, hp, hne, hup⟩
  obtain ⟨q1, q2⟩ := r.inj t j p.1 p.2 b' hob hne hu' hup
  exact hnt (by rw [q1, q2]; exact hp)
 unfold Oper.wp
 simp only [execOp, hop, he, Sem.run_bind, hrun, Result.andThen_ok, Sem.run_pure, Oper.upon_skip, hd]
 refine hK _ _ ⟨X, _, r1.change (by rw [hob1]; simp) (by simp [World.setRow]) (fun k hk => setRow_other w b k _ (fun e => hk (e ▸ hub))) (X2 σ h L) (fun b' hb' => hfree b' hb') _ (by rw [hob1]; simp [Ob.F8])
  ⟨(h t j).v, fun k => ((place xs (i * size + c) (a.eval y).cells.toList)[k]?).getD undef, fun b' => (h t j).u b' ∨ X2 σ h L b'⟩ rfl (fun b' hb' => hb') (fun b' hb' => .inl (r.ub t j b' hob hb')) (At.isT t) htr (.inl (fun u i c => by simp [At.isT])) ?_⟩ (Yo.setRow hB.1 _)
 have hnewheap := setRow_heap w b cur (place cur.toList (i * size + c) (a.eval y).cells.toList).toArray e (0, 0) hh
 have hkeep : ∀ b', b' ≠ b → (w.setRow b (place cur.toList (i * size + c) (a.eval y).cells.toList).toArray).heap[b']? = w.heap[b']? := fun b' hne => setRow_other w b b' _ hne
 have hz' : ∀ r ∈ rows.set i (place (rows.getD i []) c ds), r.length = size := by
  intro r' hr'
  rcases List.mem_or_eq_of_mem_set hr' with hr' | hr'
  ·exact hz r' hr'
  ·rw [hr', XB _ _ _ (by omega), hrl]
 refine ⟨e, place xs (i * size + c) (a.eval y).cells.toList, ⟨?_, .inr ⟨b, cap, _, by simpa using hb, Nat.zero_le _, hnewheap, by simpa using hcap, hmx, ?_, ?_⟩⟩, hz', ?_, fun k u d hu _ _ => by simp [hu]⟩
 ·rw [XB _ _ _ (by omega), hxl]; simp
 ·simp only [List.size_toArray]
  rw [XB _ _ _ (by omega), e3, hcs]
 ·simp only [List.length_set]
  rw [O2 _ _ _ _ (by omega) (by omega), htk]
 ·rw [zB size c ds (by omega) rows i _ hrow hz]
  have k1 : QK (w.setRow b (place cur.toList (i * size + c) (a.eval y).cells.toList).toArray) xs rows.flatten (fun b => (h t j).u b ∧ blk (h t j).v ≠ some b) := hown.VS (fun b' hb' => hkeep b' (fun e => hb'.2 (by rw [e]; exact hblk)))
  have k2 : QK (w.setRow b (place cur.toList (i * size + c) (a.eval y).cells.toList).toArray) (a.eval y).cells.toList ds (X2 σ h L) := hyown.VS (fun b' hb' => hkeep b' (fun e => hdis b' (by rw [e]; exact hub) hb'))
  refine (k1.place k2 (fun b' h1 h2 => hdis b' h1.1 h2) _ (by omega)).mono (fun b' hb' => ?_)
  rcases hb' with hb' | hb'
  ·exact ⟨.inl hb'.1, hb'.2⟩
  ·exact ⟨.inr hb', fun e => hdis b' (r.ub t j b' hob e) hb'⟩
end
theorem Wc {α β : Type} (f : α → β) (l : List α) (k : Nat) : cut (l.map f) k (l.length - k) = (l.drop k).map f := by
 unfold cut
 rw [← List.map_drop, ← List.map_take, List.take_of_length_le (by rw [List.length_drop]; exact Nat.le_refl _)]
def hol : D → D
 | .sl _ _ => .unk
 | d => d
def Xm (rows : List (List D)) (lo n : Nat) : List (List D) := rows.take lo ++ (cut rows lo n).map (fun r => r.map hol) ++ rows.drop (lo + n)
theorem Kg {rows : List (List D)} {lo n : Nat} (h : lo + n ≤ rows.length) : (Xm rows lo n).length = rows.length := by
 simp only [Xm, List.length_append, List.length_map, List.length_take, List.length_drop, YT _ _ _ h]; omega
theorem Sn {rows : List (List D)} {lo n lo' n' : Nat} (h : lo + n ≤ rows.length) (h' : lo + n ≤ lo') : cut (Xm rows lo n) lo' n' = cut rows lo' n' := by
 unfold cut
 congr 1
 have hl : (rows.take lo ++ (cut rows lo n).map (fun r => r.map hol)).length = lo + n := by
  simp only [List.length_append, List.length_map, List.length_take, YT _ _ _ h]; omega
 unfold Xm
 rw [List.drop_append, List.drop_eq_nil_of_le (by omega), hl, List.drop_drop, List.nil_append]
 congr 1
 omega
section
variable {P : Program} {T0 : CS} {B : Nat → Prop} {σ : St} {a : Act} {w w' : World} {X X' : Nat → Prop} {h : Nat → Nat → Hd}
theorem Own.Dx {v : Value} {d : D} {S S' : Nat → Prop} (hs : d.scalar = true) (ho : Own w v d S) : Own w v d S' := by
 cases ho with
 | int k n => exact .int _ _ _
 | bool b => exact .bool _ _
 | str s => exact .str _ _
 | unk v h => exact .unk _ h _
 | sl => cases hs
theorem Own.hol {v : Value} {d : D} {S S' : Nat → Prop} (ho : Own w v d S) : Own w v (Vm.hol d) S' := by
 cases d with
 | sl s r => exact .unk _ ho.Yv _
 | int k n => exact ho.Dx rfl
 | bool b => exact ho.Dx rfl
 | str s => exact ho.Dx rfl
 | unk => exact ho.Dx rfl
theorem Gl (d : D) : (hol d).scalar = true := by cases d <;> rfl
theorem Sl {rows : List (List D)} {size lo n : Nat} (hz : ∀ r ∈ rows, r.length = size) (hle : lo + n ≤ rows.length) {k : Nat} {d : D} (hd : (Xm rows lo n).flatten[k]? = some d) :
  (lo * size ≤ k ∧ k < lo * size + n * size ∧ ∃ d', rows.flatten[k]? = some d' ∧ d = hol d') ∨ (¬ (lo * size ≤ k ∧ k < lo * size + n * size) ∧ rows.flatten[k]? = some d) := by
 have hfl : rows.flatten.length = rows.length * size := Z5 rows size hz
 have hm : lo * size + n * size ≤ rows.length * size := by rw [← Nat.add_mul]; exact Nat.mul_le_mul_right _ hle
 have e1 : (rows.take lo).flatten = rows.flatten.take (lo * size) := Km rows size hz lo (by omega)
 have e2 : ((cut rows lo n).map (fun r => r.map hol)).flatten = (cut rows.flatten (lo * size) (n * size)).map hol := by
  rw [← Wg rows size hz lo n hle, List.map_flatten]
 have l1 : ((rows.take lo).flatten).length = lo * size := by rw [e1, List.length_take]; omega
 have l2 : (((cut rows lo n).map (fun r => r.map hol)).flatten).length = n * size := by rw [e2, List.length_map, YT _ _ _ (by omega)]
 unfold Xm at hd
 rw [List.flatten_append, List.flatten_append] at hd
 by_cases h1 : k < lo * size + n * size
 ·rw [List.getElem?_append_left (by rw [List.length_append, l1, l2]; exact h1)] at hd
  by_cases h0 : k < lo * size
  ·rw [List.getElem?_append_left (by rw [l1]; exact h0), e1, List.getElem?_take, if_pos h0] at hd
   exact .inr ⟨by omega, hd⟩
  ·rw [List.getElem?_append_right (by rw [l1]; omega), l1, e2, List.getElem?_map] at hd
   cases hc : (cut rows.flatten (lo * size) (n * size))[k - lo * size]? with
   | none => rw [hc] at hd; cases hd
   | some d' =>
    rw [hc] at hd
    have := J2 _ _ _ _ _ hc
    rw [show lo * size + (k - lo * size) = k by omega] at this
    exact .inl ⟨by omega, h1, d', this, (by cases hd; rfl)⟩
 ·rw [List.getElem?_append_right (by rw [List.length_append, l1, l2]; omega), List.length_append, l1, l2] at hd
  have e3 : (rows.drop (lo + n)).flatten = rows.flatten.drop (lo * size + n * size) := by
   have h2 : (rows.take (lo + n)).flatten ++ (rows.drop (lo + n)).flatten = rows.flatten := by rw [← List.flatten_append, List.take_append_drop]
   have h3 : (rows.take (lo + n)).flatten.length = lo * size + n * size := by rw [Km rows size hz (lo + n) hle, List.length_take, Nat.add_mul]; omega
   rw [← h2, ← h3, List.drop_left]
  rw [e3, List.getElem?_drop, show lo * size + n * size + (k - (lo * size + n * size)) = k by omega] at hd
  exact .inr ⟨by omega, hd⟩
theorem Rel.DZ (r : Rel T0 B σ a w X h) {u j size lo n : Nat} {rows : List (List D)} (ho : σ.ob u j = .arr true size rows) (hle : lo + n ≤ rows.length) :
  ∃ (h' : Nat → Nat → Hd) (M : Nat → Prop) (e : TypeId) (zs : List Value), Rel T0 B (σ.Zt u j (.arr true size (Xm rows lo n))) a w X h' ∧
   (∀ b, M b → ¬ B b ∧ ¬ X b ∧ b < w.heap.size ∧ ∀ t i, (σ.Zt u j (.arr true size (Xm rows lo n))).ob t i ≠ .none → ¬ (h' t i).u b) ∧ (∀ t i, (h' t i).v = (h t i).v) ∧
   w.ownsRow 0 e size (h u j).v rows.length zs ∧ (∀ q ∈ rows, q.length = size) ∧ QK w (cut zs (lo * size) (n * size)) (cut rows lo n).flatten M ∧ (∀ v ∈ zs, v.oneCell' = true) := by
 have hob : σ.ob u j ≠ .none := by rw [ho]; simp
 have h0 := r.obj u j
 rw [ho] at h0
 obtain ⟨e, zs, how, hz, ⟨hl0, Sk, o1, o2, o3⟩, hn⟩ := h0
 have hfl : rows.flatten.length = rows.length * size := Z5 rows size hz
 have hm : lo * size + n * size ≤ rows.length * size := by rw [← Nat.add_mul]; exact Nat.mul_le_mul_right _ hle
 let M : Nat → Prop := fun b => ∃ k, lo * size ≤ k ∧ k < lo * size + n * size ∧ Sk k b
 let hd' : Hd := ⟨(h u j).v, (h u j).n, fun b => (h u j).u b ∧ ¬ M b⟩
 have hMu : ∀ b, M b → (h u j).u b ∧ blk (h u j).v ≠ some b := fun b ⟨k, _, _, hk⟩ => o2 k b hk
 have hz' : ∀ q ∈ Xm rows lo n, q.length = size := by
  intro q hq
  simp only [Xm, List.mem_append, List.mem_map] at hq
  rcases hq with (hq | ⟨q', hq, rfl⟩) | hq
  ·exact hz q (List.mem_of_mem_take hq)
  ·rw [List.length_map]; exact hz q' (List.mem_of_mem_drop (List.mem_of_mem_take hq))
  ·exact hz q (List.mem_of_mem_drop hq)
 have hr := r.change (w' := w) hob rfl (fun _ _ => rfl) (fun _ => False) (fun _ hh => hh.elim) (.arr true size (Xm rows lo n)) (by rw [ho]; exact ⟨rfl, rfl, (Kg hle).symm⟩) hd' rfl (fun b hb => .inl hb.1)
  (fun b hb => ⟨r.ub u j b hob hb, fun hb' => (hMu b hb').2 hb⟩) (fun _ => false) (St.zT σ) (.inr rfl) (by
   refine ⟨e, zs, by rw [Kg hle]; exact how, hz', ⟨?_, fun k => if lo * size ≤ k ∧ k < lo * size + n * size then (fun _ => False) else Sk k, fun k x d hx hd => ?_, fun k b hb => ?_, fun k k' b hb hb' => ?_⟩, fun k x d hx hd hsc => ?_⟩
   ·rw [hl0, Z5 _ size hz', Kg hle, hfl]
   ·rcases Sl hz hle hd with ⟨h1, h2, d', h3, rfl⟩ | ⟨h1, h2⟩
    ·exact (o1 k x d' hx h3).hol
    ·simp only [h1, if_false]; exact o1 k x d hx h2
   ·dsimp only at hb
    split at hb
    ·exact hb.elim
    ·rename_i hk
     refine ⟨⟨(o2 k b hb).1, fun ⟨k', h1, h2, h3⟩ => ?_⟩, (o2 k b hb).2⟩
     have := o3 k k' b hb h3
     subst this
     exact hk ⟨h1, h2⟩
   ·dsimp only at hb hb'
    split at hb
    ·exact hb.elim
    ·split at hb'
     ·exact hb'.elim
     ·exact o3 k k' b hb hb'
   ·rcases Sl hz hle hd with ⟨h1, h2, d', h3, rfl⟩ | ⟨h1, h2⟩
    ·rw [Gl] at hsc; cases hsc
    ·exact hn k x d hx h2 hsc)
 have hfc : (cut rows lo n).flatten = cut rows.flatten (lo * size) (n * size) := Wg rows size hz lo n hle
 refine ⟨_, M, e, zs, hr, fun b hb => ?_, fun t i => ?_, how, hz, ?_, fun v hv => ?_⟩
 ·have h1 := r.own u j b hob (hMu b hb).1
  refine ⟨h1.1, h1.2.1, h1.2.2, fun t i hne hb' => ?_⟩
  split at hb'
  ·exact hb'.2 hb
  ·rename_i hc
   have hne' : σ.ob t i ≠ .none := by
    rw [St.XX σ u j _ t i hob, if_neg hc] at hne; exact hne
   exact hc (r.inj t i u j b hne' hob hb' (hMu b hb).1)
 ·split
  ·rename_i hc; rw [hc.1, hc.2]
  ·rfl
 ·rw [hfc]
  have hcl : (cut zs (lo * size) (n * size)).length = n * size := YT _ _ _ (by rw [hl0, hfl]; exact hm)
  refine ⟨by rw [hcl, YT _ _ _ (by rw [hfl]; exact hm)], fun k b => k < n * size ∧ Sk (lo * size + k) b, fun k x d hx hd => ?_, fun k b hb => ⟨lo * size + k, by omega, by omega, hb.2⟩, fun i k b hi hk => by have := o3 _ _ b hi.2 hk.2; omega⟩
  have hk : k < n * size := by rw [← hcl]; exact (List.getElem?_eq_some_iff.1 hx).1
  exact (o1 _ x d (J2 _ _ _ _ _ hx) (J2 _ _ _ _ _ hd)).mono (fun b hb => ⟨hk, hb⟩)
 ·obtain ⟨k, hk⟩ := List.mem_iff_getElem?.1 hv
  have hlt : k < rows.flatten.length := by rw [← hl0]; exact (List.getElem?_eq_some_iff.1 hk).1
  exact (o1 k v _ hk (List.getElem?_eq_getElem hlt)).Yv
def HC (σ : St) (x : V) (size : Nat) (olds : List (List D)) (l : List (Nat × Nat)) : Prop :=
 match x with
 | .one (.nil _) => olds = [] ∧ l = []
 | .one (.sref t j lo len) => lo = 0 ∧ len = olds.length ∧ l = [(t, j)] ∧ (σ.ob t j = .arr true size olds ∨ (σ.ob t j = .lit size [] ∧ olds = []))
 | _ => False
theorem MG (r : Rel T0 B σ a w X h) {o : Oper} {t : TypeId} {x y : Operand} {d u j lo n : Nat} {rows olds : List (List D)} {l1 : List (Nat × Nat)} (hop : o.op = .call ⟨.builtin .append, #[x, y], #[t, t]⟩) (hd : o.dst = some d)
  (hgx : gOf (look P σ t x) = true) (hgy : gOf (look P σ t y) = true) (ht : Z9 P t = true) (hz : Zl P (ZK P t) = true) (hpos : 0 < P.cellsOf (ZK P t))
  (hdst : HC σ (unc (look P σ t x)) (P.cellsOf (ZK P t)) olds l1) (hy : unc (look P σ t y) = .one (.sref u j lo n)) (ho : σ.ob u j = .arr true (P.cellsOf (ZK P t)) rows) (hle : lo + n ≤ rows.length) (hnm : (u, j) ∉ l1)
  (hfr : ((σ.Zt u j (.arr true (P.cellsOf (ZK P t)) (Xm rows lo n))).Zn l1).fresh d = true)
  (hbytes : (olds.length + n) * P.bytesOf (ZK P t) ≤ 140737488355328) (hmax : olds.length + n ≤ 9223372036854775807)
  {K : Act → World → Prop} {Q : Exit → Act → World → Prop} (hK : ∀ a' w', Qo T0 B (((σ.Zt u j (.arr true (P.cellsOf (ZK P t)) (Xm rows lo n))).Zn l1).new d (.one (.sref d 0 0 (olds.length + n))) [.arr true (P.cellsOf (ZK P t)) (olds ++ cut rows lo n)]) a' w' → Yo B w w' → K a' w') : o.wp P a w K Q := by
 obtain ⟨ti, hu, hi, hisz⟩ := Y1 ht
 obtain ⟨i, z, row, hi', hzz, hzr, hsz1, hzs, hsz2, hzal⟩ := KT hz
 rw [hi] at hi'; cases hi'
 have hby : P.bytesOf (ZK P t) = ti.bytes := by simp [Program.bytesOf, hi]
 rw [hby] at hbytes
 rw [← hsz2] at ho hpos hK hfr hdst
 have hvx := r.arg (P := P) t x rfl hgx
 have hvy := r.arg (P := P) t y rfl hgy
 rw [hy] at hvy
 have hvy' : Z2 (Tof T0 X) h σ.ob w (.sref u j lo n) (a.eval y) := hvy
 obtain ⟨_, _, _, base, cap, hey, hcap, hcm, hnn, hb⟩ := hvy'.2.1 _ _ _ ho
 obtain ⟨h', M, e0, zs, r0, hM, hv', how0, hzz', hyown, h1c⟩ := r.DZ ho hle
 have hob : σ.ob u j ≠ .none := by rw [ho]; simp
 generalize hσ1 : σ.Zt u j (.arr true ti.size (Xm rows lo n)) = σ1 at *
 have hob1 : ∀ t' i', ¬ (t' = u ∧ i' = j) → σ1.ob t' i' = σ.ob t' i' := fun t' i' hne => by rw [← hσ1, St.XX σ u j _ t' i' hob, if_neg hne]
 have hzl : zs.length = rows.length * ti.size := how0.1
 have hm2 : lo * ti.size + n * ti.size ≤ zs.length := by rw [hzl, ← Nat.add_mul]; exact Nat.mul_le_mul_right _ hle
 generalize hys : cut zs (lo * ti.size) (n * ti.size) = ys at *
 have hyl : ys.length = n * ti.size := by rw [← hys]; exact YT _ _ _ hm2
 have hcl : (cut rows lo n).length = n := YT _ _ _ hle
 have hnz : ∀ q ∈ cut rows lo n, q.length = ti.size := fun q hq => hzz' q (List.mem_of_mem_drop (List.mem_of_mem_take hq))
 -- the destination
 have hdx : ∃ e1 xs, w.ownsRow 0 e1 ti.size (a.eval x) olds.length xs ∧ (∀ q ∈ olds, q.length = ti.size) ∧ QK w xs olds.flatten (fun b => X2 σ1 h' l1 b ∧ blk (a.eval x) ≠ some b) ∧ (∀ b, blk (a.eval x) = some b → X2 σ1 h' l1 b) := by
  unfold HC at hdst
  split at hdst
  ·rename_i s heq
   obtain ⟨rfl, rfl⟩ := hdst
   rw [heq] at hvx
   have he : a.eval x = .slice none 0 0 := hvx
   rw [he]
   exact ⟨0, [], World.ownsRow_nil w 0 0 _, (by intro q hq; cases hq), QK.nil _, (fun b hb => by cases hb)⟩
  ·rename_i u2 j2 lo2 len2 heq
   obtain ⟨rfl, rfl, rfl, ho2⟩ := hdst
   rw [heq] at hvx
   have hvx' : Z2 (Tof T0 X) h σ.ob w (.sref u2 j2 0 olds.length) (a.eval x) := hvx
   have hne : ¬ (u2 = u ∧ j2 = j) := fun hc => hnm (by rw [hc.1, hc.2]; simp)
   have h0 := r0.obj u2 j2
   rw [hob1 u2 j2 hne] at h0
   rcases ho2 with ho2 | ⟨ho2, rfl⟩
   ·obtain ⟨_, hfull, _⟩ := hvx'.2.1 _ _ _ ho2
    have he : a.eval x = (h' u2 j2).v := by rw [hv']; exact hfull rfl rfl
    rw [ho2] at h0
    obtain ⟨e, xs, hown, hz2, hal, hn⟩ := h0
    have hne1 : σ1.ob u2 j2 ≠ .none := by rw [hob1 u2 j2 hne, ho2]; simp
    rw [he]
    exact ⟨e, xs, hown, hz2, hal.mono (fun b hb => ⟨⟨(u2, j2), by simp, hne1, hb.1⟩, hb.2⟩), fun b hb => ⟨(u2, j2), by simp, hne1, r0.ub u2 j2 b hne1 hb⟩⟩
   ·obtain ⟨_, hfull, _⟩ := hvx'.2.2 _ _ ho2
    have he : a.eval x = (h' u2 j2).v := by rw [hv']; exact hfull rfl rfl
    rw [ho2] at h0
    obtain ⟨e, xs, hown, hz2, hal⟩ := h0
    have hne1 : σ1.ob u2 j2 ≠ .none := by rw [hob1 u2 j2 hne, ho2]; simp
    have hxs : xs = [] := by cases hal; rfl
    subst hxs
    rw [he]
    exact ⟨e, [], hown, (by intro q hq; cases hq), QK.nil _, fun b hb => ⟨(u2, j2), by simp, hne1, r0.ub u2 j2 b hne1 hb⟩⟩
  ·exact hdst.elim
 obtain ⟨e1, xs, hown, hoz, hoal, hroot⟩ := hdx
 have hflr : ∀ q ∈ olds ++ cut rows lo n, q.length = ti.size := by
  intro q hq
  rcases List.mem_append.1 hq with hq | hq
  ·exact hoz q hq
  ·exact hnz q hq
 have hdis : ∀ b, X2 σ1 h' l1 b → M b → False := by
  rintro b ⟨p, hp, hne, hu'⟩ hb
  exact (hM b hb).2.2.2 p.1 p.2 hne hu'
 have r1 := r0.Zn l1
 have hfree := r0.KP l1
 have hlt := St.J5 hfr
 let N : Nat → Prop := fun b => X2 σ1 h' l1 b ∨ M b
 have hN : ∀ b, N b → ¬ B b ∧ ¬ X b ∧ b < w.heap.size ∧ ∀ u' i', (σ1.Zn l1).ob u' i' ≠ .none → ¬ (h' u' i').u b := by
  rintro b (hb | hb)
  ·exact hfree b hb
  ·obtain ⟨q1, q2, q3, q4⟩ := hM b hb
   refine ⟨q1, q2, q3, fun u' i' hne => q4 u' i' ?_⟩
   rw [St.JR] at hne
   split at hne
   ·exact absurd rfl hne
   ·exact hne
 have key : ∀ (v' : Value) (w' : World) (e2 : TypeId), (Builtin.append_ #[t, t] o.type #[a.eval x, a.eval y]).run P w = .ok v' w' → w'.ownsRow 0 e2 ti.size v' (olds.length + n) (xs ++ ys) →
   w.grownBy w' (blk (a.eval x)) → (∀ b, blk v' = some b → (w.heap.size ≤ b ∧ b < w'.heap.size) ∨ blk (a.eval x) = some b) → o.wp P a w K Q := by
  intro v' w' e2 hrun ho' hgr hbv
  unfold Oper.wp
  have hexec : (execOp a.eval o).run P w = .ok (.value v') w' := by
   simp only [execOp, hop, resolve, invoke, builtin, Sem.run_bind, Sem.run_pure, Result.andThen_ok, List.map_toArray, List.map_cons, List.map_nil, hrun]
  rw [hexec, Oper.upon_value, hd]
  refine hK _ _ ⟨X, fun u' j' => if u' = d then ⟨v', fun k => ((xs ++ ys)[k]?).getD undef, fun b => blk v' = some b ∨ (N b ∧ blk (a.eval x) ≠ some b)⟩ else h' u' j', ?_⟩
   ⟨hgr.os, hgr.tape, hgr.output, hgr.size, fun k hk => hgr.block k (r.hB k hk) (fun e => (hN k (.inl (hroot k e.symm))).1 hk)⟩
  have hob0 : ((σ1.Zn l1).new d (.one (.sref d 0 0 (olds.length + n))) [.arr true ti.size (olds ++ cut rows lo n)]).ob d 0 = .arr true ti.size (olds ++ cut rows lo n) := by rw [St.Qg]; simp [hlt, YD]
  have hlen2 : (olds ++ cut rows lo n).length = olds.length + n := by rw [List.length_append, hcl]
  have hown2 : w'.ownsRow 0 e2 ti.size v' (olds ++ cut rows lo n).length (xs ++ ys) := by rw [hlen2]; exact ho'
  have hkeep : ∀ b, blk (a.eval x) ≠ some b → b < w.heap.size → w'.heap[b]? = w.heap[b]? := fun b hb hl => hgr.block b hl (fun e => hb e.symm)
  have hOw : QK w' (xs ++ ys) (olds ++ cut rows lo n).flatten (fun b => (blk v' = some b ∨ (N b ∧ blk (a.eval x) ≠ some b)) ∧ blk v' ≠ some b) := by
   rw [List.flatten_append]
   have h1 : QK w' xs olds.flatten (fun b => X2 σ1 h' l1 b ∧ blk (a.eval x) ≠ some b) := hoal.VS (fun b hb => hkeep b hb.2 (hfree b hb.1).2.2.1)
   have hne2 : ∀ b, M b → blk (a.eval x) ≠ some b := fun b hb e => hdis b (hroot b e) hb
   have h2 : QK w' ys (cut rows lo n).flatten M := hyown.VS (fun b hb => hkeep b (hne2 b hb) (hM b hb).2.2.1)
   refine (h1.append h2 (fun b hb1 hb2 => hdis b hb1.1 hb2)).mono (fun b hb => ?_)
   have hg : N b ∧ blk (a.eval x) ≠ some b := by
    rcases hb with hb | hb
    ·exact ⟨.inl hb.1, hb.2⟩
    ·exact ⟨.inr hb, hne2 b hb⟩
   refine ⟨.inr hg, fun e => ?_⟩
   rcases hbv b e with hl | hl
   ·have := (hN b hg.1).2.2.1; omega
   ·exact hg.2 hl
  refine r1.DC hfr N hgr.size (fun k hk hne => hgr.block k hk (fun e => hne (.inl (hroot k e.symm)))) (fun b hb => ⟨(hN b hb).1, (hN b hb).2.1, fun u' j' _ hne => (hN b hb).2.2.2 u' j' hne⟩) (fun _ hb => hb) (fun _ hb => .inl hb) _ _ [.arr true ti.size (olds ++ cut rows lo n)]
   (fun _ => ⟨v', fun k => ((xs ++ ys)[k]?).getD undef, fun b => blk v' = some b ∨ (N b ∧ blk (a.eval x) ≠ some b)⟩) ?_ (fun j' => ?_) (fun j' b _ hb => .inl hb) (fun j' b hne hb' => ?_) (fun j1 j2 b hne hne' _ _ => ?_)
  ·refine ⟨QQ ho', fun q' size' rows' hh => ?_, fun size' rows' hh => by rw [hob0] at hh; cases hh⟩
   rw [hob0] at hh; cases hh
   simp only [if_true]
   have := ql hown2
   rw [hlen2] at this ⊢
   exact this
  ·cases j' with
   | zero => exact ⟨e2, xs ++ ys, hown2, hflr, hOw, fun k x d hx _ _ => by simp [hx]⟩
   | succ j' => simp [YD, Q5]
  ·rcases hb' with hb' | hb'
   ·rcases hbv b hb' with h1 | h1
    ·exact ⟨.inl h1.1, fun hx => by have := (r.hX b hx).2; omega, h1.2⟩
    ·have h3 : N b := .inl (hroot b h1)
     have h2 := hN b h3
     exact ⟨.inr h3, h2.2.1, by have := hgr.size; omega⟩
   ·have h2 := hN b hb'.1
    exact ⟨.inr hb'.1, h2.2.1, by have := hgr.size; omega⟩
  ·have : ∀ j, YD [Ob.arr true ti.size (olds ++ cut rows lo n)] j ≠ .none → j = 0 := by
    intro j hj
    cases j with
    | zero => rfl
    | succ j => simp [YD] at hj
   rw [this j1 hne, this j2 hne']
 cases base with
 | none =>
  have hc0 := hnn rfl
  subst hc0
  have hn0 : n = 0 := by omega
  subst hn0
  have hys0 : ys = [] := List.eq_nil_of_length_eq_zero (by rw [hyl]; simp)
  have hform : ∃ base cap, a.eval x = .slice base olds.length cap ∧ olds.length ≤ cap ∧ (base = none → cap = 0) := by
   rcases hown.2 with ⟨h1, h2⟩ | ⟨g, cap, cur, h1, _, _, hnc, _⟩
   ·exact ⟨none, 0, by rw [h1, h2], by omega, fun _ => rfl⟩
   ·exact ⟨_, cap, h1, hnc, (fun hh => by cases hh)⟩
  obtain ⟨base, cap, hex, hnc, hb0⟩ := hform
  refine key (a.eval x) w e1 ?_ (by rw [hys0]; simpa using hown) ⟨rfl, rfl, rfl, Nat.le_refl _, fun _ _ _ => rfl⟩ (fun b hb => .inr hb)
  rw [hey, hex]
  exact J0 t o.type _ ti hu hi base olds.length cap hnc hb0
 | some ad =>
  have hcell : ∀ k v, ys[k]? = some v → w.cell? (ad.add k) = some v := by
   intro k v hv
   have hnp : 0 < n := by
    rcases Nat.eq_zero_or_pos n with h0 | h0
    ·have hk := (List.getElem?_eq_some_iff.1 hv).1
     rw [hyl, h0] at hk
     simp at hk
    ·exact h0
   obtain ⟨b, cap0, hh, hbase⟩ := hb hnp
   cases hbase
   rcases how0.2 with ⟨hn1, _⟩ | ⟨g, cap', cur, hv', _, hgg, hnc, hmx, hcs, htk⟩
   ·rw [hh] at hn1; cases hn1
   ·rw [hh] at hv'; cases hv'
    rw [← hys] at hv
    have h1 := J2 _ _ _ _ _ hv
    rw [KS]
    refine Jh hgg _ _ ?_
    rw [← htk, List.getElem?_take] at h1
    split at h1
    ·exact h1
    ·cases h1
  have h1y : ∀ v ∈ ys, v.oneCell' = true := fun v hv => h1c v (by rw [← hys] at hv; exact List.mem_of_mem_drop (List.mem_of_mem_take hv))
  obtain ⟨v', w', e2, hrun, ho', hgr, hbv⟩ := yI (P := P) (w := w) t o.type _ e1 ti z hu hi hzz hzs (by omega) (a.eval x) olds.length xs hown ad n cap ys hyl hcell h1y (by simp only [maxLen]; omega) hbytes
  refine key v' w' e2 ?_ ho' hgr hbv
  rw [hey]; exact hrun
end
def Ca (w : World) (res : List (List D)) (e : Ending) (w' : World) : Prop :=
 ∃ (vs : List Value) (css : List (List Value)), e = .returned (SK vs) ∧ Below w.heap.size w w' ∧ Zp Qk vs css ∧ Zp (fun (cs : List Value) (row : List D) => cs.length = row.length) css res ∧
  QK w' css.flatten res.flatten (fun b => w.heap.size ≤ b ∧ b < w'.heap.size)
def Xz (P : Program) (f : FuncId) (args res : List (List D)) : Prop :=
 Ts P f = true ∧ ∀ (T : CS) (w : World) (vals : List Value), (∀ b k, T b k → b < w.heap.size) → Zp (fun v row => ∃ cs, Qk v cs ∧ Zp (Rd T w) cs row) vals args → Calls P f vals.toArray w (Ca w res)
theorem yu {α β : Type} {R : α → β → Prop} : ∀ {css : List (List α)} {res : List (List β)}, Zp (fun (cs : List α) (row : List β) => cs.length = row.length) css res → (∀ (k : Nat) (x : α) (d : β), css.flatten[k]? = some x → res.flatten[k]? = some d → R x d) → Zp (fun cs row => Zp R cs row) css res := by
 intro css res hal
 induction hal with
 | nil => intro _; exact .nil
 | @cons cs row css res hl _ ih =>
  intro hk
  refine .cons (Zp.yG hl (fun k x d hx hd => hk k x d ?_ ?_)) (ih (fun k x d hx hd => hk (cs.length + k) x d ?_ ?_))
  ·rw [List.flatten_cons, List.getElem?_append_left (List.getElem?_eq_some_iff.1 hx).1]; exact hx
  ·rw [List.flatten_cons, List.getElem?_append_left (List.getElem?_eq_some_iff.1 hd).1]; exact hd
  ·rw [List.flatten_cons, List.getElem?_append_right (by omega)]; simpa using hx
  ·rw [List.flatten_cons, List.getElem?_append_right (by omega), hl]; simpa using hd
theorem Xz.rd {P : Program} {f : FuncId} {args res : List (List D)} (hs : Xz P f args res) : X6 P f false args res := by
 refine ⟨hs.1, fun T w vals hT ha => (hs.2 T w vals hT ha).mono ?_⟩
 rintro e w' ⟨vs, css, he, hb, hf, hl, ⟨_, Sk, h1, h2, h3⟩⟩
 refine ⟨vs, css, fun b => w.heap.size ≤ b ∧ b < w'.heap.size, he, hb, fun b hb => hb, hf, yu hl (fun k x d hx hd => ?_), fun hh => by cases hh⟩
 simp only [Ky, Bool.false_eq_true, if_false]
 exact (h1 k x d hx hd).rd (fun b k' hb => .inr (h2 k b hb))
def Z3 : List Bool → List D → List Ob
 | _, [] => []
 | q :: qs, .sl size rows :: ds => .arr q size rows :: Z3 qs ds
 | [], .sl size rows :: ds => .arr true size rows :: Z3 [] ds
 | qs, _ :: ds => .none :: Z3 qs.tail ds
def ks : List Bool → List D → Prop
 | _, [] => True
 | q :: qs, .sl _ rows :: ds => (q = false → ∀ r ∈ rows, ∀ x ∈ r, x.scalar = true) ∧ ks qs ds
 | [], .sl _ _ :: ds => ks [] ds
 | qs, _ :: ds => ks qs.tail ds
theorem XY : ∀ (qs : List Bool) (ds : List D) (k : Nat), ks qs ds → (∀ size rows, ds[k]? = some (.sl size rows) → ∃ q, YD (Z3 qs ds) k = .arr q size rows ∧ (q = false → ∀ r ∈ rows, ∀ x ∈ r, x.scalar = true)) ∧ (YD (Z3 qs ds) k ≠ .none → ∃ size rows, ds[k]? = some (.sl size rows))
 | qs, [], k, _ => ⟨fun size rows h => by simp at h, fun h => by cases qs <;> simp [Z3, YD] at h⟩
 | q :: qs, .sl size rows :: ds, 0, hf => ⟨fun s r h => by simp at h; obtain ⟨rfl, rfl⟩ := h; exact ⟨q, by simp [Z3, YD], hf.1⟩, fun _ => ⟨size, rows, by simp⟩⟩
 | [], .sl size rows :: ds, 0, hf => ⟨fun s r h => by simp at h; obtain ⟨rfl, rfl⟩ := h; exact ⟨true, by simp [Z3, YD], fun h => by cases h⟩, fun _ => ⟨size, rows, by simp⟩⟩
 | qs, .int k n :: ds, 0, hf => ⟨fun s r h => by simp at h, fun h => by cases qs <;> simp [Z3, YD] at h⟩
 | qs, .bool b :: ds, 0, hf => ⟨fun s r h => by simp at h, fun h => by cases qs <;> simp [Z3, YD] at h⟩
 | qs, .str s :: ds, 0, hf => ⟨fun s r h => by simp at h, fun h => by cases qs <;> simp [Z3, YD] at h⟩
 | qs, .unk :: ds, 0, hf => ⟨fun s r h => by simp at h, fun h => by cases qs <;> simp [Z3, YD] at h⟩
 | q :: qs, .sl size rows :: ds, k + 1, hf => by
  have := XY qs ds k hf.2
  simpa [Z3, YD] using this
 | [], .sl size rows :: ds, k + 1, hf => by
  have := XY [] ds k hf
  simpa [Z3, YD] using this
 | qs, .int _ _ :: ds, k + 1, hf => by
  have := XY qs.tail ds k (by cases qs <;> exact hf)
  cases qs <;> simpa [Z3, YD] using this
 | qs, .bool _ :: ds, k + 1, hf => by
  have := XY qs.tail ds k (by cases qs <;> exact hf)
  cases qs <;> simpa [Z3, YD] using this
 | qs, .str _ :: ds, k + 1, hf => by
  have := XY qs.tail ds k (by cases qs <;> exact hf)
  cases qs <;> simpa [Z3, YD] using this
 | qs, .unk :: ds, k + 1, hf => by
  have := XY qs.tail ds k (by cases qs <;> exact hf)
  cases qs <;> simpa [Z3, YD] using this
section
variable {P : Program} {T0 : CS} {B : Nat → Prop} {σ : St} {a : Act} {w w' : World} {X X' : Nat → Prop} {h : Nat → Nat → Hd}
theorem Hj (r : Rel T0 B σ a w X h) {o : Oper} {c : Call} {f : FuncId} {d : Nat} {rows res : List (List D)} (qs : List Bool) (hop : o.op = .call c) (hc : c.callee = .value (.func f)) (hd : o.dst = some d) (hfr : σ.fresh d = true)
  (hargs : XQ P σ c.args.toList c.argTypes.toList rows) (hs : Xz P f rows res) (hq : ks qs res.flatten)
  {K : Act → World → Prop} {Q : Exit → Act → World → Prop} (hK : ∀ a' w', Qo T0 B (σ.new d (kT d res) (Z3 qs res.flatten)) a' w' → Yo B w w' → K a' w') : o.wp P a w K Q := by
 have hlt := St.J5 hfr
 unfold Oper.wp
 rw [qf hop hc hs.1, Oper.upon_enter]
 have hargs2 := r.XQ false hargs (fun hh => by cases hh)
 simp only [Bool.false_eq_true, if_false] at hargs2
 refine (hs.2 (UN T0 X h σ) w _ (fun b k hb => r.IH hb) hargs2).mono ?_
 rintro e w' ⟨vs, css, rfl, hbel, hform, hlen, ⟨_, Sk, h1, h2, h3⟩⟩
 rw [hd]
 have hex : ∀ j, ∃ hd : Hd, (∀ c, css.flatten[j]? = some c → hd.v = c) ∧ (∀ size rows, res.flatten[j]? = some (.sl size rows) → (∀ b, hd.u b → Sk j b) ∧ (∀ b, blk hd.v = some b → hd.u b) ∧ ∀ T h ob, Q5 T h ob w' hd (.arr true size rows) ∧ ((∀ r ∈ rows, ∀ x ∈ r, x.scalar = true) → Q5 T h ob w' hd (.arr false size rows))) := by
  intro j
  have hfl : css.flatten.length = res.flatten.length := by
   have := yu (R := fun _ _ => True) hlen (fun _ _ _ _ _ => trivial)
   exact (z4 this).length
  cases hj : res.flatten[j]? with
  | none => exact ⟨Hd.of ((css.flatten[j]?).getD undef), fun c hc' => by simp [Hd.of, hc'], fun size rows hh => by cases hh⟩
  | some dd =>
   have hlt' : j < css.flatten.length := by rw [hfl]; exact (List.getElem?_eq_some_iff.1 hj).1
   have hcj : css.flatten[j]? = some css.flatten[j] := List.getElem?_eq_getElem hlt'
   cases dd with
   | int k n => exact ⟨Hd.of css.flatten[j], fun c hc' => by rw [hcj] at hc'; cases hc'; rfl, fun size rows hh => by cases hh⟩
   | bool k => exact ⟨Hd.of css.flatten[j], fun c hc' => by rw [hcj] at hc'; cases hc'; rfl, fun size rows hh => by cases hh⟩
   | str k => exact ⟨Hd.of css.flatten[j], fun c hc' => by rw [hcj] at hc'; cases hc'; rfl, fun size rows hh => by cases hh⟩
   | unk => exact ⟨Hd.of css.flatten[j], fun c hc' => by rw [hcj] at hc'; cases hc'; rfl, fun size rows hh => by cases hh⟩
   | sl size rows =>
    have ho := h1 j _ _ hcj hj
    generalize hv : css.flatten[j] = v at ho
    cases ho with
    | sl v size rows S e xs Sk' ho hz hb hl hk hs' hd' =>
     refine ⟨⟨v, fun k => (xs[k]?).getD undef, Sk j⟩, fun c hc' => by rw [hcj, hv] at hc'; cases hc'; rfl, fun size' rows' hh => ?_⟩
     cases hh
     refine ⟨fun b hb => hb, hb, fun T h ob => ⟨⟨e, xs, ho, hz, ⟨hl, Sk', hk, fun k b hb => hs' k b hb, hd'⟩, fun k x d hx _ _ => by simp [hx]⟩, fun hflat => ⟨e, xs, ho, hz, Zp.yG hl (fun k x d hx hd => ?_)⟩⟩⟩
     obtain ⟨r0, hr0, hdr⟩ := List.mem_flatten.1 (List.mem_of_getElem? hd)
     have hsc := hflat r0 hr0 d hdr
     have := hk k x d hx hd
     cases this with
     | int k n => exact .int _ _
     | bool b => exact .bool _
     | str s => exact .str _
     | unk v h => exact .unk _ h
     | sl => cases hsc
 obtain ⟨hf, hfs⟩ := Classical.axiomOfChoice hex
 refine hK _ _ ⟨X, fun t j => if t = d then hf j else h t j, ?_⟩ (Yo.Po hbel r.hB)
 have hob : ∀ j, (σ.new d (kT d res) (Z3 qs res.flatten)).ob d j = YD (Z3 qs res.flatten) j := fun j => by rw [St.Qg]; simp [hlt]
 have hcells : Zp (fun cs row => Zp (xq (Tof T0 X) w') cs row) css res := by
  refine yu hlen (fun k x d hx hd => ?_)
  have ho := h1 k x d hx hd
  cases ho with
  | int k n => exact Rd.int _ _
  | bool b => exact Rd.bool _
  | str s => exact Rd.str _
  | unk v h => exact Rd.unk _ h
  | sl v size rows S e xs Sk' ho hz hb hl hk hs' hd' => exact ⟨e, xs, ho⟩
 refine r.new hfr (Below.grownBy hbel) (fun b hb => hb) (fun b hb => .inl hb) (kT d res) (SK vs) (Z3 qs res.flatten) hf ?_ (fun j => ?_) (fun j b hne hb => ?_) (fun j b hne hb => ?_) (fun j j' b hne hne' hb hb' => ?_)
 ·exact I5 (h := fun t j => if t = d then hf j else h t j) (ob := (σ.new d (kT d res) (Z3 qs res.flatten)).ob) (t := d) hform hcells (fun i size rows hi => by
   obtain ⟨q, hq', _⟩ := (XY qs res.flatten i hq).1 size rows hi
   exact ⟨q, by rw [hob]; exact hq'⟩) (fun i c hi => by simp only [if_true]; exact (hfs i).1 c hi)
 ·by_cases hne : YD (Z3 qs res.flatten) j = .none
  ·rw [hne]; trivial
  ·obtain ⟨size, rows, hj⟩ := (XY qs res.flatten j hq).2 hne
   obtain ⟨q, hq', hqf⟩ := (XY qs res.flatten j hq).1 size rows hj
   rw [hq']
   have := ((hfs j).2 size rows hj).2.2 (Tof T0 X) (fun t j => if t = d then hf j else h t j) (σ.new d (kT d res) (Z3 qs res.flatten)).ob
   cases q with
   | true => exact this.1
   | false => exact this.2 (hqf rfl)
 ·obtain ⟨size, rows, hj⟩ := (XY qs res.flatten j hq).2 hne
  exact ((hfs j).2 size rows hj).2.1 b hb
 ·obtain ⟨size, rows, hj⟩ := (XY qs res.flatten j hq).2 hne
  have := h2 j b (((hfs j).2 size rows hj).1 b hb)
  exact ⟨this.1, fun hx => by have := (r.hX b hx).2; omega, this.2⟩
 ·obtain ⟨size, rows, hj⟩ := (XY qs res.flatten j hq).2 hne
  obtain ⟨size', rows', hj'⟩ := (XY qs res.flatten j' hq).2 hne'
  exact h3 j j' b (((hfs j).2 size rows hj).1 b hb) (((hfs j').2 size' rows' hj').1 b hb')
end
end Go.Vm
