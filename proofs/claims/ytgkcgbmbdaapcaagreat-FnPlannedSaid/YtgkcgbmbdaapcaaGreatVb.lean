/- An abstract machine U3 the model of Go, by value, and that it is sound: part Vb. No condition. -/
import Derived.Test.YtgkcgbmbdaapcaaGreatVa
set_option linter.unusedVariables false
set_option linter.unusedSimpArgs false
namespace Go.Vm
open Go.RowKit
section
variable {P : Program} {T0 : CS} {B : Nat -> Prop} {σ : St} {a : Act} {w w' : World} {X X' : Nat -> Prop} {h : Nat -> Nat -> Hd}
theorem Zr.HB {T T' : CS} {h h' : Nat -> Nat -> Hd} {ob ve : Nat -> Nat -> Ob} (hT : ∀ b k v, T b k -> w.cell? ⟨b, k, none⟩ = some v -> w'.cell? ⟨b, k, none⟩ = some v /\ T' b k) (hc : ∀ t j, Cpt h h' ob ve t j)
  {x : At} {v : Value} (r : Zr T h ob w x v) : Zr T' h' ve w' x v := by
 obtain ⟨d, hd⟩ : ∃ d, x.ref d = false := by
  cases x with
  | sref t j lo len => exact ⟨t + 1, by simp [At.ref]⟩
  | ptr t j i c => exact ⟨t + 1, by simp [At.ref]⟩
  | bptr t c => exact ⟨t + 1, by simp [At.ref]⟩
  | fn f t => exact ⟨t + 1, by simp [At.ref]⟩
  | tref t j i c o => exact ⟨t + 1, by simp [At.ref]⟩
  | any => exact ⟨0, rfl⟩
  | d x => exact ⟨0, rfl⟩
  | nil s => exact ⟨0, rfl⟩
  | rptr r c => exact ⟨0, rfl⟩
 exact Zr.carry hT (d := d) (fun t j _ => hc t j) hd r
def qQ (p : At -> Bool) : List At -> Bool
 | [] => false
 | x :: xs => p x || qQ p xs
def V.NY (p : At -> Bool) : V -> Bool
 | .one x => p x
 | .agg xs => qQ p xs
 | _ => false
def P0 (p : At -> Bool) : List V -> Bool
 | [] => false
 | x :: xs => x.NY p || P0 p xs
def V.JX (p : At -> Bool) : V -> Bool
 | .tup xs => P0 p xs
 | .cnd _ x => x.NY p
 | .fix _ x => x.NY p
 | .one x => p x
 | .agg xs => qQ p xs
 | .any => false
def JR (p : At -> Bool) : List Ob -> Bool
 | [] => false
 | .box cells :: os => qQ p cells || JR p os
 | .lit _ rows :: os => qQ p rows.flatten || JR p os
 | _ :: os => JR p os
def St.JX (p : At -> Bool) : St -> Bool
 | [] => false
 | e :: σ => e.1.JX p || JR p e.2 || St.JX p σ
def At.isT (t : Nat) : At -> Bool
 | .tref u _ _ _ _ => u == t
 | _ => false
theorem zO : ∀ (xs : List At), qQ (fun _ => false) xs = false
 | [] => rfl
 | _ :: xs => by simp [qQ, zO xs]
theorem TZ : ∀ (xs : List V), P0 (fun _ => false) xs = false
 | [] => rfl
 | x :: xs => by cases x <;> simp [P0, V.NY, zO, TZ xs]
theorem Ml (x : V) : x.NY (fun _ => false) = false := by cases x <;> simp [V.NY, zO]
theorem zo (x : V) : x.JX (fun _ => false) = false := by cases x <;> simp [V.JX, zO, TZ, Ml]
theorem yr : ∀ (os : List Ob), JR (fun _ => false) os = false
 | [] => rfl
 | o :: os => by cases o <;> simp [JR, zO, yr os]
theorem St.zo : ∀ (σ : St), St.JX (fun _ => false) σ = false
 | [] => rfl
 | e :: σ => by simp [St.JX, Go.Vm.zo, Go.Vm.yr, St.zo σ]
theorem St.RK {p : At -> Bool} : ∀ {σ : St}, σ.JX p = false -> ∀ t, (σ.get t).JX p = false
 | [], _, t => by simp [St.get, V.JX]
 | e :: σ, h, 0 => by simp only [St.JX, Bool.or_eq_false_iff] at h; exact h.1.1
 | e :: σ, h, t + 1 => by
  simp only [St.JX, Bool.or_eq_false_iff] at h
  have := St.RK h.2 t
  simpa [St.get] using this
theorem Pr {p : At -> Bool} : ∀ {os : List Ob}, JR p os = false -> ∀ j, JR p [Z2 os j] = false
 | [], _, j => by simp [Z2, JR]
 | o :: os, h, 0 => by cases o <;> simp_all [Z2, JR]
 | o :: os, h, j + 1 => by
  have h2 : JR p os = false := by cases o <;> simp_all [JR]
  have := Pr h2 j
  simpa [Z2] using this
theorem St.Ox {p : At -> Bool} : ∀ {σ : St}, σ.JX p = false -> ∀ t j, JR p [σ.ob t j] = false
 | [], _, t, j => by simp [St.ob, JR]
 | e :: σ, h, 0, j => by simp only [St.JX, Bool.or_eq_false_iff] at h; exact Pr h.1.2 j
 | e :: σ, h, t + 1, j => by
  simp only [St.JX, Bool.or_eq_false_iff] at h
  have := St.Ox h.2 t j
  simpa [St.ob] using this
theorem SG {T T' : CS} {h h' : Nat -> Nat -> Hd} {ob ve : Nat -> Nat -> Ob} {p : At -> Bool} (f : ∀ {x : At} {v : Value}, p x = false -> Zr T h ob w x v -> Zr T' h' ve w' x v) {xs : List At} {vs : List Value} (hx : qQ p xs = false)
  (r : Zc (Zr T h ob w) xs vs) : Zc (Zr T' h' ve w') xs vs := by
 induction r with
 | nil => exact .nil
 | cons r _ ih =>
  simp only [qQ, Bool.or_eq_false_iff] at hx
  exact .cons (f hx.1 r) (ih hx.2)
theorem Xz.map {T T' : CS} {h h' : Nat -> Nat -> Hd} {ob ve : Nat -> Nat -> Ob} {p : At -> Bool} (f : ∀ {x : At} {v : Value}, p x = false -> Zr T h ob w x v -> Zr T' h' ve w' x v) {x : V} {v : Value} (hx : x.NY p = false)
  (r : Xz T h ob w x v) : Xz T' h' ve w' x v := by
 cases x with
 | any => exact r
 | one x => exact f hx r
 | agg xs => obtain ⟨cs, e, r⟩ := r; exact ⟨cs, e, SG f hx r⟩
 | tup xs => exact r.elim
 | cnd g x => exact r.elim
 | fix u x => exact r.elim
theorem XC.map {T T' : CS} {h h' : Nat -> Nat -> Hd} {ob ve : Nat -> Nat -> Ob} {p : At -> Bool} (f : ∀ {x : At} {v : Value}, p x = false -> Zr T h ob w x v -> Zr T' h' ve w' x v) {x : V} {v : Value} (hx : x.JX p = false)
  (r : XC T h ob w x v) : XC T' h' ve w' x v := by
 cases x with
 | any => exact r
 | one x => exact f hx r
 | agg xs => obtain ⟨cs, e, r⟩ := r; exact ⟨cs, e, SG f hx r⟩
 | tup xs =>
  obtain ⟨vs, e, r⟩ := r
  refine ⟨vs, e, ?_⟩
  clear e
  generalize vs.toList = vl at r
  simp only [V.JX] at hx
  induction r with
  | nil => exact .nil
  | cons r _ ih =>
   simp only [P0, Bool.or_eq_false_iff] at hx
   exact .cons (Xz.map f hx.1 r) (ih hx.2)
 | cnd g x => exact ⟨fun hg => Xz.map f hx (r.1 hg), r.2⟩
 | fix u x => exact ⟨r.1, Xz.map f hx r.2⟩
theorem Xu.map {T T' : CS} {h h' : Nat -> Nat -> Hd} {ob ve : Nat -> Nat -> Ob} {p : At -> Bool} (f : ∀ {x : At} {v : Value}, p x = false -> Zr T h ob w x v -> Zr T' h' ve w' x v)
  (hT : ∀ b k v, T b k -> w.cell? ⟨b, k, none⟩ = some v -> w'.cell? ⟨b, k, none⟩ = some v /\ T' b k) {hd : Hd} {o : Ob}
  (vO : o ≠ .none -> ∀ b, blk hd.v = some b -> hd.u b) (hb : o ≠ .none -> ∀ b, hd.u b -> w'.heap[b]? = w.heap[b]?) (hx : JR p [o] = false) (r : Xu T h ob w hd o) : Xu T' h' ve w' hd o := by
 cases o with
 | none => trivial
 | box cells =>
  obtain ⟨b, cs, e, hv, hh, wC⟩ := r
  simp only [JR, Bool.or_false] at hx
  exact ⟨b, cs, e, hv, by rw [hb (by simp) b (vO (by simp) b (by rw [hv]; rfl))]; exact hh, SG f hx wC⟩
 | arr q size rows =>
  have hk : ∀ {e : TypeId} {n : Nat} {xs : List Value}, w.ownsRow 0 e size hd.v n xs -> w'.ownsRow 0 e size hd.v n xs := fun ho => Kt (fun b h => hb (by simp) b (vO (by simp) b h)) ho
  cases q with
  | false =>
   obtain ⟨e, xs, ho, hz, wC⟩ := r
   exact ⟨e, xs, hk ho, hz, wC.imp fun _ _ => Rd.mono hT⟩
  | true =>
   obtain ⟨e, xs, ho, hz, wC, hn⟩ := r
   exact ⟨e, xs, hk ho, hz, wC.T1 (fun b h => hb (by simp) b h.1), hn⟩
 | lit size rows =>
  obtain ⟨e, xs, ho, hz, wC⟩ := r
  simp only [JR, Bool.or_false] at hx
  exact ⟨e, xs, Kt (fun b h => hb (by simp) b (vO (by simp) b h)) ho, hz, SG f hx wC⟩
def Ob.H6 : Ob -> Ob -> Prop
 | .arr q s r, .arr q' s' r' => q = q' /\ s = s' /\ r.length = r'.length
 | .lit s r, .lit s' r' => s = s' /\ r.length = r'.length
 | .box _, .box _ => True
 | _, _ => False
theorem Rel.change (r : Rel T0 B σ a w X h) {t j : Nat} (wZ : σ.ob t j ≠ .none) (vL : w'.heap.size = w.heap.size) (hw : ∀ k, ¬ (h t j).u k -> w'.heap[k]? = w.heap[k]?) (M : Nat -> Prop)
  (hM : ∀ b, M b -> ¬ B b /\ ¬ X b /\ b < w.heap.size /\ ∀ u i, σ.ob u i ≠ .none -> ¬ (h u i).u b) (o' : Ob) (uJ : (σ.ob t j).H6 o') (wO : Hd) (hv : wO.v = (h t j).v) (hu : ∀ b, wO.u b -> (h t j).u b \/ M b) (vO : ∀ b, blk wO.v = some b -> wO.u b)
  (p : At -> Bool) (hp : σ.JX p = false) (hn : (∀ u i c o, p (.tref t u i c o) = true) \/ wO.n = (h t j).n)
  (tF : Xu (Tof T0 X) (fun u i => if u = t /\ i = j then wO else h u i) (σ.Ze t j o').ob w' wO o') : Rel T0 B (σ.Ze t j o') a w' X (fun u i => if u = t /\ i = j then wO else h u i) := by
 have vE : ∀ u i, ¬ (u = t /\ i = j) -> (σ.Ze t j o').ob u i = σ.ob u i := by
  intro u i wD
  rw [St.XF σ t j o' u i wZ, if_neg wD]
 have vA : (σ.Ze t j o').ob t j = o' := by rw [St.XF σ t j o' t j wZ]; simp
 have hT : ∀ b k v, Tof T0 X b k -> w.cell? ⟨b, k, none⟩ = some v -> w'.cell? ⟨b, k, none⟩ = some v /\ Tof T0 X b k := by
  intro b' k v wS wJ
  refine ⟨?_, wS⟩
  have wD : ¬ (h t j).u b' := by
   intro vm
   have wI := r.own t j b' wZ vm
   rcases wS with wS | wS
   ·exact wI.1 (r.hT _ _ wS)
   ·exact wI.2.1 wS
  rw [World.cell?_of_block (hw b' wD)]; exact wJ
 have nU : ∀ u i, ((fun u i => if u = t /\ i = j then wO else h u i) u i).v = (h u i).v := by
  intro u i
  by_cases hc : u = t /\ i = j
  ·simp only [hc, and_self, if_true]; exact hv
  ·simp only [hc, if_false]
 have p7 : ∀ u i q size rows, (σ.Ze t j o').ob u i = .arr q size rows -> ∃ wL, σ.ob u i = .arr q size wL /\ wL.length = rows.length := by
  intro u i q size rows ho
  by_cases hc : u = t /\ i = j
  ·obtain ⟨rfl, rfl⟩ := hc
   rw [vA] at ho; subst ho
   cases vB : σ.ob u i with
   | arr q0 s0 r0 => rw [vB] at uJ; obtain ⟨rfl, rfl, hl⟩ := uJ; exact ⟨r0, rfl, hl⟩
   | none => rw [vB] at uJ; exact uJ.elim
   | box c => rw [vB] at uJ; exact uJ.elim
   | lit s r => rw [vB] at uJ; exact uJ.elim
  ·rw [vE u i hc] at ho; exact ⟨rows, ho, rfl⟩
 have gP : ∀ u i size rows, (σ.Ze t j o').ob u i = .lit size rows -> ∃ wL, σ.ob u i = .lit size wL /\ wL.length = rows.length := by
  intro u i size rows ho
  by_cases hc : u = t /\ i = j
  ·obtain ⟨rfl, rfl⟩ := hc
   rw [vA] at ho; subst ho
   cases vB : σ.ob u i with
   | arr q0 s0 r0 => rw [vB] at uJ; exact uJ.elim
   | none => rw [vB] at uJ; exact uJ.elim
   | box c => rw [vB] at uJ; exact uJ.elim
   | lit s r => rw [vB] at uJ; obtain ⟨rfl, hl⟩ := uJ; exact ⟨r, rfl, hl⟩
  ·rw [vE u i hc] at ho; exact ⟨rows, ho, rfl⟩
 have ra : ∀ u i cells, (σ.Ze t j o').ob u i = .box cells -> ∃ vK, σ.ob u i = .box vK := by
  intro u i cells ho
  by_cases hc : u = t /\ i = j
  ·obtain ⟨rfl, rfl⟩ := hc
   rw [vA] at ho; subst ho
   cases vB : σ.ob u i with
   | arr q0 s0 r0 => rw [vB] at uJ; exact uJ.elim
   | none => rw [vB] at uJ; exact uJ.elim
   | box c => exact ⟨c, rfl⟩
   | lit s r => rw [vB] at uJ; exact uJ.elim
  ·rw [vE u i hc] at ho; exact ⟨cells, ho⟩
 have at_ : ∀ {x : At} {v : Value}, p x = false -> Zr (Tof T0 X) h σ.ob w x v -> Zr (Tof T0 X) (fun u i => if u = t /\ i = j then wO else h u i) (σ.Ze t j o').ob w' x v := by
  intro x v o5 rx
  cases x with
  | any => exact rx
  | d x => exact Rd.mono hT rx
  | nil s => exact rx
  | sref u i lo len =>
   refine ⟨rx.1, fun q size rows ho => ?_, fun size rows ho => ?_⟩
   ·obtain ⟨wL, vB, hl⟩ := p7 u i q size rows ho
    rw [nU, <- hl]; exact rx.2.1 q size wL vB
   ·obtain ⟨wL, vB, hl⟩ := gP u i size rows ho
    rw [nU, <- hl]; exact rx.2.2 size wL vB
  | ptr u i k c =>
   refine ⟨rx.1, fun q size rows ho => ?_⟩
   obtain ⟨wL, vB, hl⟩ := p7 u i q size rows ho
   rw [nU]; exact rx.2 q size wL vB
  | bptr u c =>
   refine ⟨rx.1, fun cells ho => ?_⟩
   obtain ⟨vK, vB⟩ := ra u 0 cells ho
   rw [nU]; exact rx.2 vK vB
  | fn f u =>
   refine ⟨rx.1, fun cells ho => ?_⟩
   obtain ⟨vK, vB⟩ := ra u 0 cells ho
   rw [nU]; exact rx.2 vK vB
  | tref u i k c o =>
   refine ⟨rx.1, fun size rows ho => ?_⟩
   obtain ⟨wL, vB, hl⟩ := p7 u i true size rows ho
   have h1 := rx.2 size wL vB
   by_cases hc : u = t /\ i = j
   ·obtain ⟨rfl, rfl⟩ := hc
    rcases hn with hn | hn
    ·rw [hn] at o5; cases o5
    ·simp only [and_self, if_true, hn]; exact h1
   ·simp only [hc, if_false]; exact h1
  | rptr rr c =>
   obtain ⟨b, off, g, e, hk⟩ := rx
   exact ⟨b, off, g, e, fun k d hd => ⟨(hT _ _ _ (hk k d hd).2.1 (hk k d hd).1).1, (hk k d hd).2.1, Rd.mono hT (hk k d hd).2.2⟩⟩
 have vF : ∀ u i, (σ.Ze t j o').ob u i ≠ .none -> σ.ob u i ≠ .none := by
  intro u i wu
  by_cases vm : u = t /\ i = j
  ·obtain ⟨rfl, rfl⟩ := vm; exact wZ
  ·rw [vE u i vm] at wu; exact wu
 refine ⟨by rw [r.size, St.YZ], r.defers, by rw [vL]; exact r.hB, fun b hb => by rw [vL]; exact r.hX b hb, r.hT, fun u vm => ?_, fun u i => ?_, fun u i b' wD wS => ?_, fun u i b' wD wS => ?_, fun u i u' i' b' wD wv vQ wo => ?_⟩
 ·rw [St.YZ] at vm
  rw [St.XK]; exact XC.map at_ (St.RK hp u) (r.slot u vm)
 ·by_cases hc : u = t /\ i = j
  ·obtain ⟨rfl, rfl⟩ := hc; rw [vA]; simp only [and_self, if_true]; exact tF
  ·rw [vE u i hc]
   simp only [hc, if_false]
   exact Xu.map at_ hT (fun ho b => r.ub u i b ho) (fun ho b hb => hw b (fun mN => hc (r.inj u i t j b ho wZ hb mN))) (St.Ox hp u i) (r.obj u i)
 ·by_cases hc : u = t /\ i = j
  ·simp only [hc, and_self, if_true] at wS ⊢; exact vO b' wS
  ·simp only [hc, if_false] at wS ⊢; exact r.ub u i b' (vF u i wD) wS
 ·rw [vL]
  by_cases hc : u = t /\ i = j
  ·simp only [hc, and_self, if_true] at wS
   rcases hu b' wS with h1 | h1
   ·exact r.own t j b' wZ h1
   ·have := hM b' h1; exact ⟨this.1, this.2.1, this.2.2.1⟩
  ·simp only [hc, if_false] at wS; exact r.own u i b' (vF u i wD) wS
 ·by_cases hc : u = t /\ i = j
  ·by_cases wm : u' = t /\ i' = j
   ·exact ⟨by rw [hc.1, wm.1], by rw [hc.2, wm.2]⟩
   ·simp only [hc, and_self, if_true] at vQ
    simp only [wm, if_false] at wo
    rcases hu b' vQ with h1 | h1
    ·have := r.inj t j u' i' b' wZ (vF u' i' wv) h1 wo
     rw [hc.1, hc.2]; exact this
    ·exact absurd wo ((hM b' h1).2.2.2 u' i' (vF u' i' wv))
  ·by_cases wm : u' = t /\ i' = j
   ·simp only [wm, and_self, if_true] at wo
    simp only [hc, if_false] at vQ
    rcases hu b' wo with h1 | h1
    ·have := r.inj u i t j b' (vF u i wD) wZ vQ h1
     rw [wm.1, wm.2]; exact this
    ·exact absurd vQ ((hM b' h1).2.2.2 u i (vF u i wD))
   ·simp only [hc, if_false] at vQ
    simp only [wm, if_false] at wo
    exact r.inj u i u' i' b' (vF u i wD) (vF u' i' wv) vQ wo
theorem Rel.La (r : Rel T0 B σ a w X h) {t j : Nat} (wZ : σ.ob t j ≠ .none) (vL : w'.heap.size = w.heap.size) (hw : ∀ k, ¬ (h t j).u k -> w'.heap[k]? = w.heap[k]?)
  (o' : Ob) (uJ : (σ.ob t j).H6 o') (tF : Xu (Tof T0 X) h (σ.Ze t j o').ob w' (h t j) o') : Rel T0 B (σ.Ze t j o') a w' X h := by
 have hh : (fun u i => if u = t /\ i = j then h t j else h u i) = h := by
  funext u i
  by_cases hc : u = t /\ i = j
  ·simp [hc]
  ·simp [hc]
 have := r.change wZ vL hw (fun _ => False) (fun _ hh => hh.elim) o' uJ (h t j) rfl (fun b hb => .inl hb) (fun b hb => r.ub t j b wZ hb) (fun _ => false) (St.zo σ) (.inr rfl) (by rw [hh]; exact tF)
 rw [hh] at this; exact this
theorem run_store {T : TypeId} {ti : TypeInfo} (hi : P.info? T = some ti) {g o : Nat} {e : TypeId} {cur : Array Value} {val : Value} (hg : w.heap[g]? = some (.cells cur e (0, 0))) (vL : val.cells.size = P.cellsOf T) (hle : o + P.cellsOf T <= cur.size) (h1 : ∀ u ∈ val.cells.toList, u.oneCell' = true) :
  (Instr.storeAt T (.pointer (some ⟨g, o, none⟩)) val).run P w = .ok () (w.setRow g (place cur.toList o val.cells.toList).toArray) := by
 have wY := run_storeCells_at P g o e val.cells.toList 0 cur w hg (by simp; omega) h1
 have wD : ¬ val.cells.size ≠ P.cellsOf T := by omega
 simp only [Instr.storeAt, Instr.sureAddr, storeVar, Sem.run_bind, Sem.run_pure, Result.andThen_ok, Xj hi, if_neg wD]
 rw [wY]
 simp [place]
theorem Yj.setRow {B : Nat -> Prop} {g : Nat} (hg : ¬ B g) (cs : Array Value) : Yj B w (w.setRow g cs) :=
 ⟨rfl, rfl, rfl, by simp [World.setRow], fun k hk => setRow_other w g k cs (fun e => hg (e ▸ hk))⟩
theorem S8 (r : Rel T0 B σ a w X h) {o : Oper} {T : TypeId} {x y : Operand} (wA : o.op = .store T x y) (hd : o.dst = none) (ht : K0 P T = true) (sB : gOf (look P σ 0 x) = true) (sC : gOf (look P σ T y) = true)
  {t c : Nat} (hx : unc (look P σ 0 x) = .one (.bptr t c)) {cells : List At} (ho : σ.ob t 0 = .box cells) (vZ : (unc (look P σ T y)).flat = true) (hl : (unc (look P σ T y)).cells.length = P.cellsOf T) (hle : c + P.cellsOf T <= cells.length)
  {K : Act -> World -> Prop} {Q : Exit -> Act -> World -> Prop} (hK : ∀ a' w', X7 T0 B (σ.Ze t 0 (.box (place cells c (unc (look P σ T y)).cells))) a' w' -> Yj B w w' -> K a' w') : o.wp P a w K Q := by
 obtain ⟨_, ti, _, hi, _, _⟩ := xl ht
 have nV := r.arg (P := P) 0 x hx sB
 obtain ⟨b, cs, e, hb, he, hh, wC⟩ := r.box ho nV
 have hy := xV vZ (r.arg (P := P) T y rfl sC)
 have uX := hy.length
 have wh := wC.length
 have e1 : cs.toList.length = cs.size := Array.length_toList
 have e2 : (a.eval y).cells.toList.length = (a.eval y).cells.size := Array.length_toList
 have wU := run_store (P := P) (w := w) hi (o := c) (val := a.eval y) hh (by omega) (by omega) (fun u hu => by obtain ⟨x', _, tN⟩ := hy.mem hu; exact Zr.Y1 tN)
 have wZ : σ.ob t 0 ≠ .none := by rw [ho]; simp
 have vI : blk (h t 0).v = some b := by rw [hb]; rfl
 have hB := r.G0 wZ vI
 have vO := r.ub t 0 b wZ vI
 unfold Oper.wp
 simp only [execOp, wA, he, Sem.run_bind, wU, Result.andThen_ok, Sem.run_pure, Oper.upon_skip, hd]
 refine hK _ _ ⟨X, h, ?_⟩ (Yj.setRow hB.1 _)
 have vc := setRow_heap w b cs (place cs.toList c (a.eval y).cells.toList).toArray e (0, 0) hh
 refine r.La wZ (by simp [World.setRow]) (fun k hk => setRow_other w b k _ (fun e => hk (e ▸ vO))) _ (by rw [ho]; trivial) ?_
 have r2 : Rel T0 B (σ.Ze t 0 (.box (place cells c (unc (look P σ T y)).cells))) a (w.setRow b (place cs.toList c (a.eval y).cells.toList).toArray) X h -> True := fun _ => trivial
 have hT : ∀ b' k v, Tof T0 X b' k -> w.cell? ⟨b', k, none⟩ = some v -> (w.setRow b (place cs.toList c (a.eval y).cells.toList).toArray).cell? ⟨b', k, none⟩ = some v /\ Tof T0 X b' k := by
  intro b' k v wS wJ
  refine ⟨?_, wS⟩
  have wD : b' ≠ b := by
   rintro rfl
   rcases wS with wS | wS
   ·exact hB.1 (r.hT _ _ wS)
   ·exact hB.2.1 wS
  rw [World.cell?_of_block (setRow_other w b b' _ wD)]; exact wJ
 have vE : ∀ u i, ¬ (u = t /\ i = 0) -> (σ.Ze t 0 (.box (place cells c (unc (look P σ T y)).cells))).ob u i = σ.ob u i := by
  intro u i wD
  rw [St.XF σ t 0 _ u i wZ, if_neg wD]
 have vA : (σ.Ze t 0 (.box (place cells c (unc (look P σ T y)).cells))).ob t 0 = .box (place cells c (unc (look P σ T y)).cells) := by rw [St.XF σ t 0 _ t 0 wZ]; simp
 have mq : ∀ u i, Cpt h h σ.ob (σ.Ze t 0 (.box (place cells c (unc (look P σ T y)).cells))).ob u i := by
  intro u i
  by_cases hu : u = t /\ i = 0
  ·obtain ⟨rfl, rfl⟩ := hu
   refine ⟨fun q size rows wV => ?_, fun size rows wV => ?_, fun wG wV => ⟨rfl, cells, ho⟩⟩
   ·rw [vA] at wV; cases wV
   ·rw [vA] at wV; cases wV
  ·exact Cpt.same rfl (vE u i hu)
 have at_ : ∀ {x : At} {v : Value}, Zr (Tof T0 X) h σ.ob w x v -> Zr (Tof T0 X) h (σ.Ze t 0 (.box (place cells c (unc (look P σ T y)).cells))).ob (w.setRow b (place cs.toList c (a.eval y).cells.toList).toArray) x v := fun rx => Zr.HB hT mq rx
 refine ⟨b, _, e, hb, vc, ?_⟩
 have := (wC.place c hy).imp (fun _ _ => at_)
 simpa using this
end
end Go.Vm
namespace Go.Vm
open Go.RowKit
section
variable {P : Program} {T0 : CS} {B : Nat -> Prop} {σ : St} {a : Act} {w w' : World} {X X' : Nat -> Prop} {h : Nat -> Nat -> Hd}
theorem yA {α : Type} (size c : Nat) (ds : List α) (hc : c + ds.length <= size) : ∀ (rows : List (List α)) (i : Nat) (row : List α), rows[i]? = some row -> (∀ r ∈ rows, r.length = size) ->
  (rows.set i (place row c ds)).flatten = place rows.flatten (i * size + c) ds
 | [], i, row, hr, _ => by simp at hr
 | r0 :: rows, 0, row, hr, hz => by
  simp at hr; subst hr
  have h0 : r0.length = size := hz r0 (by simp)
  simp only [List.set_cons_zero, List.flatten_cons, place, Nat.zero_mul, Nat.zero_add]
  rw [List.take_append_of_le_length (by omega), List.drop_append_of_le_length (by omega)]
  simp
 | r0 :: rows, i + 1, row, hr, hz => by
  have h0 : r0.length = size := hz r0 (by simp)
  have ih := yA size c ds hc rows i row (by simpa using hr) (fun r hr => hz r (by simp [hr]))
  rw [List.set_cons_succ, List.flatten_cons, ih, List.flatten_cons]
  unfold place
  have e1 : (i + 1) * size + c = r0.length + (i * size + c) := by rw [h0, Nat.add_mul]; omega
  have e2 : (i + 1) * size + c + ds.length = r0.length + (i * size + c + ds.length) := by rw [h0, Nat.add_mul]; omega
  rw [e2, e1, List.take_length_add_append, List.drop_length_add_append]
  simp
theorem S3 {α : Type} (l : List α) (n off : Nat) (xs : List α) (hl : off + xs.length <= n) (hn : n <= l.length) : (place l off xs).take n = place (l.take n) off xs := by
 unfold place
 rw [List.take_take, Nat.min_eq_left (by omega), List.drop_take]
 rw [List.take_append, List.take_append]
 simp only [List.length_append, List.length_take]
 rw [Nat.min_eq_left (by omega), List.take_of_length_le (l := List.take off l) (by simp; omega), List.take_of_length_le (l := xs) (by omega)]
theorem jD {α : Type} (l : List α) (o : Nat) (xs : List α) (hl : o + xs.length <= l.length) (k : Nat) (v : α) (hv : (place l o xs)[k]? = some v) :
  (o <= k /\ k < o + xs.length /\ xs[k - o]? = some v) \/ (¬ (o <= k /\ k < o + xs.length) /\ l[k]? = some v) := by
 unfold place at hv
 have h1 : (l.take o).length = o := by simp; omega
 rcases Nat.lt_or_ge k o with hk | hk
 ·rw [List.append_assoc, List.getElem?_append_left (by omega), List.getElem?_take, if_pos hk] at hv
  exact .inr ⟨by omega, hv⟩
 ·rw [List.append_assoc, List.getElem?_append_right (by omega), h1] at hv
  rcases Nat.lt_or_ge (k - o) xs.length with sW | sW
  ·rw [List.getElem?_append_left sW] at hv
   exact .inl ⟨hk, by omega, hv⟩
  ·rw [List.getElem?_append_right sW, List.getElem?_drop] at hv
   refine .inr ⟨by omega, ?_⟩
   rw [show o + xs.length + (k - o - xs.length) = k by omega] at hv; exact hv
theorem Sf (r : Rel T0 B σ a w X h) {o : Oper} {T : TypeId} {x y : Operand} (wA : o.op = .store T x y) (hd : o.dst = none) (ht : K0 P T = true) (sB : gOf (look P σ 0 x) = true) (sC : gOf (look P σ T y) = true)
  {t j i c : Nat} (hx : unc (look P σ 0 x) = .one (.ptr t j i c)) {q : Bool} {size : Nat} {rows : List (List D)} (ho : σ.ob t j = .arr q size rows) (hi : i < rows.length) {ds : List D} (vZ : (unc (look P σ T y)).flat = true) (sb : rowOf σ (unc (look P σ T y)).cells = some ds) (wY : QF (unc (look P σ T y)).cells = true)
  (hl : ds.length = P.cellsOf T) (hle : c + P.cellsOf T <= size) (hq : q = true -> (∀ d ∈ ds, d.scalar = true) /\ ∀ k d, k < P.cellsOf T -> (rows.getD i [])[c + k]? = some d -> d.scalar = true)
  {K : Act -> World -> Prop} {Q : Exit -> Act -> World -> Prop} (hK : ∀ a' w', X7 T0 B (σ.Ze t j (.arr q size (rows.set i (place (rows.getD i []) c ds)))) a' w' -> Yj B w w' -> K a' w') : o.wp P a w K Q := by
 obtain ⟨_, ti, _, lF, _, _⟩ := xl ht
 have nV := r.arg (P := P) 0 x hx sB
 obtain ⟨b, cap, cur, e, xs, hb, he, hh, vi, v9, uH, uj, hz, rn, wC, wI⟩ := r.arr ho nV
 have hy := xV vZ (r.arg (P := P) T y rfl sC)
 have pO := r.rowOf true sb hy (fun _ => wY)
 simp only [if_true] at pO
 have uX := pO.length
 have e2 : (a.eval y).cells.toList.length = (a.eval y).cells.size := Array.length_toList
 have e3 : cur.toList.length = cur.size := Array.length_toList
 have wk : rows[i]? = some (rows.getD i []) := by simp [List.getD_eq_getElem?_getD, List.getElem?_eq_getElem hi]
 have hmul : i * size + size <= rows.length * size := by rw [<- Nat.succ_mul]; exact Nat.mul_le_mul_right _ hi
 have nW : rows.length * size <= cap * size := Nat.mul_le_mul_right _ vi
 have wU := run_store (P := P) (w := w) lF (o := i * size + c) (val := a.eval y) hh (by omega) (by omega) (fun u hu => by obtain ⟨x', _, tN⟩ := hy.mem hu; exact Zr.Y1 tN)
 have wZ : σ.ob t j ≠ .none := by rw [ho]; simp
 have vI : blk (h t j).v = some b := by rw [hb]; rfl
 have hB := r.G0 wZ vI
 have vO := r.ub t j b wZ vI
 unfold Oper.wp
 simp only [execOp, wA, he, Sem.run_bind, wU, Result.andThen_ok, Sem.run_pure, Oper.upon_skip, hd]
 refine hK _ _ ⟨X, h, ?_⟩ (Yj.setRow hB.1 _)
 refine r.La wZ (by simp [World.setRow]) (fun k hk => setRow_other w b k _ (fun e => hk (e ▸ vO))) _ (by rw [ho]; simp [Ob.H6]) ?_
 have vc := setRow_heap w b cur (place cur.toList (i * size + c) (a.eval y).cells.toList).toArray e (0, 0) hh
 have hT : ∀ b' k v, Tof T0 X b' k -> w.cell? ⟨b', k, none⟩ = some v -> (w.setRow b (place cur.toList (i * size + c) (a.eval y).cells.toList).toArray).cell? ⟨b', k, none⟩ = some v /\ Tof T0 X b' k := by
  intro b' k v wS wJ
  refine ⟨?_, wS⟩
  have wD : b' ≠ b := by
   rintro rfl
   rcases wS with wS | wS
   ·exact hB.1 (r.hT _ _ wS)
   ·exact hB.2.1 wS
  rw [World.cell?_of_block (setRow_other w b b' _ wD)]; exact wJ
 have p8 : xs.length = rows.length * size := by rw [rn, Zy rows size hz]
 have se : (rows.getD i []).length = size := hz _ (List.mem_of_getElem? wk)
 have uv : (w.setRow b (place cur.toList (i * size + c) (a.eval y).cells.toList).toArray).ownsRow 0 e size (h t j).v (rows.set i (place (rows.getD i []) c ds)).length (place xs (i * size + c) (a.eval y).cells.toList) := by
  refine ⟨?_, .inr ⟨b, cap, _, by simpa using hb, Nat.zero_le _, vc, by simpa using vi, v9, ?_, ?_⟩⟩
  ·rw [XU _ _ _ (by omega), p8]; simp
  ·simp only [List.size_toArray]
   rw [XU _ _ _ (by omega), e3, uH]
  ·simp only [List.length_set]
   rw [S3 _ _ _ _ (by omega) (by omega), uj]
 have uz : ∀ r ∈ rows.set i (place (rows.getD i []) c ds), r.length = size := by
  intro r' vU
  rcases List.mem_or_eq_of_mem_set vU with vU | vU
  ·exact hz r' vU
  ·rw [vU, XU _ _ _ (by omega), se]
 cases q with
 | false =>
  refine ⟨e, _, uv, uz, ?_⟩
  rw [yA size c ds (by omega) rows i _ wk hz]
  exact ((wC rfl).imp fun _ _ => Rd.mono hT).place _ (pO.imp fun _ _ => Rd.mono hT)
 | true =>
  obtain ⟨⟨_, Sk, h1, h2, h3⟩, hn⟩ := wI rfl
  obtain ⟨l9, fA⟩ := hq rfl
  have wJ : ∀ k u, (place xs (i * size + c) (a.eval y).cells.toList)[k]? = some u -> (i * size + c <= k /\ k < i * size + c + ds.length /\ (a.eval y).cells.toList[k - (i * size + c)]? = some u) \/ (¬ (i * size + c <= k /\ k < i * size + c + ds.length) /\ xs[k]? = some u) := by
   intro k u hu
   exact jD xs _ _ (by omega) k u hu |>.imp (fun hh => ⟨hh.1, by omega, hh.2.2⟩) (fun hh => ⟨by rw [<- uX]; exact hh.1, hh.2⟩)
  have tu : ∀ k d, (rows.set i (place (rows.getD i []) c ds)).flatten[k]? = some d -> (i * size + c <= k /\ k < i * size + c + ds.length /\ ds[k - (i * size + c)]? = some d) \/ (¬ (i * size + c <= k /\ k < i * size + c + ds.length) /\ rows.flatten[k]? = some d) := by
   intro k d uW
   rw [yA size c ds (by omega) rows i _ wk hz] at uW
   exact jD _ _ _ (by rw [Zy rows size hz]; omega) k d uW
  refine ⟨e, _, uv, uz, ⟨?_, Sk, fun k u d hu uW => ?_, h2, h3⟩, fun k u d hu uW vS => ?_⟩
  ·rw [XU _ _ _ (by omega), rn, Zy rows size hz, Zy _ size uz]; simp
  ·rcases wJ k u hu with ⟨p1, p2, p3⟩ | ⟨p1, p3⟩
   ·rcases tu k d uW with ⟨_, _, p4⟩ | ⟨p4, _⟩
    ·obtain ⟨d', wO, vU⟩ := pO.get _ _ p3
     rw [p4] at wO; cases wO
     have hs := l9 d (List.mem_of_getElem? p4)
     cases vU with
     | int k n => exact .int _ _ _
     | bool b => exact .bool _ _
     | str s => exact .str _ _
     | unk v h => exact .unk _ h _
     | nil => simp [D.scalar] at hs
     | sl => simp [D.scalar] at hs
    ·exact absurd ⟨p1, p2⟩ p4
   ·rcases tu k d uW with ⟨p4, p5, _⟩ | ⟨_, p4⟩
    ·exact absurd ⟨p4, p5⟩ p1
    ·refine (h1 k u d p3 p4).T1 (fun b' wS => setRow_other w b b' _ ?_)
     rintro rfl
     exact (h2 k b' wS).2 vI
  ·rcases tu k d uW with ⟨p4, p5, p6⟩ | ⟨p4, p6⟩
   ·have := l9 d (List.mem_of_getElem? p6)
    rw [vS] at this; cases this
   ·rcases wJ k u hu with ⟨p1, p2, _⟩ | ⟨_, p3⟩
    ·exact absurd ⟨p1, p2⟩ p4
    ·exact hn k u d p3 p6 vS
end
end Go.Vm
namespace Go.Vm
open Go.RowKit
section
variable {P : Program} {T0 : CS} {B : Nat -> Prop} {σ : St} {a : Act} {w w' : World} {X X' : Nat -> Prop} {h : Nat -> Nat -> Hd}
theorem U2 (t ty e e0 : TypeId) (i : TypeInfo) (ht : P.underlying t = some (.slice e)) (hi : P.info? e = some i)
  (g tq pr : Nat) (cur : Array Value) (hg : w.heap[g]? = some (.cells cur e0 (0, 0)))
  (a : Addr) (m c : Nat) (news : List Value) (hl : news.length = m * i.size) (uB : ∀ j u, news[j]? = some u -> w.cell? (a.add j) = some u) (h1 : ∀ u ∈ news, u.oneCell' = true)
  (tM : tq + m <= pr) (pt : tq * i.size + news.length <= cur.size) :
  (Builtin.append_ #[t, t] ty #[.slice (some ⟨g, 0, none⟩) tq pr, .slice (some a) m c]).run P w =
   .ok (.slice (some ⟨g, 0, none⟩) (tq + m) pr) (w.setRow g (cur.toList.take (tq * i.size) ++ news ++ cur.toList.drop (tq * i.size + news.length)).toArray) := by
 have hf := run_firstCells_some (P := P) w i.size m a m c news hl uB
 have wY := run_storeCells_at P g (tq * i.size) e0 news 0 cur w hg (by simpa using pt) h1
 simp only [Nat.add_zero] at wY
 simp [Builtin.append_, run_underlying ht, sizeOf, typeInfo, hi, Builtin.lenOf, tM, hf, Addr.add_lit, wY]
theorem kN (t ty e e0 : TypeId) (i : TypeInfo) (z : Value) (ht : P.underlying t = some (.slice e)) (hi : P.info? e = some i) (hz : i.zero = some z)
  (tr : z.cells.size = i.size) (vL : 0 < i.size) (v : Value) (n : Nat) (xs : List Value) (wI : w.ownsRow 0 e0 i.size v n xs)
  (a : Addr) (m c : Nat) (news : List Value) (hl : news.length = m * i.size) (uB : ∀ j u, news[j]? = some u -> w.cell? (a.add j) = some u) (h1 : ∀ u ∈ news, u.oneCell' = true)
  (lE : n + m <= maxLen) (vb : (n + m) * i.bytes <= 140737488355328) :
  ∃ v' w' e1, (Builtin.append_ #[t, t] ty #[v, .slice (some a) m c]).run P w = .ok v' w' /\ w'.ownsRow 0 e1 i.size v' (n + m) (xs ++ news) /\ w.grownBy w' (blk v) /\
   (∀ b, blk v' = some b -> (w.heap.size <= b /\ b < w'.heap.size) \/ blk v = some b) := by
 have hlen : (xs ++ news).length = (n + m) * i.size := by rw [List.length_append, wI.1, hl, Nat.add_mul]
 rcases wI.2 with ⟨rfl, rfl⟩ | ⟨g, cap, cur, rfl, _, hg, vw, pN, uH, nR⟩
 ·have hx : xs = [] := List.eq_nil_of_length_eq_zero (by simpa using wI.1)
  subst hx
  obtain ⟨v', w', hr, ho, uC, _⟩ := run_append_own (P := P) w w.heap.size t ty e i z i.size i.bytes ht hi hz rfl rfl tr vL (.slice none 0 0) 0 [] (World.ownsRow_nil w _ e i.size) a m c news hl uB h1 lE vb (Nat.le_refl _)
  refine ⟨v', w', e, hr, ?_, uC, fun b hb => .inl ?_⟩
  ·refine ⟨ho.1, ho.2.imp id ?_⟩
   rintro ⟨g, cap, cur, hv, _, rest⟩
   exact ⟨g, cap, cur, hv, Nat.zero_le _, rest⟩
  ·have wS : v'.ownBlock = some b := by
    cases v' with
    | slice o l c => cases o with
     | none => simp [blk] at hb
     | some ad => simpa [blk, Value.ownBlock] using hb
    | pointer o => rcases ho.2 with ⟨hv, _⟩ | ⟨g, cap, cur, hv, _⟩ <;> cases hv
    | _ => simp [blk] at hb
   exact ho.lt b wS
 ·by_cases tM : n + m <= cap
  ·have pt : n * i.size + news.length <= cur.size := by rw [hl, uH, <- Nat.add_mul]; exact Nat.mul_le_mul_right _ tM
   have hr := U2 (P := P) (w := w) t ty e e0 i ht hi g n cap cur hg a m c news hl uB h1 tM pt
   refine ⟨_, _, e0, hr, ⟨hlen, .inr ⟨g, cap, _, rfl, Nat.zero_le _, setRow_heap w g cur _ e0 _ hg, tM, pN, ?_, ?_⟩⟩, ⟨rfl, rfl, rfl, by simp [World.setRow], fun k _ hk => setRow_other w g k _ (fun e => hk (by simp [blk, e]))⟩, fun b hb => .inr (by simpa [blk] using hb)⟩
   ·simp only [List.size_toArray, List.length_append, List.length_take, List.length_drop, Array.length_toList]
    omega
   ·rw [nR, <- hlen]
    exact List.take_left
  ·have holds : ∀ j u, xs[j]? = some u -> w.cell? ((⟨g, 0, none⟩ : Addr).add j) = some u := wI.cells (g := g) rfl
   have lL : n + m <= 9223372036854775807 := by simp only [maxLen] at lE; omega
   have hr := run_append_grow (P := P) w t ty e i z ht hi hz ⟨g, 0, none⟩ n cap xs wI.1 holds a m c news hl uB (by omega) (by omega) (growslice_fits (by omega) vb)
   have tA := grownCap_ge w (n + m) cap e
   have lM : grownCap w (n + m) cap e <= maxLen := grownCap_le_maxLen w (n + m) cap e lE
   refine ⟨_, _, e, hr, ⟨hlen, .inr ⟨w.heap.size, _, _, rfl, Nat.zero_le _, heap_alloc_new w.drew _, tA, lM, ?_, ?_⟩⟩, ⟨rfl, rfl, rfl, by simp, fun k hk _ => (World.grownBy_alloc w.drew _ none).block k hk (by simp)⟩, fun b hb => .inl ?_⟩
   ·simp only [Array.size_append, List.size_toArray, size_zeroCells, tr, wI.1, hl, <- Nat.add_mul]
    congr 1
    omega
   ·simp only [Array.toList_append, List.append_assoc]
    rw [<- List.append_assoc, <- hlen]
    exact List.take_left
   ·simp [blk] at hb; subst hb; simp
theorem y7 (t ty e : TypeId) (i : TypeInfo) (ht : P.underlying t = some (.slice e)) (hi : P.info? e = some i) (base : Option Addr) (n cap : Nat) (vw : n <= cap) (hb : base = none -> cap = 0) :
  (Builtin.append_ #[t, t] ty #[.slice base n cap, .slice none 0 0]).run P w = .ok (.slice base n cap) w := by
 cases base with
 | none =>
  have := hb rfl; subst this
  have : n = 0 := by omega
  subst this
  simp [Builtin.append_, run_underlying ht, sizeOf, typeInfo, hi, Builtin.lenOf, Builtin.firstCells]
 | some ad => simp [Builtin.append_, run_underlying ht, sizeOf, typeInfo, hi, Builtin.lenOf, Builtin.firstCells, vw, storeCells]
theorem Rel.less (r : Rel T0 B σ a w X h) {σ' : St} (hl : σ'.length = σ.length) (vC : ∀ t, σ'.get t = σ.get t) (hk : ∀ t j, σ'.ob t j ≠ .none -> σ'.ob t j = σ.ob t j) : Rel T0 B σ' a w X h := by
 have back : ∀ t j o, σ'.ob t j = o -> o ≠ .none -> σ.ob t j = o := by
  intro t j o ho wD
  rw [<- hk t j (by rw [ho]; exact wD)]; exact ho
 have at_ : ∀ {x : At} {v : Value}, (fun _ : At => false) x = false -> Zr (Tof T0 X) h σ.ob w x v -> Zr (Tof T0 X) h σ'.ob w x v := by
  intro x v _ rx
  cases x with
  | any => exact rx
  | d x => exact rx
  | nil s => exact rx
  | sref u i lo len => exact ⟨rx.1, fun q size rows ho => rx.2.1 q size rows (back u i _ ho (by simp)), fun size rows ho => rx.2.2 size rows (back u i _ ho (by simp))⟩
  | ptr u i k c => exact ⟨rx.1, fun q size rows ho => rx.2 q size rows (back u i _ ho (by simp))⟩
  | bptr u c => exact ⟨rx.1, fun cells ho => rx.2 cells (back u 0 _ ho (by simp))⟩
  | fn f u => exact ⟨rx.1, fun cells ho => rx.2 cells (back u 0 _ ho (by simp))⟩
  | tref u i k c o => exact ⟨rx.1, fun size rows ho => rx.2 size rows (back u i _ ho (by simp))⟩
  | rptr rr c => exact rx
 have vF : ∀ u i, σ'.ob u i ≠ .none -> σ.ob u i ≠ .none := fun u i hn => by rw [<- hk u i hn]; exact hn
 refine ⟨by rw [r.size, hl], r.defers, r.hB, r.hX, r.hT, fun u hu => ?_, fun u i => ?_, fun u i b hn => r.ub u i b (vF u i hn), fun u i b hn => r.own u i b (vF u i hn), fun u i u' i' b hn wu => r.inj u i u' i' b (vF u i hn) (vF u' i' wu)⟩
 ·rw [vC u]; exact XC.map at_ (zo _) (r.slot u (by omega))
 ·by_cases hn : σ'.ob u i = .none
  ·rw [hn]; trivial
  ·rw [hk u i hn]
   exact Xu.map at_ (fun b k v hb hc => ⟨hc, hb⟩) (fun ho b => r.ub u i b ho) (fun _ _ _ => rfl) (yr _) (r.obj u i)
theorem St.W1 (σ : St) (t j u i : Nat) : (σ.Ze t j .none).ob u i = if u = t /\ i = j then .none else σ.ob u i := by
 by_cases wZ : σ.ob t j = .none
 ·have key : ∀ (σ : St) (t u : Nat), σ.ob t j = .none -> (σ.Ze t j .none).ob u i = σ.ob u i := by
   intro σ
   induction σ with
   | nil => intro t u _; simp [St.Ze]
   | cons e σ ih =>
    intro t u ho
    cases t with
    | zero => cases u with
     | zero =>
      simp only [St.Ze, St.ob, List.getElem?_cons_zero, MJ] at ho ⊢
      split
      ·rename_i hh; rw [hh.1, ho]
      ·rfl
     | succ u => simp [St.Ze, St.ob]
    | succ t => cases u with
     | zero => simp [St.Ze, St.ob]
     | succ u =>
      have := ih t u (by simpa [St.ob] using ho)
      simp only [St.ob, St.Ze] at this ⊢; simpa using this
  rw [key σ t u wZ]
  split
  ·rename_i hh; rw [hh.1, hh.2]; exact wZ
  ·rfl
 ·exact St.XF σ t j _ u i wZ
theorem Rel.drop (r : Rel T0 B σ a w X h) (t j : Nat) : Rel T0 B (σ.Ze t j .none) a w X h := by
 refine r.less (St.YZ _ _ _ _) (fun u => St.XK _ _ _ _ u) (fun u i hn => ?_)
 rw [St.W1] at hn ⊢
 split
 ·rename_i hh; rw [if_pos hh] at hn; exact absurd rfl hn
 ·rfl
def St.Zn : St -> List (Nat × Nat) -> St
 | σ, [] => σ
 | σ, p :: l => St.Zn (σ.Ze p.1 p.2 .none) l
theorem St.zS : ∀ (l : List (Nat × Nat)) (σ : St), (σ.Zn l).length = σ.length
 | [], σ => rfl
 | p :: l, σ => by rw [St.Zn, St.zS l, St.YZ]
theorem St.qF : ∀ (l : List (Nat × Nat)) (σ : St) (t : Nat), (σ.Zn l).get t = σ.get t
 | [], σ, t => rfl
 | p :: l, σ, t => by rw [St.Zn, St.qF l, St.XK]
theorem St.Qx : ∀ (l : List (Nat × Nat)) (σ : St) (t j : Nat), (σ.Zn l).ob t j = if (t, j) ∈ l then .none else σ.ob t j
 | [], σ, t, j => by simp [St.Zn]
 | p :: l, σ, t, j => by
  rw [St.Zn, St.Qx l, St.W1]
  by_cases h1 : (t, j) ∈ l
  ·simp [h1]
  ·by_cases h2 : t = p.1 /\ j = p.2
   ·have : (t, j) = p := by rw [h2.1, h2.2]
    rw [if_neg h1, if_pos h2, if_pos (by rw [this]; simp)]
   ·have : ¬ (t, j) = p := fun e => h2 (by rw [<- e]; exact ⟨rfl, rfl⟩)
    simp [h1, h2, this]
theorem Rel.Zn (r : Rel T0 B σ a w X h) (l : List (Nat × Nat)) : Rel T0 B (σ.Zn l) a w X h := by
 refine r.less (St.zS l σ) (St.qF l σ) (fun u i hn => ?_)
 rw [St.Qx] at hn ⊢
 split
 ·rename_i hh; rw [if_pos hh] at hn; exact absurd rfl hn
 ·rfl
end
end Go.Vm
namespace Go.Vm
open Go.RowKit
section
variable {P : Program} {T0 : CS} {B : Nat -> Prop} {σ : St} {a : Act} {w w' : World} {X X' : Nat -> Prop} {h : Nat -> Nat -> Hd}
theorem Kl {T : TypeId} (hz : Yz P T = true) : ∃ i z row, P.info? T = some i /\ i.zero = some z /\ yD P 12 T = some row /\ i.size = row.length /\ z.cells.size = i.size /\ i.size = P.cellsOf T /\ (∀ T' h ob w, Zc (Zr T' h ob w) row z.cells.toList) := by
 have uE : ∃ row, yD P 12 T = some row := by
  unfold Yz at hz
  split at hz
  ·rename_i row i hr hi; exact ⟨row, hr⟩
  ·cases hz
 obtain ⟨row, hr⟩ := uE
 obtain ⟨i, z, hi, tO, vL, wC⟩ := Re hz hr
 refine ⟨i, z, row, hi, tO, hr, vL, ?_, by simp [Program.cellsOf, hi], wC⟩
 have := (wC (fun _ _ => True) (fun _ _ => Hd.of undef) (fun _ _ => .none) default).length
 have e1 : z.cells.toList.length = z.cells.size := Array.length_toList
 omega
def zx (σ : St) (x : V) (size : Nat) (news : List (List D)) : Prop :=
 match x with
 | .one (.d (.sl s rows)) => s = size /\ news = rows
 | .one (.nil _) => news = []
 | .one (.sref t j lo len) => ∃ rows, σ.ob t j = .arr false size rows /\ lo + len <= rows.length /\ news = cut rows lo len
 | _ => False
def jj (σ : St) (x : V) (size : Nat) (wE : List (List D)) (σ1 : St) : Prop :=
 match x with
 | .one (.nil _) => wE = [] /\ σ1 = σ
 | .one (.sref t j lo len) => ∃ rows, σ.ob t j = .arr false size rows /\ lo = 0 /\ len <= rows.length /\ wE = rows.take len /\ σ1 = σ.Ze t j .none
 | _ => False
theorem Ig (v : Value) (n : Nat) : blk (NZ v n) = blk v := by
 cases v with
 | slice o _ _ => cases o <;> rfl
 | _ => rfl
theorem Oc (rows : List (List D)) (size : Nat) (hz : ∀ r ∈ rows, r.length = size) (len : Nat) (hle : len <= rows.length) : (rows.take len).flatten = rows.flatten.take (len * size) := by
 induction rows generalizing len with
 | nil => simp
 | cons r rows ih =>
  cases len with
  | zero => simp
  | succ len =>
   have h1 := hz r (by simp)
   have h2 := ih (fun q hq => hz q (by simp [hq])) len (by simpa using hle)
   have h3 : (len + 1) * size = r.length + len * size := by rw [Nat.add_mul, h1]; omega
   rw [List.take_succ_cons, List.flatten_cons, List.flatten_cons, h2, h3, List.take_length_add_append]
theorem Oo {e : TypeId} {size : Nat} {v : Value} {n len : Nat} {xs : List Value} (ho : w.ownsRow 0 e size v n xs) (hle : len <= n) : w.ownsRow 0 e size (NZ v len) len (xs.take (len * size)) := by
 have hm : len * size <= n * size := Nat.mul_le_mul_right _ hle
 refine ⟨by rw [List.length_take, ho.1]; omega, ?_⟩
 rcases ho.2 with ⟨rfl, rfl⟩ | ⟨g, cap, cur, rfl, hx, hg, vw, pN, uH, uj⟩
 ·have : len = 0 := by omega
  subst this
  exact .inl ⟨rfl, rfl⟩
 ·refine .inr ⟨g, cap, cur, rfl, hx, hg, by omega, pN, uH, ?_⟩
  rw [<- uj, List.take_take]
  congr 1
  omega
theorem Pg (r : Rel T0 B σ a w X h) {x : V} {v : Value} {size : Nat} {news : List (List D)} (hs : zx σ x size news) (hv : XC (Tof T0 X) h σ.ob w x v) :
  (∀ n ∈ news, n.length = size) /\ ((v = .slice none 0 0 /\ news = []) \/ ∃ ad c xs, v = .slice (some ad) news.length c /\ (∀ j u, xs[j]? = some u -> w.cell? (ad.add j) = some u) /\ Zc (Rd (Tof T0 X) w) xs news.flatten) := by
 unfold zx at hs
 split at hs
 ·rename_i s rows
  obtain ⟨rfl, rfl⟩ := hs
  refine ⟨Pa (show Rd _ _ _ _ from hv), ?_⟩
  cases (show Rd _ _ _ _ from hv) with
  | nil => exact .inl ⟨rfl, rfl⟩
  | sl ad len cap s rows g hl hc hm hz sI hg hr =>
   refine .inr ⟨ad, cap, (List.range news.flatten.length).map g, by rw [hl], fun j u hu => ?_, ?_⟩
   ·rw [List.getElem?_map] at hu
    rcases Nat.lt_or_ge j news.flatten.length with hj | hj
    ·rw [List.getElem?_range hj] at hu
     cases hu
     have wD : news.flatten ≠ [] := by intro he; rw [he] at hj; simp at hj
     have := (hg j _ (List.getElem?_eq_getElem hj)).1
     obtain ⟨b, off, sp⟩ := ad
     have := sI wD
     simp at this; subst this
     rw [K2]; assumption
    ·rw [List.getElem?_eq_none (by simpa using hj)] at hu; cases hu
   ·refine Zc.Jm (by simp) (fun k u d hu hd => ?_)
    rw [List.getElem?_map] at hu
    have hk := (List.getElem?_eq_some_iff.1 hd).1
    rw [List.getElem?_range hk] at hu
    cases hu
    exact hr k d hd
 ·subst hs
  exact ⟨(by intro n hn; cases hn), .inl ⟨hv, rfl⟩⟩
 ·rename_i t j lo len
  obtain ⟨rows, ho, hle, rfl⟩ := hs
  have h0 := r.obj t j
  rw [ho] at h0
  obtain ⟨e, xs, ⟨hl, wI⟩, hz, wC⟩ := h0
  refine ⟨fun x hx => hz x (List.mem_of_mem_drop (List.mem_of_mem_take hx)), ?_⟩
  have tb : Zr (Tof T0 X) h σ.ob w (.sref t j lo len) v := hv
  obtain ⟨_, _, _, base, cap, rfl, vi, _, pY, hb⟩ := tb.2.1 _ size rows ho
  have wh : (cut rows lo len).length = len := Y4 _ _ _ hle
  by_cases vN : 0 < len
  ·obtain ⟨b, tP, hh, rfl⟩ := hb vN
   rcases wI with ⟨hn, _⟩ | ⟨g, pz, cur, tb, _, lJ, vw, v9, uH, uj⟩
   ·rw [hh] at hn; cases hn
   ·rw [hh] at tb; cases tb
    refine .inr ⟨_, cap, cut xs (lo * size) (len * size), by rw [wh], fun j u hu => ?_, ?_⟩
    ·have h1 := Kf _ _ _ _ _ hu
     rw [K2]
     refine JQ lJ _ _ ?_
     rw [<- uj, List.getElem?_take] at h1
     split at h1
     ·exact h1
     ·cases h1
    ·have p8 : xs.length = rows.length * size := by rw [wC.length, Zy rows size hz]
     have hmul : lo * size + len * size <= rows.length * size := by rw [<- Nat.add_mul]; exact Nat.mul_le_mul_right _ hle
     refine Zc.Jm ?_ (fun k u d hu hd => ?_)
     ·rw [Y4 _ _ _ (by omega), Zy (cut rows lo len) size (fun x hx => hz x (List.mem_of_mem_drop (List.mem_of_mem_take hx))), wh]
     ·have h1 := Kf _ _ _ _ _ hu
      have h2 := Kx rows size lo len hz k d hd
      obtain ⟨d', wO, hr⟩ := wC.get _ _ h1
      rw [h2] at wO; cases wO
      exact hr
  ·have : len = 0 := by omega
   subst this
   have uc : cut rows lo 0 = [] := by simp [cut]
   rw [uc]
   cases base with
   | none => have := pY rfl; subst this; exact .inl ⟨rfl, rfl⟩
   | some ad => exact .inr ⟨ad, cap, [], rfl, by simp, .nil⟩
 ·exact hs.elim
theorem O1 (r : Rel T0 B σ a w X h) {o : Oper} {t : TypeId} {x y : Operand} {d : Nat} {wE news : List (List D)} {σ1 : St} (wA : o.op = .call ⟨.builtin .append, #[x, y], #[t, t]⟩) (hd : o.dst = some d)
  (sB : gOf (look P σ t x) = true) (sC : gOf (look P σ t y) = true) (ht : YJ P t = true) (hz : Yz P (ZE P t) = true) (vN : 0 < P.cellsOf (ZE P t))
  (v8 : jj σ (unc (look P σ t x)) (P.cellsOf (ZE P t)) wE σ1) (uh : zx σ (unc (look P σ t y)) (P.cellsOf (ZE P t)) news) (w9 : σ1.fresh d = true)
  (vb : (wE.length + news.length) * P.bytesOf (ZE P t) <= 140737488355328) (pv : wE.length + news.length <= 9223372036854775807)
  {K : Act -> World -> Prop} {Q : Exit -> Act -> World -> Prop} (hK : ∀ a' w', X7 T0 B (σ1.new d (.one (.sref d 0 0 (wE.length + news.length))) [.arr false (P.cellsOf (ZE P t)) (wE ++ news)]) a' w' -> Yj B w w' -> K a' w') : o.wp P a w K Q := by
 obtain ⟨ti, hu, hi, ud⟩ := Yo ht
 obtain ⟨i, z, row, vd, tO, uE, uk, tr, vt, uG⟩ := Kl hz
 rw [hi] at vd; cases vd
 have pw : P.bytesOf (ZE P t) = ti.bytes := by simp [Program.bytesOf, hi]
 rw [pw] at vb
 rw [<- vt] at v8 uh vN hK
 have rq := r.arg (P := P) t x rfl sB
 have nr := r.arg (P := P) t y rfl sC
 obtain ⟨nO, vS⟩ := Pg r uh nr
 have vX : ∃ e0 xs, w.ownsRow 0 e0 ti.size (a.eval x) wE.length xs /\ (∀ q ∈ wE, q.length = ti.size) /\ Zc (Rd (Tof T0 X) w) xs wE.flatten /\ Rel T0 B σ1 a w X h /\
   (∀ b, blk (a.eval x) = some b -> ¬ B b /\ ¬ X b /\ b < w.heap.size /\ ∀ u j, σ1.ob u j ≠ .none -> ¬ (h u j).u b) := by
  unfold jj at v8
  split at v8
  ·rename_i s heq
   obtain ⟨rfl, rfl⟩ := v8
   rw [heq] at rq
   have he : a.eval x = .slice none 0 0 := rq
   rw [he]
   exact ⟨0, [], World.ownsRow_nil w 0 0 _, (by intro q hq; cases hq), .nil, r, (fun b hb => by cases hb)⟩
  ·rename_i u j lo len heq
   obtain ⟨rows, ho, rfl, hle, rfl, rfl⟩ := v8
   rw [heq] at rq
   have p9 : Zr (Tof T0 X) h σ.ob w (.sref u j 0 len) (a.eval x) := rq
   obtain ⟨_, _, u4, _⟩ := p9.2.1 _ _ _ ho
   have he : a.eval x = NZ (h u j).v len := u4 rfl
   have h0 := r.obj u j
   rw [ho] at h0
   obtain ⟨e, xs, wI, rp, wC⟩ := h0
   have wZ : σ.ob u j ≠ .none := by rw [ho]; simp
   have lN : (rows.take len).length = len := by rw [List.length_take]; omega
   have vZ : (rows.take len).flatten = rows.flatten.take (len * ti.size) := Oc rows ti.size rp len hle
   refine ⟨e, xs.take (len * ti.size), by rw [he, lN]; exact Oo wI hle, fun q hq => rp q (List.mem_of_mem_take hq), by rw [vZ]; exact wC.take _, r.drop u j, fun b hb => ?_⟩
   rw [he, Ig] at hb
   have iA := r.ub u j b wZ hb
   have uv := r.own u j b wZ iA
   refine ⟨uv.1, uv.2.1, uv.2.2, fun u' j' wD wS => ?_⟩
   have lO : σ.ob u' j' ≠ .none := by
    intro hh
    rw [St.XF σ u j _ u' j' wZ] at wD
    split at wD
    ·exact wD rfl
    ·exact wD hh
   have := r.inj u j u' j' b wZ lO iA wS
   obtain ⟨rfl, rfl⟩ := this
   rw [St.XF σ u j _ u j wZ] at wD
   simp at wD
  ·exact v8.elim
 obtain ⟨e0, xs, wI, lG, px, r1, vI⟩ := vX
 have oA : ∀ q ∈ wE ++ news, q.length = ti.size := by
  intro q hq
  rcases List.mem_append.1 hq with hq | hq
  ·exact lG q hq
  ·exact nO q hq
 have key : ∀ (v' : Value) (w' : World) (e1 : TypeId) (ys : List Value), (Builtin.append_ #[t, t] o.type #[a.eval x, a.eval y]).run P w = .ok v' w' -> w'.ownsRow 0 e1 ti.size v' (wE.length + news.length) (xs ++ ys) ->
   Zc (Rd (Tof T0 X) w) ys news.flatten -> w.grownBy w' (blk (a.eval x)) -> (∀ b, blk v' = some b -> (w.heap.size <= b /\ b < w'.heap.size) \/ blk (a.eval x) = some b) -> o.wp P a w K Q := by
  intro v' w' e1 ys wU wV rD uC pM
  have wN := St.JF w9
  have hT : ∀ b k v, Tof T0 X b k -> w.cell? ⟨b, k, none⟩ = some v -> w'.cell? ⟨b, k, none⟩ = some v /\ Tof T0 X b k := by
   intro b k v hb wJ
   refine ⟨?_, hb⟩
   have wD : some b ≠ blk (a.eval x) := by
    intro e
    have h1 := vI b e.symm
    rcases hb with hb | hb
    ·exact h1.1 (r.hT b k hb)
    ·exact h1.2.1 hb
   rw [World.cell?_of_block (uC.block b (r.Tlt hb) wD)]; exact wJ
  unfold Oper.wp
  have rF : (execOp a.eval o).run P w = .ok (.value v') w' := by
   simp only [execOp, wA, resolve, invoke, builtin, Sem.run_bind, Sem.run_pure, Result.andThen_ok, List.map_toArray, List.map_cons, List.map_nil, wU]
  rw [rF, Oper.upon_value, hd]
  refine hK _ _ ⟨X, fun u j => if u = d then Hd.of v' else h u j, ?_⟩ ⟨uC.os, uC.tape, uC.output, uC.size, fun k hk => uC.block k (r.hB k hk) (fun e => (vI k e.symm).1 hk)⟩
  have vP : (σ1.new d (.one (.sref d 0 0 (wE.length + news.length))) [.arr false ti.size (wE ++ news)]).ob d 0 = .arr false ti.size (wE ++ news) := by rw [St.Xo]; simp [wN, Z2]
  have uQ : w'.ownsRow 0 e1 ti.size v' (wE ++ news).length (xs ++ ys) := by rw [List.length_append]; exact wV
  have tQ : Zc (Rd (Tof T0 X) w') (xs ++ ys) (wE ++ news).flatten := by
   rw [List.flatten_append]
   exact (px.imp fun _ _ => Rd.mono hT).append (rD.imp fun _ _ => Rd.mono hT)
  refine r1.H7 w9 (fun b => blk (a.eval x) = some b) uC.size (fun k hk wD => uC.block k hk (fun e => wD e.symm)) (fun b hb => ⟨(vI b hb).1, (vI b hb).2.1, fun u j _ wD => (vI b hb).2.2.2 u j wD⟩) (fun _ hb => hb) (fun _ hb => .inl hb) _ _ [.arr false ti.size (wE ++ news)] (fun _ => Hd.of v') ?_ (fun j => ?_) (fun j b _ hb => hb) (fun j b wD wS => ?_) (fun j j' b wD wv _ _ => ?_)
  ·refine ⟨Qv wV, fun q' wg wP hh => ?_, fun wg wP hh => by rw [vP] at hh; cases hh⟩
   rw [vP] at hh; cases hh
   simp only [if_true, List.length_append]
   have := Wf uQ
   rwa [List.length_append] at this
  ·cases j with
   | zero => exact ⟨e1, xs ++ ys, uQ, oA, tQ⟩
   | succ j => simp [Z2, Xu]
  ·rcases pM b wS with h1 | h1
   ·exact ⟨.inl h1.1, fun hx => by have := (r.hX b hx).2; omega, h1.2⟩
   ·have h2 := vI b h1
    exact ⟨.inr h1, h2.2.1, by have := uC.size; omega⟩
  ·have : ∀ j, Z2 [Ob.arr false ti.size (wE ++ news)] j ≠ .none -> j = 0 := by
    intro j hj
    cases j with
    | zero => rfl
    | succ j => simp [Z2] at hj
   rw [this j wD, this j' wv]
 rcases vS with ⟨nS, rfl⟩ | ⟨ad, c, ys, nS, wJ, rD⟩
 ·have wi : ∃ base cap, a.eval x = .slice base wE.length cap /\ wE.length <= cap /\ (base = none -> cap = 0) := by
   rcases wI.2 with ⟨h1, h2⟩ | ⟨g, cap, cur, h1, _, _, vw, _⟩
   ·exact ⟨none, 0, by rw [h1, h2], by omega, fun _ => rfl⟩
   ·exact ⟨_, cap, h1, vw, (fun hh => by cases hh)⟩
  obtain ⟨base, cap, hex, vw, nP⟩ := wi
  refine key (a.eval x) w e0 [] ?_ (by simpa using wI) .nil ⟨rfl, rfl, rfl, Nat.le_refl _, fun _ _ _ => rfl⟩ (fun b hb => .inr hb)
  rw [hex, nS]
  exact y7 t o.type _ ti hu hi base wE.length cap vw nP
 ·have uX : ys.length = news.length * ti.size := by rw [rD.length, Zy news ti.size nO]
  obtain ⟨v', w', e1, wU, wV, uC, pM⟩ := kN (P := P) (w := w) t o.type _ e0 ti z hu hi tO tr (by omega) (a.eval x) wE.length xs wI ad news.length c ys uX wJ
   (fun u vm => by
    obtain ⟨k, hk⟩ := List.mem_iff_getElem?.1 vm
    obtain ⟨d', _, vU⟩ := rD.get k u hk
    exact Rd.Y1 vU) (by simp only [maxLen]; omega) vb
  refine key v' w' e1 ys ?_ wV rD uC pM
  rw [nS]; exact wU
end
end Go.Vm
namespace Go.Vm
open Go.RowKit
section
variable {P : Program} {T0 : CS} {B : Nat -> Prop} {σ : St} {a : Act} {w w' : World} {X X' : Nat -> Prop} {h : Nat -> Nat -> Hd}
def UH (P : Program) (σ : St) (T : TypeId) (size : Nat) : List (Nat × Operand) -> Nat -> List (List D) -> Prop
 | [], _, rs => rs = []
 | (i, x) :: ps, k, rs => i = k /\ gOf (look P σ T x) = true /\ (unc (look P σ T x)).flat = true /\ QF (unc (look P σ T x)).cells = true /\
   ∃ r rest, rowOf σ (unc (look P σ T x)).cells = some r /\ r.length = size /\ UH P σ T size ps (k + 1) rest /\ rs = r :: rest
theorem TV {α : Type} (l : List α) (o : Nat) (xs ys : List α) (hl : o + (xs ++ ys).length <= l.length) : place (place l o xs) (o + xs.length) ys = place l o (xs ++ ys) := by
 simp only [List.length_append] at hl
 unfold place
 have h1 : (l.take o ++ xs).length = o + xs.length := by simp; omega
 have h2 : (l.take o ++ xs ++ l.drop (o + xs.length)).take (o + xs.length) = l.take o ++ xs := by
  rw [List.take_append_of_le_length (by omega), List.take_of_length_le (by omega)]
 have h3 : (l.take o ++ xs ++ l.drop (o + xs.length)).drop (o + xs.length + ys.length) = l.drop (o + (xs ++ ys).length) := by
  rw [show o + xs.length + ys.length = (l.take o ++ xs).length + ys.length by omega, List.drop_length_add_append, List.drop_drop]
  congr 1; simp; omega
 rw [h2, h3]; simp
theorem Ui (r : Rel T0 B σ a w X h) (T : TypeId) (size : Nat) : ∀ (ps : List (Nat × Operand)) (k : Nat) (rs : List (List D)) (cells : Array Value), UH P σ T size ps k rs -> (k + ps.length) * size <= cells.size ->
   ∃ wG ys, Instr.fill (fun i => some (i * size, size)) cells (ps.map fun x => (x.1, a.eval x.2)) = some wG /\ wG.toList = place cells.toList (k * size) ys /\ Zc (Rd (Tof T0 X) w) ys rs.flatten /\ (∀ q ∈ rs, q.length = size) /\ rs.length = ps.length
 | [], k, rs, cells, hb, _ => by cases hb; exact ⟨cells, [], rfl, by simp [place], .nil, (by intro q hq; cases hq), rfl⟩
 | (i, x) :: ps, k, rs, cells, hb, hl => by
  obtain ⟨rfl, hg, hf, wY, r0, rest, uf, hlen, hb, rfl⟩ := hb
  have hx := xV hf (r.arg (P := P) T x rfl hg)
  have pO := r.rowOf true uf hx (fun _ => wY)
  simp only [if_true] at pO
  have rh := pO.length
  have e1 : cells.toList.length = cells.size := Array.length_toList
  have e2 : (a.eval x).cells.toList.length = (a.eval x).cells.size := Array.length_toList
  have hmul : (i + (ps.length + 1)) * size = i * size + size + ps.length * size := by rw [Nat.add_mul, Nat.add_mul]; omega
  simp only [List.length_cons] at hl
  have heq := ji (i * size) (a.eval x).cells cells (by omega)
  have uk : ((a.eval x).cells.zipIdx.foldl (fun cs x => cs.setIfInBounds (i * size + x.2) x.1) cells).size = cells.size := by
   rw [<- Array.length_toList, heq, XU _ _ _ (by omega), e1]
  have nX : (i + 1 + ps.length) * size = i * size + size + ps.length * size := by rw [Nat.add_mul, Nat.add_mul]; omega
  obtain ⟨wG, ys, h1, h2, h3, h4, h5⟩ := Ui r T size ps (i + 1) rest _ hb (by rw [uk]; omega)
  have uX : ys.length = ps.length * size := by rw [h3.length, Zy rest size h4, h5]
  refine ⟨wG, (a.eval x).cells.toList ++ ys, ?_, ?_, ?_, ?_, by simp [h5]⟩
  ·simp only [List.map_cons, Instr.fill]
   rw [if_neg (by simp; omega)]
   exact h1
  ·rw [h2, heq]
   rw [show (i + 1) * size = i * size + (a.eval x).cells.toList.length by rw [Nat.add_mul]; omega]
   exact TV _ _ _ _ (by simp; omega)
  ·rw [List.flatten_cons]; exact pO.append h3
  ·intro q hq
   rcases List.mem_cons.1 hq with rfl | hq
   ·exact hlen
   ·exact h4 q hq
theorem Uf (r : Rel T0 B σ a w X h) {o : Oper} {T : TypeId} {n : Nat} {parts : Array (Nat × Operand)} {d : Nat} {rows : List (List D)} (wA : o.op = .buildSlice T n parts) (hd : o.dst = some d) (w9 : σ.fresh d = true)
  (ht : YJ P T = true) (hz : Yz P (ZE P T) = true) (vN : 0 < P.cellsOf (ZE P T)) (hn : parts.toList.length = n) (l8 : n * P.cellsOf (ZE P T) <= 16777216) (hb : UH P σ (ZE P T) (P.cellsOf (ZE P T)) parts.toList 0 rows)
  {K : Act -> World -> Prop} {Q : Exit -> Act -> World -> Prop} (hK : ∀ a' w', X7 T0 B (σ.new d (.one (.sref d 0 0 rows.length)) [.arr false (P.cellsOf (ZE P T)) rows]) a' w' -> Yj B w w' -> K a' w') : o.wp P a w K Q := by
 obtain ⟨ti, hu, hi, ud⟩ := Yo ht
 obtain ⟨i, z, row, vd, tO, uE, uk, tr, vt, uG⟩ := Kl hz
 rw [hi] at vd; cases vd
 have uD : (zeroValue (ZE P T)).run P w = .ok z w := by simp [zeroValue, typeInfo, hi, tO]
 obtain ⟨zero, hzero⟩ : ∃ zero : Array Value, (n * P.cellsOf (ZE P T) = 0 -> zero = #[]) /\ (¬ n * P.cellsOf (ZE P T) = 0 -> zero = z.cells) := by
  by_cases h0 : n * P.cellsOf (ZE P T) = 0
  ·exact ⟨#[], fun _ => rfl, fun hh => absurd h0 hh⟩
  ·exact ⟨z.cells, fun hh => absurd hh h0, fun _ => rfl⟩
 obtain ⟨wG, ys, h1, h2, h3, h4, h5⟩ := Ui r (ZE P T) (P.cellsOf (ZE P T)) parts.toList 0 rows ((Array.range (n * P.cellsOf (ZE P T))).map (zero[· % zero.size]!)) hb (by simp [hn])
 have uX : ys.length = n * P.cellsOf (ZE P T) := by rw [h3.length, Zy rows _ h4, h5, hn]
 have wh : wG.toList = ys := by
  rw [h2]
  unfold place
  simp [uX]
 have uR : (parts.map fun (x : Nat × Operand) => (x.1, a.eval x.2)).toList = parts.toList.map fun x => (x.1, a.eval x.2) := by simp
 have wU : (execOp a.eval o).run P w = .ok (.value (.slice (some ⟨w.heap.size, 0, none⟩) n n)) (w.alloc (.cells wG (ZE P T))) := by
  have ua : ¬ (n * P.cellsOf (ZE P T) > 2 ^ 24) := by omega
  by_cases h0 : n * P.cellsOf (ZE P T) = 0
  ·have tW := hzero.1 h0
   subst tW
   simp only [execOp, wA, Instr.buildSlice, Sem.run_bind, run_underlying hu, Result.andThen_ok, Xj hi, if_neg ua, if_pos h0, uR, h1, newRow, Sem.run_pure, run_newObj_alloc]
  ·have tW := hzero.2 h0
   subst tW
   simp only [execOp, wA, Instr.buildSlice, Sem.run_bind, run_underlying hu, Result.andThen_ok, Xj hi, if_neg ua, if_neg h0, uD, uR, h1, newRow, Sem.run_pure, run_newObj_alloc]
 unfold Oper.wp
 rw [wU, Oper.upon_value, hd]
 have hlen : rows.length = n := by rw [h5, hn]
 have hT : ∀ b k v, Tof T0 X b k -> w.cell? ⟨b, k, none⟩ = some v -> (w.alloc (.cells wG (ZE P T))).cell? ⟨b, k, none⟩ = some v /\ Tof T0 X b k := by
  intro b k v hb wJ
  refine ⟨?_, hb⟩
  rw [World.cell?_of_block ((World.grownBy_alloc w (.cells wG (ZE P T)) none).block b (r.Tlt hb) (by simp))]; exact wJ
 have rG : wG.size = n * P.cellsOf (ZE P T) := by rw [<- Array.length_toList, wh, uX]
 have v9 : n <= maxLen := by
  have : n <= n * P.cellsOf (ZE P T) := Nat.le_mul_of_pos_right _ vN
  simp only [maxLen]; omega
 have := r.Ik w9 (World.grownBy_alloc w (.cells wG (ZE P T)) none) (.slice (some ⟨w.heap.size, 0, none⟩) n n) (size := P.cellsOf (ZE P T)) (rows := rows)
  ⟨ZE P T, ys, ⟨by rw [uX, hlen], .inr ⟨w.heap.size, n, wG, by rw [hlen], Nat.zero_le _, heap_alloc_new w _, by omega, v9, rG, by rw [wh, hlen, List.take_of_length_le (by omega)]⟩⟩, h4, h3.imp fun _ _ => Rd.mono hT⟩
  (fun b hb => by simp [blk] at hb; subst hb; exact ⟨Nat.le_refl _, by simp⟩)
 exact hK _ _ this.1 this.2
theorem NC (r : Rel T0 B σ a w X h) {o : Oper} {T : TypeId} {n : Nat} {parts : Array (Nat × Operand)} {d : Nat} {rows : List (List D)} (wA : o.op = .buildSlice T n parts) (hd : o.dst = some d)
  (ht : YJ P T = true) (hz : Yz P (ZE P T) = true) (vN : 0 < P.cellsOf (ZE P T)) (hn : parts.toList.length = n) (l8 : n * P.cellsOf (ZE P T) <= 16777216) (hb : UH P σ (ZE P T) (P.cellsOf (ZE P T)) parts.toList 0 rows)
  {K : Act -> World -> Prop} {Q : Exit -> Act -> World -> Prop} (hK : ∀ a' w', X7 T0 B (σ.put d (.one (.d (.sl (P.cellsOf (ZE P T)) rows)))) a' w' -> Yj B w w' -> K a' w') : o.wp P a w K Q := by
 obtain ⟨ti, hu, hi, ud⟩ := Yo ht
 obtain ⟨i, z, row, vd, tO, uE, uk, tr, vt, uG⟩ := Kl hz
 rw [hi] at vd; cases vd
 have uD : (zeroValue (ZE P T)).run P w = .ok z w := by simp [zeroValue, typeInfo, hi, tO]
 obtain ⟨zero, hzero⟩ : ∃ zero : Array Value, (n * P.cellsOf (ZE P T) = 0 -> zero = #[]) /\ (¬ n * P.cellsOf (ZE P T) = 0 -> zero = z.cells) := by
  by_cases h0 : n * P.cellsOf (ZE P T) = 0
  ·exact ⟨#[], fun _ => rfl, fun hh => absurd h0 hh⟩
  ·exact ⟨z.cells, fun hh => absurd hh h0, fun _ => rfl⟩
 obtain ⟨wG, ys, h1, h2, h3, h4, h5⟩ := Ui r (ZE P T) (P.cellsOf (ZE P T)) parts.toList 0 rows ((Array.range (n * P.cellsOf (ZE P T))).map (zero[· % zero.size]!)) hb (by simp [hn])
 have uX : ys.length = n * P.cellsOf (ZE P T) := by rw [h3.length, Zy rows _ h4, h5, hn]
 have wh : wG.toList = ys := by
  rw [h2]
  unfold place
  simp [uX]
 have uR : (parts.map fun (x : Nat × Operand) => (x.1, a.eval x.2)).toList = parts.toList.map fun x => (x.1, a.eval x.2) := by simp
 have wU : (execOp a.eval o).run P w = .ok (.value (.slice (some ⟨w.heap.size, 0, none⟩) n n)) (w.alloc (.cells wG (ZE P T))) := by
  have ua : ¬ (n * P.cellsOf (ZE P T) > 2 ^ 24) := by omega
  by_cases h0 : n * P.cellsOf (ZE P T) = 0
  ·have tW := hzero.1 h0
   subst tW
   simp only [execOp, wA, Instr.buildSlice, Sem.run_bind, run_underlying hu, Result.andThen_ok, Xj hi, if_neg ua, if_pos h0, uR, h1, newRow, Sem.run_pure, run_newObj_alloc]
  ·have tW := hzero.2 h0
   subst tW
   simp only [execOp, wA, Instr.buildSlice, Sem.run_bind, run_underlying hu, Result.andThen_ok, Xj hi, if_neg ua, if_neg h0, uD, uR, h1, newRow, Sem.run_pure, run_newObj_alloc]
 unfold Oper.wp
 rw [wU, Oper.upon_value, hd]
 have hlen : rows.length = n := by rw [h5, hn]
 have sX := World.grownBy_alloc w (.cells wG (ZE P T)) none
 have r2 := r.grow (X' := fun b => X b \/ b = w.heap.size) sX (fun b hb => .inl hb) (fun b hb => hb.imp id (fun hh => by subst hh; exact ⟨Nat.le_refl _, by simp⟩))
 have hT : ∀ b k v, Tof T0 X b k -> w.cell? ⟨b, k, none⟩ = some v -> (w.alloc (.cells wG (ZE P T))).cell? ⟨b, k, none⟩ = some v /\ Tof T0 (fun b => X b \/ b = w.heap.size) b k := by
  intro b k v hb wJ
  refine ⟨?_, hb.imp id .inl⟩
  rw [World.cell?_of_block (sX.block b (r.Tlt hb) (by simp))]; exact wJ
 have rG : wG.size = n * P.cellsOf (ZE P T) := by rw [<- Array.length_toList, wh, uX]
 have v9 : n <= maxLen := by
  have : n <= n * P.cellsOf (ZE P T) := Nat.le_mul_of_pos_right _ vN
  simp only [maxLen]; omega
 refine hK _ _ ⟨_, _, r2.put d _ _ ?_⟩ (Yj.jE sX r.hB)
 exact Ls (e := ZE P T) (xs := ys) ⟨by rw [uX, hlen], .inr ⟨w.heap.size, n, wG, by rw [hlen], Nat.zero_le _, heap_alloc_new w _, by omega, v9, rG, by rw [wh, hlen, List.take_of_length_le (by omega)]⟩⟩ h4 (fun b k hb => by simp [blk] at hb; subst hb; exact .inr (.inr rfl)) (h3.imp fun _ _ => Rd.mono hT)
def zD : List At -> Option (List D)
 | [] => some []
 | .d x :: xs => (zD xs).map (x :: ·)
 | .nil s :: xs => (zD xs).map (.sl s [] :: ·)
 | _ => none
theorem O0 {T : CS} {ob : Nat -> Nat -> Ob} : ∀ {xs : List At} {ds : List D} {vs : List Value}, zD xs = some ds -> Zc (Zr T h ob w) xs vs -> Zc (Rd T w) vs ds
 | [], ds, vs, hz, wC => by cases wC; simp [zD] at hz; subst hz; exact .nil
 | x :: xs, ds, vs, hz, wC => by
  cases wC with
  | cons hx wC =>
   cases x with
   | d x =>
    simp only [zD, Option.map_eq_some_iff] at hz
    obtain ⟨sQ, uz, rfl⟩ := hz
    exact .cons hx (O0 uz wC)
   | nil s =>
    simp only [zD, Option.map_eq_some_iff] at hz
    obtain ⟨sQ, uz, rfl⟩ := hz
    cases hx
    exact .cons (.nil _) (O0 uz wC)
   | any => simp [zD] at hz
   | sref => simp [zD] at hz
   | ptr => simp [zD] at hz
   | bptr => simp [zD] at hz
   | fn => simp [zD] at hz
   | rptr => simp [zD] at hz
   | tref => simp [zD] at hz
theorem zX {α : Type} (z : List α) (n k : Nat) (hk : k < n * z.length) : (List.replicate n z).flatten[k]? = z[k % z.length]? := by
 induction n generalizing k with
 | zero => simp at hk
 | succ n ih =>
  rw [List.replicate_succ, List.flatten_cons]
  rcases Nat.lt_or_ge k z.length with wN | tA
  ·rw [List.getElem?_append_left wN, Nat.mod_eq_of_lt wN]
  ·rw [List.getElem?_append_right tA, ih (k - z.length) (by rw [Nat.add_mul] at hk; omega)]
   congr 1
   rw [Nat.mod_eq_sub_mod tA]
theorem T6 (r : Rel T0 B σ a w X h) {o : Oper} {T : TypeId} {x : Operand} {d : Nat} {k : IntKind} {n : Nat} {z : List At} {zr : List D} (wA : o.op = .makeSlice T x x) (hd : o.dst = some d) (w9 : σ.fresh d = true)
  (ht : YJ P T = true) (hz : Yz P (ZE P T) = true) (uE : yD P 12 (ZE P T) = some z) (np : zD z = some zr) (vN : 0 < P.cellsOf (ZE P T)) (hx : xk P σ x k (n : Int)) (pw : P.bytesOf (ZE P T) * n <= 281474976710656) (pv : n <= 9223372036854775807)
  {K : Act -> World -> Prop} {Q : Exit -> Act -> World -> Prop} (hK : ∀ a' w', X7 T0 B (σ.new d (.one (.sref d 0 0 n)) [.arr false (P.cellsOf (ZE P T)) (List.replicate n zr)]) a' w' -> Yj B w w' -> K a' w') : o.wp P a w K Q := by
 obtain ⟨ti, hu, hi, ud⟩ := Yo ht
 obtain ⟨i, zv, row, vd, tO, rE, uk, tr, vt, uG⟩ := Kl hz
 rw [hi] at vd; cases vd
 rw [uE] at rE; cases rE
 have hex := Jr r hx
 have oB : (ti.bytes : Int) * (n : Int) <= 281474976710656 := by
  have : P.bytesOf (ZE P T) = ti.bytes := by simp [Program.bytesOf, hi]
  rw [this] at pw
  have h : ((ti.bytes * n : Nat) : Int) <= 281474976710656 := by omega
  rwa [Int.natCast_mul] at h
 have wU := run_make (P := P) w T (ZE P T) ti zv hu hi tO k k n n (by omega) (Int.le_refl _) oB (by omega)
 simp only [Int.toNat_natCast] at wU
 unfold Oper.wp
 simp only [execOp, wA, hex, Sem.run_bind, wU, Result.andThen_ok, Sem.run_pure, Oper.upon_value, hd]
 have ru := O0 np (uG (Tof T0 X) h σ.ob w)
 have gQ := ru.length
 have e1 : zv.cells.toList.length = zv.cells.size := Array.length_toList
 have tv : zr.length = ti.size := by omega
 have hT : ∀ b k v, Tof T0 X b k -> w.cell? ⟨b, k, none⟩ = some v -> (w.alloc (.cells (madeCells zv.cells (n * ti.size)) (ZE P T))).cell? ⟨b, k, none⟩ = some v /\ Tof T0 X b k := by
  intro b k v hb wJ
  refine ⟨?_, hb⟩
  rw [World.cell?_of_block ((World.grownBy_alloc w (.cells (madeCells zv.cells (n * ti.size)) (ZE P T)) none).block b (r.Tlt hb) (by simp))]; exact wJ
 have uS : (madeCells zv.cells (n * ti.size)).toList.length = n * ti.size := by rw [Array.length_toList, size_madeCells]
 have rH : ∀ q u, (madeCells zv.cells (n * ti.size)).toList[q]? = some u -> zv.cells.toList[q % ti.size]? = some u := by
  intro q u hq
  have wN : q < n * ti.size := by have := (List.getElem?_eq_some_iff.1 hq).1; omega
  have oC : q % ti.size < zv.cells.size := by rw [tr]; exact Nat.mod_lt _ (by omega)
  have : (madeCells zv.cells (n * ti.size)).toList[q]? = some (zv.cells[q % zv.cells.size]!) := by
   simp [madeCells, wN]
  rw [this] at hq
  cases hq
  rw [tr]
  simp [oC]
 have tQ : Zc (Rd (Tof T0 X) w) (madeCells zv.cells (n * ti.size)).toList (List.replicate n zr).flatten := by
  refine Zc.Jm (by rw [uS, Zy _ ti.size (by intro q hq; rw [List.eq_of_mem_replicate hq]; exact tv)]; simp) (fun q u dd hq uW => ?_)
  have wN : q < n * ti.size := by have := (List.getElem?_eq_some_iff.1 hq).1; omega
  rw [zX zr n q (by rw [tv]; exact wN), tv] at uW
  obtain ⟨d', wO, vU⟩ := ru.get _ _ (rH q u hq)
  rw [uW] at wO; cases wO
  exact vU
 have := r.Ik w9 (World.grownBy_alloc w (.cells (madeCells zv.cells (n * ti.size)) (ZE P T)) none) (.slice (some ⟨w.heap.size, 0, none⟩) n n) (size := P.cellsOf (ZE P T)) (rows := List.replicate n zr)
  ⟨ZE P T, (madeCells zv.cells (n * ti.size)).toList, ⟨by rw [uS, vt]; simp, .inr ⟨w.heap.size, n, _, by simp, Nat.zero_le _, heap_alloc_new w _, by simp, by simp only [maxLen]; omega, by rw [size_madeCells, vt], by rw [List.take_of_length_le (by rw [uS, vt]; simp)]⟩⟩,
   (by intro q hq; rw [List.eq_of_mem_replicate hq]; omega), tQ.imp fun _ _ => Rd.mono hT⟩
  (fun b hb => by simp [blk] at hb; subst hb; exact ⟨Nat.le_refl _, by simp⟩)
 rw [List.length_replicate] at this
 exact hK _ _ this.1 this.2
end
end Go.Vm
namespace Go.Vm
open Go.RowKit
def JG (l : List UInt8) : List (List D) := l.map fun b => [D.int .u8 (b.toNat : Int)]
def RZ (P : Program) (t : TypeId) : Bool := match P.underlying t with
 | some (.slice e) => (match P.underlying e with | some (.int .u8) => true | _ => false)
 | _ => false
theorem Tj {P : Program} {t : TypeId} (ht : RZ P t = true) : ∃ e, P.underlying t = some (.slice e) /\ P.underlying e = some (.int .u8) := by
 unfold RZ at ht
 split at ht
 ·rename_i e he
  split at ht
  ·rename_i h2; exact ⟨e, he, h2⟩
  ·cases ht
 ·cases ht
theorem qo (l : List UInt8) : (JG l).flatten = l.map fun b => D.int .u8 (b.toNat : Int) := by
 induction l with
 | nil => rfl
 | cons b l ih => simp only [JG, List.map_cons, List.flatten_cons] at ih ⊢; rw [ih]; rfl
section
variable {P : Program} {T0 : CS} {B : Nat -> Prop} {σ : St} {a : Act} {w w' : World} {X X' : Nat -> Prop} {h : Nat -> Nat -> Hd}
theorem Wn (r : Rel T0 B σ a w X h) {o : Oper} {S T : TypeId} {x : Operand} {l : List UInt8} (wA : o.op = .convert S T x) (hg : gOf (look P σ S x) = true) (hS : RZ P S = true) (hT : kl P T = true)
  (uh : zx σ (unc (look P σ S x)) 1 (JG l)) : ∃ val, (execOp a.eval o).run P w = .ok (.value val) w /\ XC (Tof T0 X) h σ.ob w (.one (.d (.str ⟨l.toArray⟩))) val := by
 obtain ⟨e, hs, he⟩ := Tj hS
 have hv := r.arg (P := P) S x rfl hg
 obtain ⟨_, vS⟩ := Pg r uh hv
 refine ⟨.string ⟨l.toArray⟩, ?_, .str _⟩
 rcases vS with ⟨hex, uc⟩ | ⟨ad, c, xs, hex, wJ, wC⟩
 ·have hl : l = [] := by cases l with
   | nil => rfl
   | cons b l => simp [JG] at uc
  subst hl
  have hr : (convert S T (.slice none 0 0)).run P w = .ok (.string ⟨#[]⟩) w := by
   rw [run_convert_bytes_string w S T e none 0 0 hs he (Km hT)]
   rfl
  simp only [execOp, wA, hex, Sem.run_bind, hr, Result.andThen_ok, Sem.run_pure, List.toArray]
 ·have hlen : (JG l).length = l.length := by simp [JG]
  rw [hlen] at hex
  have hr := run_convert_bytes_back (P := P) w S T e ad c l hs he (Km hT) (fun j hj => by
   rw [qo] at wC
   obtain ⟨u, hu, hr⟩ := wC.get' j (D.int .u8 (l[j].toNat : Int)) (by simp [hj])
   have := jN hr
   subst this
   exact wJ j _ hu)
  simp only [execOp, wA, hex, Sem.run_bind, hr, Result.andThen_ok, Sem.run_pure]
theorem Wo (r : Rel T0 B σ a w X h) {o : Oper} {S T : TypeId} {x : Operand} {d : Nat} {s : ByteArray} (wA : o.op = .convert S T x) (hd : o.dst = some d) (hg : gOf (look P σ S x) = true) (hS : kl P S = true) (hT : RZ P T = true)
  (hx : unc (look P σ S x) = .one (.d (.str s))) (vL : s.size <= 9223372036854775807)
  {K : Act -> World -> Prop} {Q : Exit -> Act -> World -> Prop} (hK : ∀ a' w', X7 T0 B (σ.put d (.one (.d (.sl 1 (JG s.data.toList))))) a' w' -> Yj B w w' -> K a' w') : o.wp P a w K Q := by
 obtain ⟨e, uW, he⟩ := Tj hT
 have hex := WJ (r.arg (P := P) S x hx hg)
 have wU := run_bytes_of_string (P := P) w S T e s (Km hS) uW he
 unfold Oper.wp
 simp only [execOp, wA, hex, Sem.run_bind, wU, Result.andThen_ok, Sem.run_pure, Oper.upon_value, hd]
 generalize vi : grownCap w s.size 0 e = cap at *
 have tA : s.size <= cap := by rw [<- vi]; exact grownCap_ge w s.size 0 e
 have v9 : cap <= maxLen := by rw [<- vi]; exact grownCap_le_maxLen w s.size 0 e (by simp only [maxLen]; omega)
 generalize hw' : w.drew.alloc (.cells (bytesRow s cap) e ((bytesRow s cap).size, (bytesRow s cap).size + 1)) = w'
 have sX : w.grownBy w' none := by
  rw [<- hw']
  exact ⟨rfl, rfl, rfl, by simp, fun k hk _ => (World.grownBy_alloc w.drew _ none).block k hk (by simp)⟩
 have tF : w'.heap[w.heap.size]? = some (.cells (bytesRow s cap) e ((bytesRow s cap).size, (bytesRow s cap).size + 1)) := by rw [<- hw']; exact heap_alloc_new w.drew _
 have nY : w.heap.size < w'.heap.size := (Array.getElem?_eq_some_iff.1 tF).1
 have r2 := r.grow (X' := fun b => X b \/ b = w.heap.size) sX (fun b hb => .inl hb) (fun b hb => hb.imp id (fun hh => by subst hh; exact ⟨Nat.le_refl _, nY⟩))
 refine hK _ _ ⟨_, _, r2.put d _ _ ?_⟩ (Yj.jE sX r.hB)
 have vZ := qo s.data.toList
 refine Rd.sl ⟨w.heap.size, 0, none⟩ s.size cap 1 _ (fun k => .int .u8 ((s.data.toList.getD k 0).toNat : Int)) (by simp [JG]) tA v9 (by intro q hq; simp [JG] at hq; obtain ⟨b, _, rfl⟩ := hq; rfl) (fun _ => rfl) (fun k dd hk => ?_) (fun k dd hk => ?_)
 ·rw [vZ, List.getElem?_map] at hk
  cases hb : s.data.toList[k]? with
  | none => rw [hb] at hk; cases hk
  | some b =>
   refine ⟨?_, .inr (.inr rfl)⟩
   simp only [Nat.zero_add]
   refine JQ tF _ _ ?_
   have lP : k < s.data.size := by have := (List.getElem?_eq_some_iff.1 hb).1; simpa using this
   simp only [bytesRow]
   rw [Array.toList_append, List.getElem?_append_left (by simpa using lP)]
   simp [hb]
 ·rw [vZ, List.getElem?_map] at hk
  cases hb : s.data.toList[k]? with
  | none => rw [hb] at hk; cases hk
  | some b =>
   rw [hb] at hk; cases hk
   rw [List.getD_eq_getElem?_getD, hb]
   exact .int _ _
end
end Go.Vm
namespace Go.Vm
open Go.RowKit
def YX : List At -> List (Nat × Nat)
 | [] => []
 | .sref t j _ _ :: xs => (t, j) :: YX xs
 | _ :: xs => YX xs
def mvD (σ : St) : At -> Option D
 | .d (.sl _ _) => none
 | .d x => some x
 | .nil s => some (.sl s [])
 | .sref t j lo len => (match σ.ob t j with | .arr _ size rows => if lo = 0 /\ len = rows.length then some (.sl size rows) else none | _ => none)
 | _ => none
def Rq (σ : St) : At -> Prop
 | .sref t j _ _ => (match σ.ob t j with | .arr false _ rows => ∀ r ∈ rows, ∀ x ∈ r, x.scalar = true | _ => True)
 | _ => True
def QG (σ : St) : List At -> Option (List D)
 | [] => some []
 | x :: xs => (match mvD σ x, QG σ xs with | some d, some ds => some (d :: ds) | _, _ => none)
def Xc (σ : St) : List At -> Prop
 | [] => True
 | x :: xs => Rq σ x /\ Xc σ xs
def Xp (σ : St) : List (List At) -> Option (List (List D))
 | [] => some []
 | xs :: rest => (match QG σ xs, Xp σ rest with | some r, some rs => some (r :: rs) | _, _ => none)
def Xh (σ : St) : List (List At) -> Prop
 | [] => True
 | x :: xs => Xc σ x /\ Xh σ xs
theorem Tl : ∀ (xs : List At) (i j : Nat) (t u lo len rQ ui : Nat), (YX xs).Nodup -> xs[i]? = some (.sref t u lo len) -> xs[j]? = some (.sref t u rQ ui) -> i = j := by
 intro xs
 induction xs with
 | nil => intro i j t u lo len rQ ui _ hi; simp at hi
 | cons x xs ih =>
  intro i j t u lo len rQ ui w8 hi hj
  have mem : ∀ (k lo len : Nat), xs[k]? = some (At.sref t u lo len) -> (t, u) ∈ YX xs := by
   intro k lo len hk
   clear ih w8 hi hj
   induction xs generalizing k with
   | nil => simp at hk
   | cons y ys rk =>
    cases k with
    | zero => simp at hk; subst hk; simp [YX]
    | succ k =>
     have := rk k (by simpa using hk)
     cases y <;> simp [YX, this]
  have gR : (YX xs).Nodup := by
   cases x <;> simp only [YX] at w8 <;> first | exact w8 | exact (List.nodup_cons.1 w8).2
  cases i with
  | zero =>
   simp at hi; subst hi
   cases j with
   | zero => rfl
   | succ j =>
    simp only [YX] at w8
    exact absurd (mem j rQ ui (by simpa using hj)) (List.nodup_cons.1 w8).1
  | succ i =>
   cases j with
   | zero =>
    simp at hj; subst hj
    simp only [YX] at w8
    exact absurd (mem i lo len (by simpa using hi)) (List.nodup_cons.1 w8).1
   | succ j => rw [ih i j t u lo len rQ ui gR (by simpa using hi) (by simpa using hj)]
theorem Po : ∀ {xs : List At} {k t j lo len : Nat}, xs[k]? = some (At.sref t j lo len) -> (t, j) ∈ YX xs
 | [], k, t, j, lo, len, h => by simp at h
 | x :: xs, 0, t, j, lo, len, h => by simp at h; subst h; simp [YX]
 | x :: xs, k + 1, t, j, lo, len, h => by
  have := Po (xs := xs) (k := k) (by simpa using h)
  cases x <;> simp [YX, this]
theorem zg {σ : St} : ∀ {xs : List At} {ds : List D}, QG σ xs = some ds -> xs.length = ds.length /\ ∀ (k : Nat) (x : At) (d : D), xs[k]? = some x -> ds[k]? = some d -> mvD σ x = some d
 | [], ds, h => by simp [QG] at h; subst h; exact ⟨rfl, fun k x d hx => by simp at hx⟩
 | x :: xs, ds, h => by
  simp only [QG] at h
  split at h
  ·rename_i d sQ h1 h2
   cases h
   obtain ⟨hl, ih⟩ := zg h2
   refine ⟨by simp [hl], fun k y e hy he => ?_⟩
   cases k with
   | zero => simp at hy he; subst hy; subst he; exact h1
   | succ k => exact ih k y e (by simpa using hy) (by simpa using he)
  ·cases h
theorem UG {σ : St} : ∀ {xs ys : List At} {ds es : List D}, QG σ xs = some ds -> QG σ ys = some es -> QG σ (xs ++ ys) = some (ds ++ es)
 | [], ys, ds, es, h1, h2 => by simp [QG] at h1; subst h1; simpa using h2
 | x :: xs, ys, ds, es, h1, h2 => by
  simp only [QG] at h1
  split at h1
  ·rename_i d sQ h3 h4
   cases h1
   simp [QG, h3, UG h4 h2]
  ·cases h1
theorem JZ {σ : St} : ∀ {vH : List (List At)} {rs : List (List D)}, Xp σ vH = some rs -> QG σ vH.flatten = some rs.flatten /\ vH.length = rs.length /\ ∀ n, (∀ x ∈ vH, x.length = n) -> ∀ r ∈ rs, r.length = n
 | [], rs, h => by simp [Xp] at h; subst h; exact ⟨rfl, rfl, fun n _ r hr => by cases hr⟩
 | xs :: vH, rs, h => by
  simp only [Xp] at h
  split at h
  ·rename_i r oL h1 h2
   cases h
   obtain ⟨i1, i2, i3⟩ := JZ h2
   refine ⟨by rw [List.flatten_cons, List.flatten_cons]; exact UG h1 i1, by simp [i2], fun n hn q hq => ?_⟩
   rcases List.mem_cons.1 hq with rfl | hq
   ·rw [<- (zg h1).1]; exact hn xs (by simp)
   ·exact i3 n (fun x hx => hn x (by simp [hx])) q hq
  ·cases h
theorem j6 {σ : St} : ∀ {xs : List At}, Xc σ xs -> ∀ (k : Nat) (x : At), xs[k]? = some x -> Rq σ x
 | [], _, k, x, hx => by simp at hx
 | y :: xs, h, 0, x, hx => by simp at hx; subst hx; exact h.1
 | y :: xs, h, k + 1, x, hx => j6 h.2 k x (by simpa using hx)
theorem kr {σ : St} : ∀ {xs ys : List At}, Xc σ xs -> Xc σ ys -> Xc σ (xs ++ ys)
 | [], _, _, h => h
 | _ :: _, _, h1, h2 => ⟨h1.1, kr h1.2 h2⟩
theorem JK {σ : St} : ∀ {vH : List (List At)}, Xh σ vH -> Xc σ vH.flatten
 | [], _ => trivial
 | xs :: vH, h => by rw [List.flatten_cons]; exact kr h.1 (JK h.2)
section
variable {P : Program} {T0 : CS} {B : Nat -> Prop} {σ : St} {a : Act} {w w' : World} {X X' : Nat -> Prop} {h : Nat -> Nat -> Hd}
theorem Rd.own {T : CS} {v : Value} {d : D} {S : Nat -> Prop} (hs : d.scalar = true) (hr : Rd T w v d) : Own w v d S := by
 cases hr with
 | int k n => exact .int _ _ _
 | bool b => exact .bool _ _
 | str s => exact .str _ _
 | unk v h => exact .unk _ h _
 | nil => cases hs
 | sl => cases hs
theorem Rel.FL (r : Rel T0 B σ a w X h) {t j : Nat} {q : Bool} {size : Nat} {rows : List (List D)} (ho : σ.ob t j = .arr q size rows) (hq : q = false -> ∀ r ∈ rows, ∀ x ∈ r, x.scalar = true) : Own w (h t j).v (.sl size rows) (h t j).u := by
 have h0 := r.obj t j
 have vO := r.ub t j
 rw [ho] at h0 vO
 cases q with
 | false =>
  obtain ⟨e, xs, u5, hz, wC⟩ := h0
  refine .sl _ size rows _ e xs (fun _ _ => False) u5 hz (fun b hb => vO b (by simp) hb) wC.length (fun k x d hx hd => ?_) (fun k b hb => hb.elim) (fun i j b hb => hb.elim)
  obtain ⟨d', wO, hr⟩ := wC.get k x hx
  rw [hd] at wO; cases wO
  obtain ⟨r0, uf, hdr⟩ := List.mem_flatten.1 (List.mem_of_getElem? hd)
  exact Rd.own (hq rfl r0 uf d hdr) hr
 | true =>
  obtain ⟨e, xs, u5, hz, ⟨hl, Sk, h1, h2, h3⟩, hn⟩ := h0
  exact .sl _ size rows _ e xs Sk u5 hz (fun b hb => vO b (by simp) hb) hl h1 (fun k b hb => h2 k b hb) h3
def Jo (σ : St) (h : Nat -> Nat -> Hd) (l : List (Nat × Nat)) (b : Nat) : Prop := ∃ p ∈ l, σ.ob p.1 p.2 ≠ .none /\ (h p.1 p.2).u b
theorem Sc (r : Rel T0 B σ a w X h) {xs : List At} {vs : List Value} {ds : List D} (wC : Zc (Zr (Tof T0 X) h σ.ob w) xs vs) (v7 : QG σ xs = some ds) (wb : Xc σ xs) (w8 : (YX xs).Nodup) : Qh w vs ds (Jo σ h (YX xs)) := by
 obtain ⟨hl, v7⟩ := zg v7
 refine ⟨by rw [<- wC.length, hl], fun k b => ∃ t j lo len, xs[k]? = some (.sref t j lo len) /\ σ.ob t j ≠ .none /\ (h t j).u b, fun k v d hv hd => ?_, ?_, ?_⟩
 ·obtain ⟨x, hx, hr⟩ := wC.get' k v hv
  have hm := v7 k x d hx hd
  have ho := j6 wb k x hx
  cases x with
  | d x =>
   cases x with
   | sl s rows => simp [mvD] at hm
   | int k n => simp [mvD] at hm; subst hm; exact Rd.own rfl hr
   | bool b => simp [mvD] at hm; subst hm; exact Rd.own rfl hr
   | str s => simp [mvD] at hm; subst hm; exact Rd.own rfl hr
   | unk => simp [mvD] at hm; subst hm; exact Rd.own rfl hr
  | nil s =>
   simp [mvD] at hm; subst hm
   cases hr
   exact .sl _ s [] _ 0 [] (fun _ _ => False) (World.ownsRow_nil w 0 0 s) (by intro q hq; cases hq) (fun b hb => by cases hb) rfl (fun k x d hx => by simp at hx) (fun k b hb => hb.elim) (fun i j b hb => hb.elim)
  | sref t j lo len =>
   simp only [mvD] at hm
   split at hm
   ·rename_i q size rows wZ
    split at hm
    ·rename_i hc
     obtain ⟨rfl, rfl⟩ := hc
     cases hm
     obtain ⟨_, vq, _⟩ := hr.2.1 q size rows wZ
     rw [vq rfl rfl]
     refine (r.FL wZ (fun hq => ?_)).mono (fun b hb => ⟨t, j, 0, rows.length, hx, by rw [wZ]; simp, hb⟩)
     subst hq
     simp only [Rq, wZ] at ho; exact ho
    ·cases hm
   ·cases hm
  | any => simp [mvD] at hm
  | ptr => simp [mvD] at hm
  | bptr => simp [mvD] at hm
  | fn => simp [mvD] at hm
  | rptr => simp [mvD] at hm
  | tref => simp [mvD] at hm
 ·rintro k b ⟨t, j, lo, len, hx, wD, hu⟩
  exact ⟨(t, j), Po hx, wD, hu⟩
 ·rintro i k b ⟨t, j, lo, len, hx, wD, hu⟩ ⟨t', j', rQ, ui, tN, wv, vm⟩
  obtain ⟨rfl, rfl⟩ := r.inj t j t' j' b wD wv hu vm
  exact Tl xs i k t j lo len rQ ui w8 hx tN
theorem Qh.append {xs ys : List Value} {ds es : List D} {S S' : Nat -> Prop} (h1 : Qh w xs ds S) (h2 : Qh w ys es S') (hd : ∀ b, S b -> S' b -> False) : Qh w (xs ++ ys) (ds ++ es) (fun b => S b \/ S' b) := by
 obtain ⟨l1, Sk, a1, a2, a3⟩ := h1
 obtain ⟨l2, rP, b1, b2, b3⟩ := h2
 refine ⟨by simp [l1, l2], fun k => if k < xs.length then Sk k else rP (k - xs.length), fun k x d hx wO => ?_, fun k b hb => ?_, fun i j b hi hj => ?_⟩
 ·by_cases hk : k < xs.length
  ·simp only [hk, if_true]
   rw [List.getElem?_append_left hk] at hx
   rw [List.getElem?_append_left (by omega)] at wO
   exact a1 k x d hx wO
  ·simp only [hk, if_false]
   rw [List.getElem?_append_right (by omega)] at hx
   rw [List.getElem?_append_right (by omega), <- l1] at wO
   exact b1 _ x d hx wO
 ·by_cases hk : k < xs.length
  ·simp only [hk, if_true] at hb; exact .inl (a2 k b hb)
  ·simp only [hk, if_false] at hb; exact .inr (b2 _ b hb)
 ·by_cases vd : i < xs.length
  ·simp only [vd, if_true] at hi
   by_cases uY : j < xs.length
   ·simp only [uY, if_true] at hj; exact a3 i j b hi hj
   ·simp only [uY, if_false] at hj; exact (hd b (a2 i b hi) (b2 _ b hj)).elim
  ·simp only [vd, if_false] at hi
   by_cases uY : j < xs.length
   ·simp only [uY, if_true] at hj; exact (hd b (a2 j b hj) (b2 _ b hi)).elim
   ·simp only [uY, if_false] at hj
    have := b3 _ _ b hi hj; omega
theorem Qh.mono {xs : List Value} {ds : List D} {S S' : Nat -> Prop} (hS : ∀ b, S b -> S' b) (h1 : Qh w xs ds S) : Qh w xs ds S' := by
 obtain ⟨l1, Sk, a1, a2, a3⟩ := h1
 exact ⟨l1, Sk, a1, fun k b hb => hS b (a2 k b hb), a3⟩
theorem Qh.nil (S : Nat -> Prop) : Qh w [] [] S := ⟨rfl, fun _ _ => False, fun k x d hx => by simp at hx, fun _ _ hb => hb.elim, fun _ _ _ hb => hb.elim⟩
theorem Rel.xT (r : Rel T0 B σ a w X h) (l : List (Nat × Nat)) (b : Nat) (hb : Jo σ h l b) : ¬ B b /\ ¬ X b /\ b < w.heap.size /\ ∀ u i, (σ.Zn l).ob u i ≠ .none -> ¬ (h u i).u b := by
 obtain ⟨p, hp, wD, hu⟩ := hb
 have ho := r.own p.1 p.2 b wD hu
 refine ⟨ho.1, ho.2.1, ho.2.2, fun u i hn vm => ?_⟩
 rw [St.Qx] at hn
 split at hn
 ·exact hn rfl
 ·rename_i gH
  obtain ⟨h1, h2⟩ := r.inj p.1 p.2 u i b wD hn hu vm
  exact gH (by rw [<- h1, <- h2]; exact hp)
end
end Go.Vm
namespace Go.Vm
open Go.RowKit
section
variable {P : Program} {T0 : CS} {B : Nat -> Prop} {σ : St} {a : Act} {w w' : World} {X X' : Nat -> Prop} {h : Nat -> Nat -> Hd}
def UR (P : Program) (σ : St) (T : TypeId) (size : Nat) : List (Nat × Operand) -> Nat -> List (List At) -> Prop
 | [], _, rs => rs = []
 | (i, x) :: ps, k, rs => i = k /\ gOf (look P σ T x) = true /\ (unc (look P σ T x)).flat = true /\ (unc (look P σ T x)).cells.length = size /\
   ∃ rest, UR P σ T size ps (k + 1) rest /\ rs = (unc (look P σ T x)).cells :: rest
theorem Nj (r : Rel T0 B σ a w X h) (T : TypeId) (size : Nat) : ∀ (ps : List (Nat × Operand)) (k : Nat) (rs : List (List At)) (cells : Array Value), UR P σ T size ps k rs -> (k + ps.length) * size <= cells.size ->
   ∃ wG ys, Instr.fill (fun i => some (i * size, size)) cells (ps.map fun x => (x.1, a.eval x.2)) = some wG /\ wG.toList = place cells.toList (k * size) ys /\ Zc (Zr (Tof T0 X) h σ.ob w) rs.flatten ys /\ (∀ q ∈ rs, q.length = size) /\ rs.length = ps.length
 | [], k, rs, cells, hb, _ => by cases hb; exact ⟨cells, [], rfl, by simp [place], .nil, (by intro q hq; cases hq), rfl⟩
 | (i, x) :: ps, k, rs, cells, hb, hl => by
  obtain ⟨rfl, hg, hf, hlen, rest, hb, rfl⟩ := hb
  have hx := xV hf (r.arg (P := P) T x rfl hg)
  have rh := hx.length
  have e1 : cells.toList.length = cells.size := Array.length_toList
  have e2 : (a.eval x).cells.toList.length = (a.eval x).cells.size := Array.length_toList
  have hmul : (i + (ps.length + 1)) * size = i * size + size + ps.length * size := by rw [Nat.add_mul, Nat.add_mul]; omega
  simp only [List.length_cons] at hl
  have heq := ji (i * size) (a.eval x).cells cells (by omega)
  have uk : ((a.eval x).cells.zipIdx.foldl (fun cs x => cs.setIfInBounds (i * size + x.2) x.1) cells).size = cells.size := by
   rw [<- Array.length_toList, heq, XU _ _ _ (by omega), e1]
  have nX : (i + 1 + ps.length) * size = i * size + size + ps.length * size := by rw [Nat.add_mul, Nat.add_mul]; omega
  obtain ⟨wG, ys, h1, h2, h3, h4, h5⟩ := Nj r T size ps (i + 1) rest _ hb (by rw [uk]; omega)
  have uX : ys.length = ps.length * size := by rw [<- h3.length, Zy rest size h4, h5]
  refine ⟨wG, (a.eval x).cells.toList ++ ys, ?_, ?_, ?_, ?_, by simp [h5]⟩
  ·simp only [List.map_cons, Instr.fill]
   rw [if_neg (by simp; omega)]
   exact h1
  ·rw [h2, heq]
   rw [show (i + 1) * size = i * size + (a.eval x).cells.toList.length by rw [Nat.add_mul]; omega]
   exact TV _ _ _ _ (by simp; omega)
  ·rw [List.flatten_cons]; exact hx.append h3
  ·intro q hq
   rcases List.mem_cons.1 hq with rfl | hq
   ·exact hlen
   ·exact h4 q hq
theorem kj (r : Rel T0 B σ a w X h) {o : Oper} {T : TypeId} {n : Nat} {parts : Array (Nat × Operand)} {d : Nat} {rows : List (List At)} (wA : o.op = .buildSlice T n parts) (hd : o.dst = some d) (w9 : σ.fresh d = true)
  (ht : YJ P T = true) (hz : Yz P (ZE P T) = true) (vN : 0 < P.cellsOf (ZE P T)) (hn : parts.toList.length = n) (l8 : n * P.cellsOf (ZE P T) <= 16777216) (hb : UR P σ (ZE P T) (P.cellsOf (ZE P T)) parts.toList 0 rows) (gE : Zp d rows.flatten = false)
  {K : Act -> World -> Prop} {Q : Exit -> Act -> World -> Prop} (hK : ∀ a' w', X7 T0 B (σ.new d (.one (.sref d 0 0 rows.length)) [.lit (P.cellsOf (ZE P T)) rows]) a' w' -> Yj B w w' -> K a' w') : o.wp P a w K Q := by
 obtain ⟨ti, hu, hi, ud⟩ := Yo ht
 obtain ⟨i, z, row, vd, tO, uE, uk, tr, vt, uG⟩ := Kl hz
 rw [hi] at vd; cases vd
 have uD : (zeroValue (ZE P T)).run P w = .ok z w := by simp [zeroValue, typeInfo, hi, tO]
 obtain ⟨zero, hzero⟩ : ∃ zero : Array Value, (n * P.cellsOf (ZE P T) = 0 -> zero = #[]) /\ (¬ n * P.cellsOf (ZE P T) = 0 -> zero = z.cells) := by
  by_cases h0 : n * P.cellsOf (ZE P T) = 0
  ·exact ⟨#[], fun _ => rfl, fun hh => absurd h0 hh⟩
  ·exact ⟨z.cells, fun hh => absurd hh h0, fun _ => rfl⟩
 obtain ⟨wG, ys, h1, h2, h3, h4, h5⟩ := Nj r (ZE P T) (P.cellsOf (ZE P T)) parts.toList 0 rows ((Array.range (n * P.cellsOf (ZE P T))).map (zero[· % zero.size]!)) hb (by simp [hn])
 have uX : ys.length = n * P.cellsOf (ZE P T) := by rw [<- h3.length, Zy rows _ h4, h5, hn]
 have wh : wG.toList = ys := by
  rw [h2]
  unfold place
  simp [uX]
 have uR : (parts.map fun (x : Nat × Operand) => (x.1, a.eval x.2)).toList = parts.toList.map fun x => (x.1, a.eval x.2) := by simp
 have wU : (execOp a.eval o).run P w = .ok (.value (.slice (some ⟨w.heap.size, 0, none⟩) n n)) (w.alloc (.cells wG (ZE P T))) := by
  have ua : ¬ (n * P.cellsOf (ZE P T) > 2 ^ 24) := by omega
  by_cases h0 : n * P.cellsOf (ZE P T) = 0
  ·have tW := hzero.1 h0
   subst tW
   simp only [execOp, wA, Instr.buildSlice, Sem.run_bind, run_underlying hu, Result.andThen_ok, Xj hi, if_neg ua, if_pos h0, uR, h1, newRow, Sem.run_pure, run_newObj_alloc]
  ·have tW := hzero.2 h0
   subst tW
   simp only [execOp, wA, Instr.buildSlice, Sem.run_bind, run_underlying hu, Result.andThen_ok, Xj hi, if_neg ua, if_neg h0, uD, uR, h1, newRow, Sem.run_pure, run_newObj_alloc]
 unfold Oper.wp
 rw [wU, Oper.upon_value, hd]
 have hlen : rows.length = n := by rw [h5, hn]
 have hg := World.grownBy_alloc w (.cells wG (ZE P T)) none
 have wN := St.JF w9
 have hT : ∀ b k v, Tof T0 X b k -> w.cell? ⟨b, k, none⟩ = some v -> (w.alloc (.cells wG (ZE P T))).cell? ⟨b, k, none⟩ = some v /\ Tof T0 X b k := by
  intro b k v hb wJ
  refine ⟨?_, hb⟩
  rw [World.cell?_of_block (hg.block b (r.Tlt hb) (by simp))]; exact wJ
 have rG : wG.size = n * P.cellsOf (ZE P T) := by rw [<- Array.length_toList, wh, uX]
 have v9 : n <= maxLen := by
  have : n <= n * P.cellsOf (ZE P T) := Nat.le_mul_of_pos_right _ vN
  simp only [maxLen]; omega
 have wI : (w.alloc (.cells wG (ZE P T))).ownsRow 0 (ZE P T) (P.cellsOf (ZE P T)) (.slice (some ⟨w.heap.size, 0, none⟩) n n) rows.length ys :=
  ⟨by rw [uX, hlen], .inr ⟨w.heap.size, n, wG, by rw [hlen], Nat.zero_le _, heap_alloc_new w _, by omega, v9, rG, by rw [wh, hlen, List.take_of_length_le (by omega)]⟩⟩
 refine hK _ _ ⟨X, fun t j => if t = d then Hd.of (.slice (some ⟨w.heap.size, 0, none⟩) n n) else h t j, ?_⟩ (Yj.jE hg r.hB)
 have vP : (σ.new d (.one (.sref d 0 0 rows.length)) [.lit (P.cellsOf (ZE P T)) rows]).ob d 0 = .lit (P.cellsOf (ZE P T)) rows := by rw [St.Xo]; simp [wN, Z2]
 have hc : ∀ t j, t ≠ d -> Cpt h (fun t j => if t = d then Hd.of (.slice (some ⟨w.heap.size, 0, none⟩) n n) else h t j) σ.ob (σ.new d (.one (.sref d 0 0 rows.length)) [.lit (P.cellsOf (ZE P T)) rows]).ob t j := by
  intro t j wD
  have he : (σ.new d (.one (.sref d 0 0 rows.length)) [.lit (P.cellsOf (ZE P T)) rows]).ob t j = σ.ob t j := by rw [St.Xo, if_neg (fun hh => wD hh.1)]
  exact Cpt.same (by simp [wD]) he
 refine r.new w9 hg (fun _ hb => hb) (fun _ hb => .inl hb) _ _ [.lit (P.cellsOf (ZE P T)) rows] (fun _ => Hd.of (.slice (some ⟨w.heap.size, 0, none⟩) n n)) ?_ (fun j => ?_) (fun j b _ hb => hb) (fun j b _ wS => ?_) (fun j j' b wD wv _ _ => ?_)
 ·refine ⟨Qv wI, fun q' wg wP wV => (by rw [vP] at wV; cases wV), fun wg wP wV => ?_⟩
  rw [vP] at wV; cases wV
  simp only [if_true]
  exact Wf wI
 ·cases j with
  | zero => exact ⟨ZE P T, ys, wI, h4, y5 hT hc gE h3⟩
  | succ j => simp [Z2, Xu]
 ·simp [Hd.of, blk] at wS; subst wS
  refine ⟨Nat.le_refl _, fun tN => ?_, by simp⟩
  have := (r.hX _ tN).2; omega
 ·have : ∀ j, Z2 [Ob.lit (P.cellsOf (ZE P T)) rows] j ≠ .none -> j = 0 := by
   intro j hj
   cases j with
   | zero => rfl
   | succ j => simp [Z2] at hj
  rw [this j wD, this j' wv]
theorem LF {T : CS} {ob : Nat -> Nat -> Ob} : ∀ {xs : List At} {ds : List D} {vs : List Value}, zD xs = some ds -> Zc (Zr T h ob w) xs vs -> (∀ x ∈ xs, ∀ s r, x ≠ .d (.sl s r)) -> ∀ (w' : World) (S : Nat -> Prop) (k : Nat) (v : Value) (d : D), vs[k]? = some v -> ds[k]? = some d -> Own w' v d S
 | [], ds, vs, hz, wC, _, w', S, k, v, d, hv, _ => by cases wC; simp at hv
 | x :: xs, ds, vs, hz, wC, tX, w', S, k, v, d, hv, hd => by
  cases wC with
  | cons hx wC =>
   cases x with
   | d x =>
    simp only [zD, Option.map_eq_some_iff] at hz
    obtain ⟨sQ, uz, rfl⟩ := hz
    cases k with
    | zero =>
     simp at hv hd; subst hv; subst hd
     cases x with
     | sl s r => exact absurd rfl (tX _ (by simp) s r)
     | int k n => cases (show Rd _ _ _ _ from hx); exact .int _ _ _
     | bool b => cases (show Rd _ _ _ _ from hx); exact .bool _ _
     | str s => cases (show Rd _ _ _ _ from hx); exact .str _ _
     | unk => exact .unk _ (Rd.Y1 hx) _
    | succ k => exact LF uz wC (fun x hx => tX x (by simp [hx])) w' S k v d (by simpa using hv) (by simpa using hd)
   | nil s =>
    simp only [zD, Option.map_eq_some_iff] at hz
    obtain ⟨sQ, uz, rfl⟩ := hz
    cases k with
    | zero =>
     simp at hv hd; subst hv; subst hd
     cases hx
     exact .sl _ s [] _ 0 [] (fun _ _ => False) (World.ownsRow_nil w' 0 0 s) (by intro q hq; cases hq) (fun b hb => by cases hb) rfl (fun k x d hx => by simp at hx) (fun k b hb => hb.elim) (fun i j b hb => hb.elim)
    | succ k => exact LF uz wC (fun x hx => tX x (by simp [hx])) w' S k v d (by simpa using hv) (by simpa using hd)
   | any => simp [zD] at hz
   | sref => simp [zD] at hz
   | ptr => simp [zD] at hz
   | bptr => simp [zD] at hz
   | fn => simp [zD] at hz
   | rptr => simp [zD] at hz
   | tref => simp [zD] at hz
def Lv (σ : St) (x : V) (size : Nat) (wE : List (List D)) (l : List (Nat × Nat)) : Prop :=
 match x with
 | .one (.nil _) => wE = [] /\ l = []
 | .one (.sref t j lo len) => σ.ob t j = .arr true size wE /\ lo = 0 /\ len = wE.length /\ l = [(t, j)]
 | _ => False
def IQ (σ : St) (x : V) (size : Nat) (news : List (List D)) (l : List (Nat × Nat)) : Prop :=
 match x with
 | .one (.sref t j lo len) => ∃ rows, σ.ob t j = .lit size rows /\ lo = 0 /\ len = rows.length /\ Xp σ rows = some news /\ Xh σ rows /\ l = YX rows.flatten
 | _ => False
theorem Ro (r : Rel T0 B σ a w X h) {o : Oper} {t : TypeId} {x y : Operand} {d : Nat} {wE news : List (List D)} {l1 l2 : List (Nat × Nat)} (wA : o.op = .call ⟨.builtin .append, #[x, y], #[t, t]⟩) (hd : o.dst = some d)
  (sB : gOf (look P σ t x) = true) (sC : gOf (look P σ t y) = true) (ht : YJ P t = true) (hz : Yz P (ZE P t) = true) (vN : 0 < P.cellsOf (ZE P t))
  (v8 : Lv σ (unc (look P σ t x)) (P.cellsOf (ZE P t)) wE l1) (uh : IQ σ (unc (look P σ t y)) (P.cellsOf (ZE P t)) news l2) (w8 : (l1 ++ l2).Nodup) (w9 : (σ.Zn (l1 ++ l2)).fresh d = true)
  (vb : (wE.length + news.length) * P.bytesOf (ZE P t) <= 140737488355328) (pv : wE.length + news.length <= 9223372036854775807)
  {K : Act -> World -> Prop} {Q : Exit -> Act -> World -> Prop} (hK : ∀ a' w', X7 T0 B ((σ.Zn (l1 ++ l2)).new d (.one (.sref d 0 0 (wE.length + news.length))) [.arr true (P.cellsOf (ZE P t)) (wE ++ news)]) a' w' -> Yj B w w' -> K a' w') : o.wp P a w K Q := by
 obtain ⟨ti, hu, hi, ud⟩ := Yo ht
 obtain ⟨i, z, row, vd, tO, uE, uk, tr, vt, uG⟩ := Kl hz
 rw [hi] at vd; cases vd
 have pw : P.bytesOf (ZE P t) = ti.bytes := by simp [Program.bytesOf, hi]
 rw [pw] at vb
 rw [<- vt] at v8 uh vN hK
 have rq := r.arg (P := P) t x rfl sB
 have nr := r.arg (P := P) t y rfl sC
 obtain ⟨t2, j2, rows, gI, sk, v7, tH, rh⟩ : ∃ t2 j2 rows, unc (look P σ t y) = .one (.sref t2 j2 0 rows.length) /\ σ.ob t2 j2 = .lit ti.size rows /\ Xp σ rows = some news /\ Xh σ rows /\ l2 = YX rows.flatten := by
  unfold IQ at uh
  split at uh
  ·rename_i t2 j2 lo len heq
   obtain ⟨rows, ho, rfl, rfl, hm, hk, rfl⟩ := uh
   exact ⟨t2, j2, rows, heq, ho, hm, hk, rfl⟩
  ·exact uh.elim
 subst rh
 obtain ⟨lH, nQ, lI⟩ := JZ v7
 have nZ := JK tH
 rw [gI] at nr
 have h0 := r.obj t2 j2
 rw [sk] at h0
 obtain ⟨e2, ys, uQ, nn, tQ⟩ := h0
 obtain ⟨_, py, _⟩ := nr.2.2 _ _ sk
 have na : a.eval y = (h t2 j2).v := py rfl rfl
 have nO : ∀ q ∈ news, q.length = ti.size := lI _ nn
 have tR := Sc r tQ lH nZ (List.nodup_append.1 w8).2.1
 have vX : ∃ e0 xs, w.ownsRow 0 e0 ti.size (a.eval x) wE.length xs /\ (∀ q ∈ wE, q.length = ti.size) /\ Qh w xs wE.flatten (fun b => Jo σ h l1 b /\ blk (a.eval x) ≠ some b) /\ (∀ b, blk (a.eval x) = some b -> Jo σ h l1 b) := by
  unfold Lv at v8
  split at v8
  ·rename_i s heq
   obtain ⟨rfl, rfl⟩ := v8
   rw [heq] at rq
   have he : a.eval x = .slice none 0 0 := rq
   rw [he]
   exact ⟨0, [], World.ownsRow_nil w 0 0 _, (by intro q hq; cases hq), Qh.nil _, (fun b hb => by cases hb)⟩
  ·rename_i u j lo len heq
   obtain ⟨ho, rfl, rfl, rfl⟩ := v8
   rw [heq] at rq
   have p9 : Zr (Tof T0 X) h σ.ob w (.sref u j 0 wE.length) (a.eval x) := rq
   obtain ⟨_, vq, _⟩ := p9.2.1 _ _ _ ho
   have he : a.eval x = (h u j).v := vq rfl rfl
   have h0 := r.obj u j
   rw [ho] at h0
   obtain ⟨e, xs, wI, rp, wC, hn⟩ := h0
   have wZ : σ.ob u j ≠ .none := by rw [ho]; simp
   rw [he]
   exact ⟨e, xs, wI, rp, wC.mono (fun b hb => ⟨⟨(u, j), by simp, wZ, hb.1⟩, hb.2⟩), fun b hb => ⟨(u, j), by simp, wZ, r.ub u j b wZ hb⟩⟩
  ·exact v8.elim
 obtain ⟨e0, xs, wI, lG, px, sH⟩ := vX
 have oA : ∀ q ∈ wE ++ news, q.length = ti.size := by
  intro q hq
  rcases List.mem_append.1 hq with hq | hq
  ·exact lG q hq
  ·exact nO q hq
 have uX : ys.length = news.length * ti.size := by rw [tR.1, Zy news ti.size nO]
 have tI : ∀ b, Jo σ h l1 b -> Jo σ h (YX rows.flatten) b -> False := by
  rintro b ⟨p, hp, wD, hu⟩ ⟨p', pg, wv, vm⟩
  obtain ⟨e1, e2⟩ := r.inj p.1 p.2 p'.1 p'.2 b wD wv hu vm
  have v3 : p = p' := Prod.ext e1 e2
  subst v3
  exact (List.nodup_append.1 w8).2.2 p hp p pg rfl
 have tw : ∀ b, Jo σ h (l1 ++ YX rows.flatten) b ↔ Jo σ h l1 b \/ Jo σ h (YX rows.flatten) b := by
  intro b
  constructor
  ·rintro ⟨p, hp, hr⟩
   rcases List.mem_append.1 hp with hp | hp
   ·exact .inl ⟨p, hp, hr⟩
   ·exact .inr ⟨p, hp, hr⟩
  ·rintro (⟨p, hp, hr⟩ | ⟨p, hp, hr⟩)
   ·exact ⟨p, by simp [hp], hr⟩
   ·exact ⟨p, by simp [hp], hr⟩
 have r1 := r.Zn (l1 ++ YX rows.flatten)
 have wq := r.xT (l1 ++ YX rows.flatten)
 have wN := St.JF w9
 have key : ∀ (v' : Value) (w' : World) (e1 : TypeId), (Builtin.append_ #[t, t] o.type #[a.eval x, a.eval y]).run P w = .ok v' w' -> w'.ownsRow 0 e1 ti.size v' (wE.length + news.length) (xs ++ ys) ->
   w.grownBy w' (blk (a.eval x)) -> (∀ b, blk v' = some b -> (w.heap.size <= b /\ b < w'.heap.size) \/ blk (a.eval x) = some b) -> o.wp P a w K Q := by
  intro v' w' e1 wU wV uC pM
  unfold Oper.wp
  have rF : (execOp a.eval o).run P w = .ok (.value v') w' := by
   simp only [execOp, wA, resolve, invoke, builtin, Sem.run_bind, Sem.run_pure, Result.andThen_ok, List.map_toArray, List.map_cons, List.map_nil, wU]
  rw [rF, Oper.upon_value, hd]
  refine hK _ _ ⟨X, fun u j => if u = d then ⟨v', fun k => ((xs ++ ys)[k]?).getD undef, fun b => blk v' = some b \/ (Jo σ h (l1 ++ YX rows.flatten) b /\ blk (a.eval x) ≠ some b)⟩ else h u j, ?_⟩
   ⟨uC.os, uC.tape, uC.output, uC.size, fun k hk => uC.block k (r.hB k hk) (fun e => (wq k ((tw k).2 (.inl (sH k e.symm)))).1 hk)⟩
  have vP : ((σ.Zn (l1 ++ YX rows.flatten)).new d (.one (.sref d 0 0 (wE.length + news.length))) [.arr true ti.size (wE ++ news)]).ob d 0 = .arr true ti.size (wE ++ news) := by rw [St.Xo]; simp [wN, Z2]
  have uQ : w'.ownsRow 0 e1 ti.size v' (wE ++ news).length (xs ++ ys) := by rw [List.length_append]; exact wV
  have wW : ∀ b, blk (a.eval x) ≠ some b -> b < w.heap.size -> w'.heap[b]? = w.heap[b]? := fun b hb hl => uC.block b hl (fun e => hb e.symm)
  have gS : Qh w' (xs ++ ys) (wE ++ news).flatten (fun b => (blk v' = some b \/ (Jo σ h (l1 ++ YX rows.flatten) b /\ blk (a.eval x) ≠ some b)) /\ blk v' ≠ some b) := by
   rw [List.flatten_append]
   have h1 : Qh w' xs wE.flatten (fun b => Jo σ h l1 b /\ blk (a.eval x) ≠ some b) := px.T1 (fun b hb => wW b hb.2 (wq b ((tw b).2 (.inl hb.1))).2.2.1)
   have rj : ∀ b, Jo σ h (YX rows.flatten) b -> blk (a.eval x) ≠ some b := fun b hb e => tI b (sH b e) hb
   have h2 : Qh w' ys news.flatten (Jo σ h (YX rows.flatten)) := tR.T1 (fun b hb => wW b (rj b hb) (wq b ((tw b).2 (.inr hb))).2.2.1)
   refine (h1.append h2 (fun b vQ wo => tI b vQ.1 wo)).mono (fun b hb => ?_)
   have hg : Jo σ h (l1 ++ YX rows.flatten) b /\ blk (a.eval x) ≠ some b := by
    rcases hb with hb | hb
    ·exact ⟨(tw b).2 (.inl hb.1), hb.2⟩
    ·exact ⟨(tw b).2 (.inr hb), rj b hb⟩
   refine ⟨.inr hg, fun e => ?_⟩
   rcases pM b e with hl | hl
   ·have := (wq b hg.1).2.2.1; omega
   ·exact hg.2 hl
  refine r1.H7 w9 (Jo σ h (l1 ++ YX rows.flatten)) uC.size (fun k hk wD => uC.block k hk (fun e => wD ((tw k).2 (.inl (sH k e.symm))))) (fun b hb => ⟨(wq b hb).1, (wq b hb).2.1, fun u j _ wD => (wq b hb).2.2.2 u j wD⟩) (fun _ hb => hb) (fun _ hb => .inl hb) _ _ [.arr true ti.size (wE ++ news)]
   (fun _ => ⟨v', fun k => ((xs ++ ys)[k]?).getD undef, fun b => blk v' = some b \/ (Jo σ h (l1 ++ YX rows.flatten) b /\ blk (a.eval x) ≠ some b)⟩) ?_ (fun j => ?_) (fun j b _ hb => .inl hb) (fun j b wD wS => ?_) (fun j j' b wD wv _ _ => ?_)
  ·refine ⟨Qv wV, fun q' wg wP hh => ?_, fun wg wP hh => by rw [vP] at hh; cases hh⟩
   rw [vP] at hh; cases hh
   simp only [if_true, List.length_append]
   have := Wf uQ
   rwa [List.length_append] at this
  ·cases j with
   | zero => exact ⟨e1, xs ++ ys, uQ, oA, gS, fun k x d hx _ _ => by simp [hx]⟩
   | succ j => simp [Z2, Xu]
  ·rcases wS with wS | wS
   ·rcases pM b wS with h1 | h1
    ·exact ⟨.inl h1.1, fun hx => by have := (r.hX b hx).2; omega, h1.2⟩
    ·have h3 := (tw b).2 (.inl (sH b h1))
     have h2 := wq b h3
     exact ⟨.inr h3, h2.2.1, by have := uC.size; omega⟩
   ·have h2 := wq b wS.1
    exact ⟨.inr wS.1, h2.2.1, by have := uC.size; omega⟩
  ·have : ∀ j, Z2 [Ob.arr true ti.size (wE ++ news)] j ≠ .none -> j = 0 := by
    intro j hj
    cases j with
    | zero => rfl
    | succ j => simp [Z2] at hj
   rw [this j wD, this j' wv]
 rcases uQ.2 with ⟨gJ, nq⟩ | ⟨g2, nT, gL, vJ, _, uI, gM, gN, gO, lK⟩
 ·have wR : rows = [] := List.eq_nil_of_length_eq_zero nq
  have uB : news = [] := List.eq_nil_of_length_eq_zero (by rw [<- nQ, nq])
  have gT : ys = [] := List.eq_nil_of_length_eq_zero (by rw [uX, uB]; simp)
  have wi : ∃ base cap, a.eval x = .slice base wE.length cap /\ wE.length <= cap /\ (base = none -> cap = 0) := by
   rcases wI.2 with ⟨h1, h2⟩ | ⟨g, cap, cur, h1, _, _, vw, _⟩
   ·exact ⟨none, 0, by rw [h1, h2], by omega, fun _ => rfl⟩
   ·exact ⟨_, cap, h1, vw, (fun hh => by cases hh)⟩
  obtain ⟨base, cap, hex, vw, nP⟩ := wi
  refine key (a.eval x) w e0 ?_ (by rw [gT, uB]; simpa using wI) ⟨rfl, rfl, rfl, Nat.le_refl _, fun _ _ _ => rfl⟩ (fun b hb => .inr hb)
  rw [na, gJ]
  rw [hex]
  exact y7 t o.type _ ti hu hi base wE.length cap vw nP
 ·have nS : a.eval y = .slice (some ⟨g2, 0, none⟩) news.length nT := by rw [na, vJ, nQ]
  have wJ : ∀ j u, ys[j]? = some u -> w.cell? ((⟨g2, 0, none⟩ : Addr).add j) = some u := by
   intro j u vm
   rw [K2]
   refine JQ uI _ _ ?_
   rw [<- lK, List.getElem?_take] at vm
   split at vm
   ·simpa using vm
   ·cases vm
  obtain ⟨v', w', e1, wU, wV, uC, pM⟩ := kN (P := P) (w := w) t o.type _ e0 ti z hu hi tO tr (by omega) (a.eval x) wE.length xs wI ⟨g2, 0, none⟩ news.length nT ys uX wJ
   (fun u vm => by
    obtain ⟨x', _, tN⟩ := tQ.mem vm
    exact Zr.Y1 tN) (by simp only [maxLen]; omega) vb
  refine key v' w' e1 ?_ wV uC pM
  rw [nS]; exact wU
theorem Qh.pick {xs : List Value} {ds : List D} {S : Nat -> Prop} (h1 : Qh w xs ds S) {p q n : Nat} (hp : p <= q) (hq : q + n <= xs.length) : Qh w (xs.take p ++ cut xs q n) (ds.take p ++ cut ds q n) S := by
 obtain ⟨hl, Sk, hk, hs, hd⟩ := h1
 have tg : (xs.take p).length = p := by rw [List.length_take]; omega
 have sP : (ds.take p).length = p := by rw [List.length_take]; omega
 refine ⟨by rw [List.length_append, List.length_append, tg, sP, Y4 _ _ _ hq, Y4 _ _ _ (by omega)], fun k => if k < p then Sk k else Sk (q + (k - p)), fun k x d hx wO => ?_, fun k b hb => ?_, fun i j b hi hj => ?_⟩
 ·by_cases oz : k < p
  ·rw [List.getElem?_append_left (by omega)] at hx wO
   rw [List.getElem?_take, if_pos oz] at hx wO
   simp only [if_pos oz]
   exact hk k x d hx wO
  ·rw [List.getElem?_append_right (by omega), tg] at hx
   rw [List.getElem?_append_right (by omega), sP] at wO
   simp only [if_neg oz]
   exact hk _ x d (Kf _ _ _ _ _ hx) (Kf _ _ _ _ _ wO)
 ·dsimp only at hb
  split at hb <;> exact hs _ b hb
 ·dsimp only at hi hj
  split at hi <;> split at hj
  ·exact hd _ _ b hi hj
  ·have := hd _ _ b hi hj; omega
  ·have := hd _ _ b hi hj; omega
  ·have := hd _ _ b hi hj; omega
end
end Go.Vm
namespace Go.Vm
open Go.RowKit
def P4 : List At -> Bool
 | [] => true
 | .d (.sl _ _) :: _ => false
 | _ :: xs => P4 xs
theorem Nt : ∀ {xs : List At}, P4 xs = true -> ∀ x ∈ xs, ∀ s r, x ≠ .d (.sl s r)
 | [], _, x, hx, _, _ => by cases hx
 | y :: xs, h, x, hx, s, r => by
  have h2 : P4 xs = true /\ ∀ s r, y ≠ .d (.sl s r) := by
   cases y with
   | d z => cases z with
    | sl s r => cases h
    | _ => exact ⟨h, fun s r e => by cases e⟩
   | _ => exact ⟨h, fun s r e => by cases e⟩
  rcases List.mem_cons.1 hx with rfl | hx
  ·exact h2.2 s r
  ·exact Nt h2.1 x hx s r
section
variable {P : Program} {T0 : CS} {B : Nat -> Prop} {σ : St} {a : Act} {w w' : World} {X X' : Nat -> Prop} {h : Nat -> Nat -> Hd}
theorem Sx (r : Rel T0 B σ a w X h) {o : Oper} {T : TypeId} {x : Operand} {d : Nat} {k : IntKind} {n : Nat} {z : List At} {zr : List D} (wA : o.op = .makeSlice T x x) (hd : o.dst = some d) (w9 : σ.fresh d = true)
  (ht : YJ P T = true) (hz : Yz P (ZE P T) = true) (uE : yD P 12 (ZE P T) = some z) (np : zD z = some zr) (gF : P4 z = true) (vN : 0 < P.cellsOf (ZE P T)) (hx : xk P σ x k (n : Int)) (pw : P.bytesOf (ZE P T) * n <= 281474976710656) (pv : n <= 9223372036854775807)
  {K : Act -> World -> Prop} {Q : Exit -> Act -> World -> Prop} (hK : ∀ a' w', X7 T0 B (σ.new d (.one (.sref d 0 0 n)) [.arr true (P.cellsOf (ZE P T)) (List.replicate n zr)]) a' w' -> Yj B w w' -> K a' w') : o.wp P a w K Q := by
 obtain ⟨ti, hu, hi, ud⟩ := Yo ht
 obtain ⟨i, zv, row, vd, tO, rE, uk, tr, vt, uG⟩ := Kl hz
 rw [hi] at vd; cases vd
 rw [uE] at rE; cases rE
 have hex := Jr r hx
 have oB : (ti.bytes : Int) * (n : Int) <= 281474976710656 := by
  have : P.bytesOf (ZE P T) = ti.bytes := by simp [Program.bytesOf, hi]
  rw [this] at pw
  have h : ((ti.bytes * n : Nat) : Int) <= 281474976710656 := by omega
  rwa [Int.natCast_mul] at h
 have wU := run_make (P := P) w T (ZE P T) ti zv hu hi tO k k n n (by omega) (Int.le_refl _) oB (by omega)
 simp only [Int.toNat_natCast] at wU
 unfold Oper.wp
 simp only [execOp, wA, hex, Sem.run_bind, wU, Result.andThen_ok, Sem.run_pure, Oper.upon_value, hd]
 have ru := O0 np (uG (Tof T0 X) h σ.ob w)
 have gQ := ru.length
 have e1 : zv.cells.toList.length = zv.cells.size := Array.length_toList
 have tv : zr.length = ti.size := by omega
 have uS : (madeCells zv.cells (n * ti.size)).toList.length = n * ti.size := by rw [Array.length_toList, size_madeCells]
 have rH : ∀ q u, (madeCells zv.cells (n * ti.size)).toList[q]? = some u -> zv.cells.toList[q % ti.size]? = some u := by
  intro q u hq
  have wN : q < n * ti.size := by have := (List.getElem?_eq_some_iff.1 hq).1; omega
  have oC : q % ti.size < zv.cells.size := by rw [tr]; exact Nat.mod_lt _ (by omega)
  have : (madeCells zv.cells (n * ti.size)).toList[q]? = some (zv.cells[q % zv.cells.size]!) := by
   simp [madeCells, wN]
  rw [this] at hq
  cases hq
  rw [tr]
  simp [oC]
 have tQ : Qh (w.alloc (.cells (madeCells zv.cells (n * ti.size)) (ZE P T))) (madeCells zv.cells (n * ti.size)).toList (List.replicate n zr).flatten (fun _ => False) := by
  refine ⟨by rw [uS, Zy _ ti.size (by intro q hq; rw [List.eq_of_mem_replicate hq]; exact tv)]; simp, fun _ _ => False, fun q u dd hq uW => ?_, fun _ _ hb => hb, fun _ _ _ hb => hb.elim⟩
  have wN : q < n * ti.size := by have := (List.getElem?_eq_some_iff.1 hq).1; omega
  rw [zX zr n q (by rw [tv]; exact wN), tv] at uW
  exact LF np (uG (Tof T0 X) h σ.ob w) (Nt gF) _ _ _ u dd (rH q u hq) uW
 have := r.Hr w9 (World.grownBy_alloc w (.cells (madeCells zv.cells (n * ti.size)) (ZE P T)) none) (.slice (some ⟨w.heap.size, 0, none⟩) n n) (e := ZE P T) (size := P.cellsOf (ZE P T)) (rows := List.replicate n zr) (xs := (madeCells zv.cells (n * ti.size)).toList)
  ⟨by rw [uS, vt]; simp, .inr ⟨w.heap.size, n, _, by simp, Nat.zero_le _, heap_alloc_new w _, by simp, by simp only [maxLen]; omega, by rw [size_madeCells, vt], by rw [List.take_of_length_le (by rw [uS, vt]; simp)]⟩⟩
  (by intro q hq; rw [List.eq_of_mem_replicate hq]; omega) tQ
  (fun b hb => by simp [blk] at hb; subst hb; exact ⟨Nat.le_refl _, by simp⟩)
 rw [List.length_replicate] at this
 exact hK _ _ this.1 this.2
theorem Qh.place {xs ys : List Value} {ds es : List D} {S S' : Nat -> Prop} (h1 : Qh w xs ds S) (h2 : Qh w ys es S') (hd : ∀ b, S b -> S' b -> False) (o : Nat) (ho : o + ys.length <= xs.length) : Qh w (Vm.place xs o ys) (Vm.place ds o es) (fun b => S b \/ S' b) := by
 obtain ⟨l1, Sk, a1, a2, a3⟩ := h1
 obtain ⟨l2, rP, b1, b2, b3⟩ := h2
 refine ⟨by rw [XU _ _ _ ho, XU _ _ _ (by omega), l1], fun k => if o <= k /\ k < o + ys.length then rP (k - o) else Sk k, fun k x d hx wO => ?_, fun k b hb => ?_, fun i j b hi hj => ?_⟩
 ·rcases jD xs o ys ho k x hx with ⟨p1, p2, p3⟩ | ⟨p1, p3⟩
  ·rcases jD ds o es (by omega) k d wO with ⟨_, _, p4⟩ | ⟨p4, _⟩
   ·simp only [p1, p2, and_self, if_true]; exact b1 _ x d p3 p4
   ·exact absurd ⟨p1, by omega⟩ p4
  ·rcases jD ds o es (by omega) k d wO with ⟨p4, p5, _⟩ | ⟨_, p4⟩
   ·exact absurd ⟨p4, by omega⟩ p1
   ·simp only [p1, if_false]; exact a1 k x d p3 p4
 ·by_cases hk : o <= k /\ k < o + ys.length
  ·simp only [hk, and_self, if_true] at hb; exact .inr (b2 _ b hb)
  ·simp only [hk, if_false] at hb; exact .inl (a2 k b hb)
 ·by_cases vd : o <= i /\ i < o + ys.length
  ·simp only [vd, and_self, if_true] at hi
   by_cases uY : o <= j /\ j < o + ys.length
   ·simp only [uY, and_self, if_true] at hj
    have := b3 _ _ b hi hj; omega
   ·simp only [uY, if_false] at hj; exact (hd b (a2 j b hj) (b2 _ b hi)).elim
  ·simp only [vd, if_false] at hi
   by_cases uY : o <= j /\ j < o + ys.length
   ·simp only [uY, and_self, if_true] at hj; exact (hd b (a2 i b hi) (b2 _ b hj)).elim
   ·simp only [uY, if_false] at hj; exact a3 i j b hi hj
theorem SC (r : Rel T0 B σ a w X h) {o : Oper} {T : TypeId} {x y : Operand} (wA : o.op = .store T x y) (hd : o.dst = none) (ht : K0 P T = true) (sB : gOf (look P σ 0 x) = true) (sC : gOf (look P σ T y) = true)
  {t j i c : Nat} (hx : unc (look P σ 0 x) = .one (.ptr t j i c)) {size : Nat} {rows : List (List D)} (ho : σ.ob t j = .arr true size rows) (hi : i < rows.length) {ds : List D} (vZ : (unc (look P σ T y)).flat = true) (sb : QG σ (unc (look P σ T y)).cells = some ds) (wb : Xc σ (unc (look P σ T y)).cells)
  (w8 : (YX (unc (look P σ T y)).cells).Nodup) (oy : (t, j) ∉ YX (unc (look P σ T y)).cells) (gG : (σ.Zn (YX (unc (look P σ T y)).cells)).JX (At.isT t) = false) (hl : ds.length = P.cellsOf T) (hle : c + P.cellsOf T <= size)
  {K : Act -> World -> Prop} {Q : Exit -> Act -> World -> Prop} (hK : ∀ a' w', X7 T0 B ((σ.Zn (YX (unc (look P σ T y)).cells)).Ze t j (.arr true size (rows.set i (place (rows.getD i []) c ds)))) a' w' -> Yj B w w' -> K a' w') : o.wp P a w K Q := by
 obtain ⟨_, ti, _, lF, _, _⟩ := xl ht
 have nV := r.arg (P := P) 0 x hx sB
 obtain ⟨b, cap, cur, e, xs, hb, he, hh, vi, v9, uH, uj, hz, rn, _, wI⟩ := r.arr ho nV
 obtain ⟨wI, hn⟩ := wI rfl
 have hy := xV vZ (r.arg (P := P) T y rfl sC)
 have tR := Sc r hy sb wb w8
 have uX := tR.1
 have e2 : (a.eval y).cells.toList.length = (a.eval y).cells.size := Array.length_toList
 have e3 : cur.toList.length = cur.size := Array.length_toList
 have wk : rows[i]? = some (rows.getD i []) := by simp [List.getD_eq_getElem?_getD, List.getElem?_eq_getElem hi]
 have hmul : i * size + size <= rows.length * size := by rw [<- Nat.succ_mul]; exact Nat.mul_le_mul_right _ hi
 have nW : rows.length * size <= cap * size := Nat.mul_le_mul_right _ vi
 have wU := run_store (P := P) (w := w) lF (o := i * size + c) (val := a.eval y) hh (by omega) (by omega) (fun u hu => by obtain ⟨x', _, tN⟩ := hy.mem hu; exact Zr.Y1 tN)
 have wZ : σ.ob t j ≠ .none := by rw [ho]; simp
 have vI : blk (h t j).v = some b := by rw [hb]; rfl
 have hB := r.G0 wZ vI
 have vO := r.ub t j b wZ vI
 have p8 : xs.length = rows.length * size := by rw [rn, Zy rows size hz]
 have se : (rows.getD i []).length = size := hz _ (List.mem_of_getElem? wk)
 generalize hL : YX (unc (look P σ T y)).cells = L at *
 have r1 := r.Zn L
 have sw : (σ.Zn L).ob t j = .arr true size rows := by rw [St.Qx, if_neg oy, ho]
 have wq := r.xT L
 have tI : ∀ b', (h t j).u b' -> Jo σ h L b' -> False := by
  rintro b' vm ⟨p, hp, wD, mc⟩
  obtain ⟨q1, q2⟩ := r.inj t j p.1 p.2 b' wZ wD vm mc
  exact oy (by rw [q1, q2]; exact hp)
 unfold Oper.wp
 simp only [execOp, wA, he, Sem.run_bind, wU, Result.andThen_ok, Sem.run_pure, Oper.upon_skip, hd]
 refine hK _ _ ⟨X, _, r1.change (by rw [sw]; simp) (by simp [World.setRow]) (fun k hk => setRow_other w b k _ (fun e => hk (e ▸ vO))) (Jo σ h L) (fun b' wS => wq b' wS) _ (by rw [sw]; simp [Ob.H6])
  ⟨(h t j).v, fun k => ((place xs (i * size + c) (a.eval y).cells.toList)[k]?).getD undef, fun b' => (h t j).u b' \/ Jo σ h L b'⟩ rfl (fun b' wS => wS) (fun b' wS => .inl (r.ub t j b' wZ wS)) (At.isT t) gG (.inl (fun u i c => by simp [At.isT])) ?_⟩ (Yj.setRow hB.1 _)
 have vc := setRow_heap w b cur (place cur.toList (i * size + c) (a.eval y).cells.toList).toArray e (0, 0) hh
 have wW : ∀ b', b' ≠ b -> (w.setRow b (place cur.toList (i * size + c) (a.eval y).cells.toList).toArray).heap[b']? = w.heap[b']? := fun b' wD => setRow_other w b b' _ wD
 have uz : ∀ r ∈ rows.set i (place (rows.getD i []) c ds), r.length = size := by
  intro r' vU
  rcases List.mem_or_eq_of_mem_set vU with vU | vU
  ·exact hz r' vU
  ·rw [vU, XU _ _ _ (by omega), se]
 refine ⟨e, place xs (i * size + c) (a.eval y).cells.toList, ⟨?_, .inr ⟨b, cap, _, by simpa using hb, Nat.zero_le _, vc, by simpa using vi, v9, ?_, ?_⟩⟩, uz, ?_, fun k u d hu _ _ => by simp [hu]⟩
 ·rw [XU _ _ _ (by omega), p8]; simp
 ·simp only [List.size_toArray]
  rw [XU _ _ _ (by omega), e3, uH]
 ·simp only [List.length_set]
  rw [S3 _ _ _ _ (by omega) (by omega), uj]
 ·rw [yA size c ds (by omega) rows i _ wk hz]
  have k1 : Qh (w.setRow b (place cur.toList (i * size + c) (a.eval y).cells.toList).toArray) xs rows.flatten (fun b => (h t j).u b /\ blk (h t j).v ≠ some b) := wI.T1 (fun b' wS => wW b' (fun e => wS.2 (by rw [e]; exact vI)))
  have k2 : Qh (w.setRow b (place cur.toList (i * size + c) (a.eval y).cells.toList).toArray) (a.eval y).cells.toList ds (Jo σ h L) := tR.T1 (fun b' wS => wW b' (fun e => tI b' (by rw [e]; exact vO) wS))
  refine (k1.place k2 (fun b' h1 h2 => tI b' h1.1 h2) _ (by omega)).mono (fun b' wS => ?_)
  rcases wS with wS | wS
  ·exact ⟨.inl wS.1, wS.2⟩
  ·exact ⟨.inr wS, fun e => tI b' (r.ub t j b' wZ e) wS⟩
end
section
variable {P : Program} {T0 : CS} {B : Nat -> Prop} {σ : St} {a : Act} {w w' : World} {X X' : Nat -> Prop} {h : Nat -> Nat -> Hd}
def F2 (σ : St) (x : V) (size : Nat) (wE : List (List D)) (l : List (Nat × Nat)) : Prop :=
 match x with
 | .one (.nil _) => wE = [] /\ l = []
 | .one (.sref t j lo len) => lo = 0 /\ len = wE.length /\ l = [(t, j)] /\ (σ.ob t j = .arr true size wE \/ (σ.ob t j = .lit size [] /\ wE = []))
 | _ => False
end
def GW (w : World) (res : List (List D)) (e : Ending) (w' : World) : Prop :=
 ∃ (vs : List Value) (wa : List (List Value)), e = .returned (ko vs) /\ Below w.heap.size w w' /\ Zc Ql vs wa /\ Zc (fun (cs : List Value) (row : List D) => cs.length = row.length) wa res /\
  Qh w' wa.flatten res.flatten (fun b => w.heap.size <= b /\ b < w'.heap.size)
def YC (P : Program) (f : FuncId) (args res : List (List D)) : Prop :=
 Wi P f = true /\ ∀ (T : CS) (w : World) (wj : List Value), (∀ b k, T b k -> b < w.heap.size) -> Zc (fun v row => ∃ cs, Ql v cs /\ Zc (Rd T w) cs row) wj args -> Calls P f wj.toArray w (GW w res)
theorem KU {α β : Type} {R : α -> β -> Prop} : ∀ {wa : List (List α)} {res : List (List β)}, Zc (fun (cs : List α) (row : List β) => cs.length = row.length) wa res -> (∀ (k : Nat) (x : α) (d : β), wa.flatten[k]? = some x -> res.flatten[k]? = some d -> R x d) -> Zc (fun cs row => Zc R cs row) wa res := by
 intro wa res wC
 induction wC with
 | nil => intro _; exact .nil
 | @cons cs row wa res hl _ ih =>
  intro hk
  refine .cons (Zc.Jm hl (fun k x d hx hd => hk k x d ?_ ?_)) (ih (fun k x d hx hd => hk (cs.length + k) x d ?_ ?_))
  ·rw [List.flatten_cons, List.getElem?_append_left (List.getElem?_eq_some_iff.1 hx).1]; exact hx
  ·rw [List.flatten_cons, List.getElem?_append_left (List.getElem?_eq_some_iff.1 hd).1]; exact hd
  ·rw [List.flatten_cons, List.getElem?_append_right (by omega)]; simpa using hx
  ·rw [List.flatten_cons, List.getElem?_append_right (by omega), hl]; simpa using hd
theorem YC.rd {P : Program} {f : FuncId} {args res : List (List D)} (hs : YC P f args res) : XP P f false args res := by
 refine ⟨hs.1, fun T w wj hT ha => (hs.2 T w wj hT ha).mono ?_⟩
 rintro e w' ⟨vs, wa, he, hb, hf, hl, ⟨_, Sk, h1, h2, h3⟩⟩
 refine ⟨vs, wa, fun b => w.heap.size <= b /\ b < w'.heap.size, he, hb, fun b hb => hb, hf, KU hl (fun k x d hx hd => ?_), fun hh => by cases hh⟩
 simp only [KE, Bool.false_eq_true, if_false]
 exact (h1 k x d hx hd).rd (fun b k' hb => .inr (h2 k b hb))
def Z6 : List Bool -> List D -> List Ob
 | _, [] => []
 | q :: qs, .sl size rows :: ds => .arr q size rows :: Z6 qs ds
 | [], .sl size rows :: ds => .arr true size rows :: Z6 [] ds
 | qs, _ :: ds => .none :: Z6 qs.tail ds
def zY : List Bool -> List D -> Prop
 | _, [] => True
 | q :: qs, .sl _ rows :: ds => (q = false -> ∀ r ∈ rows, ∀ x ∈ r, x.scalar = true) /\ zY qs ds
 | [], .sl _ _ :: ds => zY [] ds
 | qs, _ :: ds => zY qs.tail ds
theorem YN : ∀ (qs : List Bool) (ds : List D) (k : Nat), zY qs ds -> (∀ size rows, ds[k]? = some (.sl size rows) -> ∃ q, Z2 (Z6 qs ds) k = .arr q size rows /\ (q = false -> ∀ r ∈ rows, ∀ x ∈ r, x.scalar = true)) /\ (Z2 (Z6 qs ds) k ≠ .none -> ∃ size rows, ds[k]? = some (.sl size rows))
 | qs, [], k, _ => ⟨fun size rows h => by simp at h, fun h => by cases qs <;> simp [Z6, Z2] at h⟩
 | q :: qs, .sl size rows :: ds, 0, hf => ⟨fun s r h => by simp at h; obtain ⟨rfl, rfl⟩ := h; exact ⟨q, by simp [Z6, Z2], hf.1⟩, fun _ => ⟨size, rows, by simp⟩⟩
 | [], .sl size rows :: ds, 0, hf => ⟨fun s r h => by simp at h; obtain ⟨rfl, rfl⟩ := h; exact ⟨true, by simp [Z6, Z2], fun h => by cases h⟩, fun _ => ⟨size, rows, by simp⟩⟩
 | qs, .int k n :: ds, 0, hf => ⟨fun s r h => by simp at h, fun h => by cases qs <;> simp [Z6, Z2] at h⟩
 | qs, .bool b :: ds, 0, hf => ⟨fun s r h => by simp at h, fun h => by cases qs <;> simp [Z6, Z2] at h⟩
 | qs, .str s :: ds, 0, hf => ⟨fun s r h => by simp at h, fun h => by cases qs <;> simp [Z6, Z2] at h⟩
 | qs, .unk :: ds, 0, hf => ⟨fun s r h => by simp at h, fun h => by cases qs <;> simp [Z6, Z2] at h⟩
 | q :: qs, .sl size rows :: ds, k + 1, hf => by
  have := YN qs ds k hf.2
  simpa [Z6, Z2] using this
 | [], .sl size rows :: ds, k + 1, hf => by
  have := YN [] ds k hf
  simpa [Z6, Z2] using this
 | qs, .int _ _ :: ds, k + 1, hf => by
  have := YN qs.tail ds k (by cases qs <;> exact hf)
  cases qs <;> simpa [Z6, Z2] using this
 | qs, .bool _ :: ds, k + 1, hf => by
  have := YN qs.tail ds k (by cases qs <;> exact hf)
  cases qs <;> simpa [Z6, Z2] using this
 | qs, .str _ :: ds, k + 1, hf => by
  have := YN qs.tail ds k (by cases qs <;> exact hf)
  cases qs <;> simpa [Z6, Z2] using this
 | qs, .unk :: ds, k + 1, hf => by
  have := YN qs.tail ds k (by cases qs <;> exact hf)
  cases qs <;> simpa [Z6, Z2] using this
section
variable {P : Program} {T0 : CS} {B : Nat -> Prop} {σ : St} {a : Act} {w w' : World} {X X' : Nat -> Prop} {h : Nat -> Nat -> Hd}
theorem MC (r : Rel T0 B σ a w X h) {o : Oper} {c : Call} {f : FuncId} {d : Nat} {rows res : List (List D)} (qs : List Bool) (wA : o.op = .call c) (hc : c.callee = .value (.func f)) (hd : o.dst = some d) (w9 : σ.fresh d = true)
  (wH : XL P σ c.args.toList c.argTypes.toList rows) (hs : YC P f rows res) (hq : zY qs res.flatten)
  {K : Act -> World -> Prop} {Q : Exit -> Act -> World -> Prop} (hK : ∀ a' w', X7 T0 B (σ.new d (yR d res) (Z6 qs res.flatten)) a' w' -> Yj B w w' -> K a' w') : o.wp P a w K Q := by
 have wN := St.JF w9
 unfold Oper.wp
 rw [xQ wA hc hs.1, Oper.upon_enter]
 have rJ := r.XL false wH (fun hh => by cases hh)
 simp only [Bool.false_eq_true, if_false] at rJ
 refine (hs.2 (VK T0 X h σ) w _ (fun b k hb => r.O7 hb) rJ).mono ?_
 rintro e w' ⟨vs, wa, rfl, vW, wi, hlen, ⟨_, Sk, h1, h2, h3⟩⟩
 rw [hd]
 have hex : ∀ j, ∃ hd : Hd, (∀ c, wa.flatten[j]? = some c -> hd.v = c) /\ (∀ size rows, res.flatten[j]? = some (.sl size rows) -> (∀ b, hd.u b -> Sk j b) /\ (∀ b, blk hd.v = some b -> hd.u b) /\ ∀ T h ob, Xu T h ob w' hd (.arr true size rows) /\ ((∀ r ∈ rows, ∀ x ∈ r, x.scalar = true) -> Xu T h ob w' hd (.arr false size rows))) := by
  intro j
  have vZ : wa.flatten.length = res.flatten.length := by
   have := KU (R := fun _ _ => True) hlen (fun _ _ _ _ _ => trivial)
   exact (KJ this).length
  cases hj : res.flatten[j]? with
  | none => exact ⟨Hd.of ((wa.flatten[j]?).getD undef), fun c wm => by simp [Hd.of, wm], fun size rows hh => by cases hh⟩
  | some dd =>
   have sr : j < wa.flatten.length := by rw [vZ]; exact (List.getElem?_eq_some_iff.1 hj).1
   have sS : wa.flatten[j]? = some wa.flatten[j] := List.getElem?_eq_getElem sr
   cases dd with
   | int k n => exact ⟨Hd.of wa.flatten[j], fun c wm => by rw [sS] at wm; cases wm; rfl, fun size rows hh => by cases hh⟩
   | bool k => exact ⟨Hd.of wa.flatten[j], fun c wm => by rw [sS] at wm; cases wm; rfl, fun size rows hh => by cases hh⟩
   | str k => exact ⟨Hd.of wa.flatten[j], fun c wm => by rw [sS] at wm; cases wm; rfl, fun size rows hh => by cases hh⟩
   | unk => exact ⟨Hd.of wa.flatten[j], fun c wm => by rw [sS] at wm; cases wm; rfl, fun size rows hh => by cases hh⟩
   | sl size rows =>
    have ho := h1 j _ _ sS hj
    generalize hv : wa.flatten[j] = v at ho
    cases ho with
    | sl v size rows S e xs rP ho hz hb hl hk ri wO =>
     refine ⟨⟨v, fun k => (xs[k]?).getD undef, Sk j⟩, fun c wm => by rw [sS, hv] at wm; cases wm; rfl, fun wg wP hh => ?_⟩
     cases hh
     refine ⟨fun b hb => hb, hb, fun T h ob => ⟨⟨e, xs, ho, hz, ⟨hl, rP, hk, fun k b hb => ri k b hb, wO⟩, fun k x d hx _ _ => by simp [hx]⟩, fun uP => ⟨e, xs, ho, hz, Zc.Jm hl (fun k x d hx hd => ?_)⟩⟩⟩
     obtain ⟨r0, uf, hdr⟩ := List.mem_flatten.1 (List.mem_of_getElem? hd)
     have vS := uP r0 uf d hdr
     have := hk k x d hx hd
     cases this with
     | int k n => exact .int _ _
     | bool b => exact .bool _
     | str s => exact .str _
     | unk v h => exact .unk _ h
     | sl => cases vS
 obtain ⟨hf, sc⟩ := Classical.axiomOfChoice hex
 refine hK _ _ ⟨X, fun t j => if t = d then hf j else h t j, ?_⟩ (Yj.UP vW r.hB)
 have wZ : ∀ j, (σ.new d (yR d res) (Z6 qs res.flatten)).ob d j = Z2 (Z6 qs res.flatten) j := fun j => by rw [St.Xo]; simp [wN]
 have vk : Zc (fun cs row => Zc (zu (Tof T0 X) w') cs row) wa res := by
  refine KU hlen (fun k x d hx hd => ?_)
  have ho := h1 k x d hx hd
  cases ho with
  | int k n => exact Rd.int _ _
  | bool b => exact Rd.bool _
  | str s => exact Rd.str _
  | unk v h => exact Rd.unk _ h
  | sl v size rows S e xs rP ho hz hb hl hk ri wO => exact ⟨e, xs, ho⟩
 refine r.new w9 (Below.grownBy vW) (fun b hb => hb) (fun b hb => .inl hb) (yR d res) (ko vs) (Z6 qs res.flatten) hf ?_ (fun j => ?_) (fun j b wD hb => ?_) (fun j b wD hb => ?_) (fun j j' b wD wv hb wS => ?_)
 ·exact RB (h := fun t j => if t = d then hf j else h t j) (ob := (σ.new d (yR d res) (Z6 qs res.flatten)).ob) (t := d) wi vk (fun i size rows hi => by
   obtain ⟨q, re, _⟩ := (YN qs res.flatten i hq).1 size rows hi
   exact ⟨q, by rw [wZ]; exact re⟩) (fun i c hi => by simp only [if_true]; exact (sc i).1 c hi)
 ·by_cases wD : Z2 (Z6 qs res.flatten) j = .none
  ·rw [wD]; trivial
  ·obtain ⟨size, rows, hj⟩ := (YN qs res.flatten j hq).2 wD
   obtain ⟨q, re, mg⟩ := (YN qs res.flatten j hq).1 size rows hj
   rw [re]
   have := ((sc j).2 size rows hj).2.2 (Tof T0 X) (fun t j => if t = d then hf j else h t j) (σ.new d (yR d res) (Z6 qs res.flatten)).ob
   cases q with
   | true => exact this.1
   | false => exact this.2 (mg rfl)
 ·obtain ⟨size, rows, hj⟩ := (YN qs res.flatten j hq).2 wD
  exact ((sc j).2 size rows hj).2.1 b hb
 ·obtain ⟨size, rows, hj⟩ := (YN qs res.flatten j hq).2 wD
  have := h2 j b (((sc j).2 size rows hj).1 b hb)
  exact ⟨this.1, fun hx => by have := (r.hX b hx).2; omega, this.2⟩
 ·obtain ⟨size, rows, hj⟩ := (YN qs res.flatten j hq).2 wD
  obtain ⟨wg, wP, uY⟩ := (YN qs res.flatten j' hq).2 wv
  exact h3 j j' b (((sc j).2 size rows hj).1 b hb) (((sc j').2 wg wP uY).1 b wS)
end
end Go.Vm
