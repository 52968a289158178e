/- An abstract machine GP the model of Go, by value, and that it is sound: part Vb. No condition. -/
import Derived.Test.YtngnbcmfckmklaaGreatVa
namespace Go.Vm
open Go.RowKit
section
variable {P : Program} {T0 : CS} {B : Nat -> Prop} {σ : St} {a : Act} {w w' : World} {X X' : Nat -> Prop} {h : Nat -> Nat -> Hd}
theorem YI.ni {T T' : CS} {h h' : Nat -> Nat -> Hd} {ob fG : Nat -> Nat -> Ob} (hT : ∀ b k v, T b k -> w.cell? ⟨b, k, none⟩ = some v -> w'.cell? ⟨b, k, none⟩ = some v /\ T' b k) (hc : ∀ t j, Cpt h h' ob fG t j)
  {x : At} {v : Value} (r : YI T h ob w x v) : YI T' h' fG w' x v := by
 obtain ⟨d, hd⟩ : ∃ d, x.ref d = false := by
  cases x with
  | sref t j lo len => exact ⟨t + 1, by simp [At.ref]⟩
  | ptr t j i c => exact ⟨t + 1, by simp [At.ref]⟩
  | bptr t c => exact ⟨t + 1, by simp [At.ref]⟩
  | fn f t => exact ⟨t + 1, by simp [At.ref]⟩
  | tref t j i c o => exact ⟨t + 1, by simp [At.ref]⟩
  | any => exact ⟨0, rfl⟩
  | d x => exact ⟨0, rfl⟩
  | nil s => exact ⟨0, rfl⟩
  | rptr r c => exact ⟨0, rfl⟩
 exact YI.carry hT (d := d) (fun t j _ => hc t j) hd r
def TR (p : At -> Bool) : List At -> Bool
 | [] => false
 | x :: xs => p x || TR p xs
def V.As (p : At -> Bool) : V -> Bool
 | .one x => p x
 | .agg xs => TR p xs
 | _ => false
def CY (p : At -> Bool) : List V -> Bool
 | [] => false
 | x :: xs => x.As p || CY p xs
def V.yL (p : At -> Bool) : V -> Bool
 | .tup xs => CY p xs
 | .cnd _ x => x.As p
 | .fix _ x => x.As p
 | .one x => p x
 | .agg xs => TR p xs
 | .any => false
def xD (p : At -> Bool) : List Ob -> Bool
 | [] => false
 | .box cells :: os => TR p cells || xD p os
 | .lit _ rows :: os => TR p rows.flatten || xD p os
 | _ :: os => xD p os
def St.yL (p : At -> Bool) : St -> Bool
 | [] => false
 | e :: σ => e.1.yL p || xD p e.2 || St.yL p σ
def At.isT (t : Nat) : At -> Bool
 | .tref u _ _ _ _ => u == t
 | _ => false
theorem kJ : ∀ (xs : List At), TR (fun _ => false) xs = false
 | [] => rfl
 | _ :: xs => by simp [TR, kJ xs]
theorem ID : ∀ (xs : List V), CY (fun _ => false) xs = false
 | [] => rfl
 | x :: xs => by cases x <;> simp [CY, V.As, kJ, ID xs]
theorem ve (x : V) : x.As (fun _ => false) = false := by cases x <;> simp [V.As, kJ]
theorem xV (x : V) : x.yL (fun _ => false) = false := by cases x <;> simp [V.yL, kJ, ID, ve]
theorem SD : ∀ (os : List Ob), xD (fun _ => false) os = false
 | [] => rfl
 | o :: os => by cases o <;> simp [xD, kJ, SD os]
theorem St.xV : ∀ (σ : St), St.yL (fun _ => false) σ = false
 | [] => rfl
 | e :: σ => by simp [St.yL, Go.Vm.xV, Go.Vm.SD, St.xV σ]
theorem St.Nh {p : At -> Bool} : ∀ {σ : St}, σ.yL p = false -> ∀ t, (σ.get t).yL p = false
 | [], _, t => by simp [St.get, V.yL]
 | e :: σ, h, 0 => by simp only [St.yL, Bool.or_eq_false_iff] at h; exact h.1.1
 | e :: σ, h, t + 1 => by
  simp only [St.yL, Bool.or_eq_false_iff] at h
  have := St.Nh h.2 t
  simpa [St.get] using this
theorem CP {p : At -> Bool} : ∀ {os : List Ob}, xD p os = false -> ∀ j, xD p [Yp os j] = false
 | [], _, j => by simp [Yp, xD]
 | o :: os, h, 0 => by cases o <;> simp_all [Yp, xD]
 | o :: os, h, j + 1 => by
  have h2 : xD p os = false := by cases o <;> simp_all [xD]
  have := CP h2 j
  simpa [Yp] using this
theorem St.Hl {p : At -> Bool} : ∀ {σ : St}, σ.yL p = false -> ∀ t j, xD p [σ.ob t j] = false
 | [], _, t, j => by simp [St.ob, xD]
 | e :: σ, h, 0, j => by simp only [St.yL, Bool.or_eq_false_iff] at h; exact CP h.1.2 j
 | e :: σ, h, t + 1, j => by
  simp only [St.yL, Bool.or_eq_false_iff] at h
  have := St.Hl h.2 t j
  simpa [St.ob] using this
theorem Hp {T T' : CS} {h h' : Nat -> Nat -> Hd} {ob fG : Nat -> Nat -> Ob} {p : At -> Bool} (f : ∀ {x : At} {v : Value}, p x = false -> YI T h ob w x v -> YI T' h' fG w' x v) {xs : List At} {vs : List Value} (hx : TR p xs = false)
  (r : Z6 (YI T h ob w) xs vs) : Z6 (YI T' h' fG w') xs vs := by
 induction r with
 | nil => exact .nil
 | cons r _ ih =>
  simp only [TR, Bool.or_eq_false_iff] at hx
  exact .cons (f hx.1 r) (ih hx.2)
theorem K4.map {T T' : CS} {h h' : Nat -> Nat -> Hd} {ob fG : Nat -> Nat -> Ob} {p : At -> Bool} (f : ∀ {x : At} {v : Value}, p x = false -> YI T h ob w x v -> YI T' h' fG w' x v) {x : V} {v : Value} (hx : x.As p = false)
  (r : K4 T h ob w x v) : K4 T' h' fG w' x v := by
 cases x with
 | any => exact r
 | one x => exact f hx r
 | agg xs => obtain ⟨cs, e, r⟩ := r; exact ⟨cs, e, Hp f hx r⟩
 | tup xs => exact r.elim
 | cnd g x => exact r.elim
 | fix u x => exact r.elim
theorem JN.map {T T' : CS} {h h' : Nat -> Nat -> Hd} {ob fG : Nat -> Nat -> Ob} {p : At -> Bool} (f : ∀ {x : At} {v : Value}, p x = false -> YI T h ob w x v -> YI T' h' fG w' x v) {x : V} {v : Value} (hx : x.yL p = false)
  (r : JN T h ob w x v) : JN T' h' fG w' x v := by
 cases x with
 | any => exact r
 | one x => exact f hx r
 | agg xs => obtain ⟨cs, e, r⟩ := r; exact ⟨cs, e, Hp f hx r⟩
 | tup xs =>
  obtain ⟨vs, e, r⟩ := r
  refine ⟨vs, e, ?_⟩
  clear e
  generalize vs.toList = vl at r
  simp only [V.yL] at hx
  induction r with
  | nil => exact .nil
  | cons r _ ih =>
   simp only [CY, Bool.or_eq_false_iff] at hx
   exact .cons (K4.map f hx.1 r) (ih hx.2)
 | cnd g x => exact ⟨fun hg => K4.map f hx (r.1 hg), r.2⟩
 | fix u x => exact ⟨r.1, K4.map f hx r.2⟩
theorem zV.map {T T' : CS} {h h' : Nat -> Nat -> Hd} {ob fG : Nat -> Nat -> Ob} {p : At -> Bool} (f : ∀ {x : At} {v : Value}, p x = false -> YI T h ob w x v -> YI T' h' fG w' x v)
  (hT : ∀ b k v, T b k -> w.cell? ⟨b, k, none⟩ = some v -> w'.cell? ⟨b, k, none⟩ = some v /\ T' b k) {hd : Hd} {o : Ob}
  (fO : o ≠ .none -> ∀ b, blk hd.v = some b -> hd.u b) (hb : o ≠ .none -> ∀ b, hd.u b -> w'.heap[b]? = w.heap[b]?) (hx : xD p [o] = false) (r : zV T h ob w hd o) : zV T' h' fG w' hd o := by
 cases o with
 | none => trivial
 | box cells =>
  obtain ⟨b, cs, e, hv, hh, iV⟩ := r
  simp only [xD, Bool.or_false] at hx
  exact ⟨b, cs, e, hv, by rw [hb (by simp) b (fO (by simp) b (by rw [hv]; rfl))]; exact hh, Hp f hx iV⟩
 | arr q size rows =>
  have hk : ∀ {e : TypeId} {n : Nat} {xs : List Value}, w.ownsRow 0 e size hd.v n xs -> w'.ownsRow 0 e size hd.v n xs := fun ho => y2 (fun b h => hb (by simp) b (fO (by simp) b h)) ho
  cases q with
  | false =>
   obtain ⟨e, xs, ho, hz, iV⟩ := r
   exact ⟨e, xs, hk ho, hz, iV.imp fun _ _ => Rd.mono hT⟩
  | true =>
   obtain ⟨e, xs, ho, hz, iV, hn⟩ := r
   exact ⟨e, xs, hk ho, hz, iV.Sh (fun b h => hb (by simp) b h.1), hn⟩
 | lit size rows =>
  obtain ⟨e, xs, ho, hz, iV⟩ := r
  simp only [xD, Bool.or_false] at hx
  exact ⟨e, xs, y2 (fun b h => hb (by simp) b (fO (by simp) b h)) ho, hz, Hp f hx iV⟩
def Ob.uL : Ob -> Ob -> Prop
 | .arr q s r, .arr q' s' r' => q = q' /\ s = s' /\ r.length = r'.length
 | .lit s r, .lit s' r' => s = s' /\ r.length = r'.length
 | .box _, .box _ => True
 | _, _ => False
theorem Rel.change (r : Rel T0 B σ a w X h) {t j : Nat} (hH : σ.ob t j ≠ .none) (gX : w'.heap.size = w.heap.size) (hw : ∀ k, ¬ (h t j).u k -> w'.heap[k]? = w.heap[k]?) (M : Nat -> Prop)
  (hM : ∀ b, M b -> ¬ B b /\ ¬ X b /\ b < w.heap.size /\ ∀ u i, σ.ob u i ≠ .none -> ¬ (h u i).u b) (o' : Ob) (fX : (σ.ob t j).uL o') (ir : Hd) (hv : ir.v = (h t j).v) (hu : ∀ b, ir.u b -> (h t j).u b \/ M b) (fO : ∀ b, blk ir.v = some b -> ir.u b)
  (p : At -> Bool) (hp : σ.yL p = false) (hn : (∀ u i c o, p (.tref t u i c o) = true) \/ ir.n = (h t j).n)
  (dH : zV (Tof T0 X) (fun u i => if u = t /\ i = j then ir else h u i) (σ.Z5 t j o').ob w' ir o') : Rel T0 B (σ.Z5 t j o') a w' X (fun u i => if u = t /\ i = j then ir else h u i) := by
 have gm : ∀ u i, ¬ (u = t /\ i = j) -> (σ.Z5 t j o').ob u i = σ.ob u i := by
  intro u i iU
  rw [St.JV σ t j o' u i hH, if_neg iU]
 have gi : (σ.Z5 t j o').ob t j = o' := by rw [St.JV σ t j o' t j hH]; simp
 have hT : ∀ b k v, Tof T0 X b k -> w.cell? ⟨b, k, none⟩ = some v -> w'.cell? ⟨b, k, none⟩ = some v /\ Tof T0 X b k := by
  intro b' k v ig ib
  refine ⟨?_, ig⟩
  have iU : ¬ (h t j).u b' := by
   intro gv
   have iX := r.own t j b' hH gv
   rcases ig with ig | ig
   ·exact iX.1 (r.hT _ _ ig)
   ·exact iX.2.1 ig
  rw [World.cell?_of_block (hw b' iU)]; exact ib
 have cv : ∀ u i, ((fun u i => if u = t /\ i = j then ir else h u i) u i).v = (h u i).v := by
  intro u i
  by_cases hc : u = t /\ i = j
  ·simp only [hc, and_self, if_true]; exact hv
  ·simp only [hc, if_false]
 have cq : ∀ u i q size rows, (σ.Z5 t j o').ob u i = .arr q size rows -> ∃ ia, σ.ob u i = .arr q size ia /\ ia.length = rows.length := by
  intro u i q size rows ho
  by_cases hc : u = t /\ i = j
  ·obtain ⟨rfl, rfl⟩ := hc
   rw [gi] at ho; subst ho
   cases gS : σ.ob u i with
   | arr q0 s0 r0 => rw [gS] at fX; obtain ⟨rfl, rfl, hl⟩ := fX; exact ⟨r0, rfl, hl⟩
   | none => rw [gS] at fX; exact fX.elim
   | box c => rw [gS] at fX; exact fX.elim
   | lit s r => rw [gS] at fX; exact fX.elim
  ·rw [gm u i hc] at ho; exact ⟨rows, ho, rfl⟩
 have hll : ∀ u i size rows, (σ.Z5 t j o').ob u i = .lit size rows -> ∃ ia, σ.ob u i = .lit size ia /\ ia.length = rows.length := by
  intro u i size rows ho
  by_cases hc : u = t /\ i = j
  ·obtain ⟨rfl, rfl⟩ := hc
   rw [gi] at ho; subst ho
   cases gS : σ.ob u i with
   | arr q0 s0 r0 => rw [gS] at fX; exact fX.elim
   | none => rw [gS] at fX; exact fX.elim
   | box c => rw [gS] at fX; exact fX.elim
   | lit s r => rw [gS] at fX; obtain ⟨rfl, hl⟩ := fX; exact ⟨r, rfl, hl⟩
  ·rw [gm u i hc] at ho; exact ⟨rows, ho, rfl⟩
 have cU : ∀ u i cells, (σ.Z5 t j o').ob u i = .box cells -> ∃ gR, σ.ob u i = .box gR := by
  intro u i cells ho
  by_cases hc : u = t /\ i = j
  ·obtain ⟨rfl, rfl⟩ := hc
   rw [gi] at ho; subst ho
   cases gS : σ.ob u i with
   | arr q0 s0 r0 => rw [gS] at fX; exact fX.elim
   | none => rw [gS] at fX; exact fX.elim
   | box c => exact ⟨c, rfl⟩
   | lit s r => rw [gS] at fX; exact fX.elim
  ·rw [gm u i hc] at ho; exact ⟨cells, ho⟩
 have at_ : ∀ {x : At} {v : Value}, p x = false -> YI (Tof T0 X) h σ.ob w x v -> YI (Tof T0 X) (fun u i => if u = t /\ i = j then ir else h u i) (σ.Z5 t j o').ob w' x v := by
  intro x v aN rx
  cases x with
  | any => exact rx
  | d x => exact Rd.mono hT rx
  | nil s => exact rx
  | sref u i lo len =>
   refine ⟨rx.1, fun q size rows ho => ?_, fun size rows ho => ?_⟩
   ·obtain ⟨ia, gS, hl⟩ := cq u i q size rows ho
    rw [cv, <- hl]; exact rx.2.1 q size ia gS
   ·obtain ⟨ia, gS, hl⟩ := hll u i size rows ho
    rw [cv, <- hl]; exact rx.2.2 size ia gS
  | ptr u i k c =>
   refine ⟨rx.1, fun q size rows ho => ?_⟩
   obtain ⟨ia, gS, hl⟩ := cq u i q size rows ho
   rw [cv]; exact rx.2 q size ia gS
  | bptr u c =>
   refine ⟨rx.1, fun cells ho => ?_⟩
   obtain ⟨gR, gS⟩ := cU u 0 cells ho
   rw [cv]; exact rx.2 gR gS
  | fn f u =>
   refine ⟨rx.1, fun cells ho => ?_⟩
   obtain ⟨gR, gS⟩ := cU u 0 cells ho
   rw [cv]; exact rx.2 gR gS
  | tref u i k c o =>
   refine ⟨rx.1, fun size rows ho => ?_⟩
   obtain ⟨ia, gS, hl⟩ := cq u i true size rows ho
   have h1 := rx.2 size ia gS
   by_cases hc : u = t /\ i = j
   ·obtain ⟨rfl, rfl⟩ := hc
    rcases hn with hn | hn
    ·rw [hn] at aN; cases aN
    ·simp only [and_self, if_true, hn]; exact h1
   ·simp only [hc, if_false]; exact h1
  | rptr rr c =>
   obtain ⟨b, off, g, e, hk⟩ := rx
   exact ⟨b, off, g, e, fun k d hd => ⟨(hT _ _ _ (hk k d hd).2.1 (hk k d hd).1).1, (hk k d hd).2.1, Rd.mono hT (hk k d hd).2.2⟩⟩
 have gV : ∀ u i, (σ.Z5 t j o').ob u i ≠ .none -> σ.ob u i ≠ .none := by
  intro u i gU
  by_cases gv : u = t /\ i = j
  ·obtain ⟨rfl, rfl⟩ := gv; exact hH
  ·rw [gm u i gv] at gU; exact gU
 refine ⟨by rw [r.size, St.X7], r.defers, by rw [gX]; exact r.hB, fun b hb => by rw [gX]; exact r.hX b hb, r.hT, fun u gv => ?_, fun u i => ?_, fun u i b' iU ig => ?_, fun u i b' iU ig => ?_, fun u i u' i' b' iU hZ fL gr => ?_⟩
 ·rw [St.X7] at gv
  rw [St.QP]; exact JN.map at_ (St.Nh hp u) (r.slot u gv)
 ·by_cases hc : u = t /\ i = j
  ·obtain ⟨rfl, rfl⟩ := hc; rw [gi]; simp only [and_self, if_true]; exact dH
  ·rw [gm u i hc]
   simp only [hc, if_false]
   exact zV.map at_ hT (fun ho b => r.ub u i b ho) (fun ho b hb => hw b (fun hbt => hc (r.inj u i t j b ho hH hb hbt))) (St.Hl hp u i) (r.obj u i)
 ·by_cases hc : u = t /\ i = j
  ·simp only [hc, and_self, if_true] at ig ⊢; exact fO b' ig
  ·simp only [hc, if_false] at ig ⊢; exact r.ub u i b' (gV u i iU) ig
 ·rw [gX]
  by_cases hc : u = t /\ i = j
  ·simp only [hc, and_self, if_true] at ig
   rcases hu b' ig with h1 | h1
   ·exact r.own t j b' hH h1
   ·have := hM b' h1; exact ⟨this.1, this.2.1, this.2.2.1⟩
  ·simp only [hc, if_false] at ig; exact r.own u i b' (gV u i iU) ig
 ·by_cases hc : u = t /\ i = j
  ·by_cases gB : u' = t /\ i' = j
   ·exact ⟨by rw [hc.1, gB.1], by rw [hc.2, gB.2]⟩
   ·simp only [hc, and_self, if_true] at fL
    simp only [gB, if_false] at gr
    rcases hu b' fL with h1 | h1
    ·have := r.inj t j u' i' b' hH (gV u' i' hZ) h1 gr
     rw [hc.1, hc.2]; exact this
    ·exact absurd gr ((hM b' h1).2.2.2 u' i' (gV u' i' hZ))
  ·by_cases gB : u' = t /\ i' = j
   ·simp only [gB, and_self, if_true] at gr
    simp only [hc, if_false] at fL
    rcases hu b' gr with h1 | h1
    ·have := r.inj u i t j b' (gV u i iU) hH fL h1
     rw [gB.1, gB.2]; exact this
    ·exact absurd fL ((hM b' h1).2.2.2 u i (gV u i iU))
   ·simp only [hc, if_false] at fL
    simp only [gB, if_false] at gr
    exact r.inj u i u' i' b' (gV u i iU) (gV u' i' hZ) fL gr
theorem Rel.uu (r : Rel T0 B σ a w X h) {t j : Nat} (hH : σ.ob t j ≠ .none) (gX : w'.heap.size = w.heap.size) (hw : ∀ k, ¬ (h t j).u k -> w'.heap[k]? = w.heap[k]?)
  (o' : Ob) (fX : (σ.ob t j).uL o') (dH : zV (Tof T0 X) h (σ.Z5 t j o').ob w' (h t j) o') : Rel T0 B (σ.Z5 t j o') a w' X h := by
 have hh : (fun u i => if u = t /\ i = j then h t j else h u i) = h := by
  funext u i
  by_cases hc : u = t /\ i = j
  ·simp [hc]
  ·simp [hc]
 have := r.change hH gX hw (fun _ => False) (fun _ hh => hh.elim) o' fX (h t j) rfl (fun b hb => .inl hb) (fun b hb => r.ub t j b hH hb) (fun _ => false) (St.xV σ) (.inr rfl) (by rw [hh]; exact dH)
 rw [hh] at this; exact this
theorem run_store {T : TypeId} {ti : TypeInfo} (hi : P.info? T = some ti) {g o : Nat} {e : TypeId} {cur : Array Value} {val : Value} (hg : w.heap[g]? = some (.cells cur e (0, 0))) (gX : val.cells.size = P.cellsOf T) (hle : o + P.cellsOf T <= cur.size) (h1 : ∀ u ∈ val.cells.toList, u.oneCell' = true) :
  (Instr.storeAt T (.pointer (some ⟨g, o, none⟩)) val).run P w = .ok () (w.setRow g (place cur.toList o val.cells.toList).toArray) := by
 have hQ := run_storeCells_at P g o e val.cells.toList 0 cur w hg (by simp; omega) h1
 have iU : ¬ val.cells.size ≠ P.cellsOf T := by omega
 simp only [Instr.storeAt, Instr.sureAddr, storeVar, Sem.run_bind, Sem.run_pure, Result.andThen_ok, zC hi, if_neg iU]
 rw [hQ]
 simp [place]
theorem XB.setRow {B : Nat -> Prop} {g : Nat} (hg : ¬ B g) (cs : Array Value) : XB B w (w.setRow g cs) :=
 ⟨rfl, rfl, rfl, by simp [World.setRow], fun k hk => setRow_other w g k cs (fun e => hg (e ▸ hk))⟩
theorem Hw (r : Rel T0 B σ a w X h) {o : Oper} {T : TypeId} {x y : Operand} (iS : o.op = .store T x y) (hd : o.dst = none) (ht : qf P T = true) (eb : gOf (look P σ 0 x) = true) (ec : gOf (look P σ T y) = true)
  {t c : Nat} (hx : unc (look P σ 0 x) = .one (.bptr t c)) {cells : List At} (ho : σ.ob t 0 = .box cells) (g5 : (unc (look P σ T y)).flat = true) (hl : (unc (look P σ T y)).cells.length = P.cellsOf T) (hle : c + P.cellsOf T <= cells.length)
  {K : Act -> World -> Prop} {Q : Exit -> Act -> World -> Prop} (hK : ∀ a' w', K6 T0 B (σ.Z5 t 0 (.box (place cells c (unc (look P σ T y)).cells))) a' w' -> XB B w w' -> K a' w') : o.wp P a w K Q := by
 obtain ⟨_, ti, _, hi, _, _⟩ := kZ ht
 have hax := r.arg (P := P) 0 x hx eb
 obtain ⟨b, cs, e, hb, he, hh, iV⟩ := r.box ho hax
 have hy := WW g5 (r.arg (P := P) T y rfl ec)
 have fY := hy.length
 have gP := iV.length
 have e1 : cs.toList.length = cs.size := Array.length_toList
 have e2 : (a.eval y).cells.toList.length = (a.eval y).cells.size := Array.length_toList
 have iw := run_store (P := P) (w := w) hi (o := c) (val := a.eval y) hh (by omega) (by omega) (fun u hu => by obtain ⟨x', _, eh⟩ := hy.mem hu; exact YI.X4 eh)
 have hH : σ.ob t 0 ≠ .none := by rw [ho]; simp
 have ga : blk (h t 0).v = some b := by rw [hb]; rfl
 have hB := r.s9 hH ga
 have fO := r.ub t 0 b hH ga
 unfold Oper.wp
 simp only [execOp, iS, he, Sem.run_bind, iw, Result.andThen_ok, Sem.run_pure, Oper.upon_skip, hd]
 refine hK _ _ ⟨X, h, ?_⟩ (XB.setRow hB.1 _)
 have gu := setRow_heap w b cs (place cs.toList c (a.eval y).cells.toList).toArray e (0, 0) hh
 refine r.uu hH (by simp [World.setRow]) (fun k hk => setRow_other w b k _ (fun e => hk (e ▸ fO))) _ (by rw [ho]; trivial) ?_
 have r2 : Rel T0 B (σ.Z5 t 0 (.box (place cells c (unc (look P σ T y)).cells))) a (w.setRow b (place cs.toList c (a.eval y).cells.toList).toArray) X h -> True := fun _ => trivial
 have hT : ∀ b' k v, Tof T0 X b' k -> w.cell? ⟨b', k, none⟩ = some v -> (w.setRow b (place cs.toList c (a.eval y).cells.toList).toArray).cell? ⟨b', k, none⟩ = some v /\ Tof T0 X b' k := by
  intro b' k v ig ib
  refine ⟨?_, ig⟩
  have iU : b' ≠ b := by
   rintro rfl
   rcases ig with ig | ig
   ·exact hB.1 (r.hT _ _ ig)
   ·exact hB.2.1 ig
  rw [World.cell?_of_block (setRow_other w b b' _ iU)]; exact ib
 have gm : ∀ u i, ¬ (u = t /\ i = 0) -> (σ.Z5 t 0 (.box (place cells c (unc (look P σ T y)).cells))).ob u i = σ.ob u i := by
  intro u i iU
  rw [St.JV σ t 0 _ u i hH, if_neg iU]
 have gi : (σ.Z5 t 0 (.box (place cells c (unc (look P σ T y)).cells))).ob t 0 = .box (place cells c (unc (look P σ T y)).cells) := by rw [St.JV σ t 0 _ t 0 hH]; simp
 have hcp : ∀ u i, Cpt h h σ.ob (σ.Z5 t 0 (.box (place cells c (unc (look P σ T y)).cells))).ob u i := by
  intro u i
  by_cases hu : u = t /\ i = 0
  ·obtain ⟨rfl, rfl⟩ := hu
   refine ⟨fun q size rows hD => ?_, fun size rows hD => ?_, fun im hD => ⟨rfl, cells, ho⟩⟩
   ·rw [gi] at hD; cases hD
   ·rw [gi] at hD; cases hD
  ·exact Cpt.same rfl (gm u i hu)
 have at_ : ∀ {x : At} {v : Value}, YI (Tof T0 X) h σ.ob w x v -> YI (Tof T0 X) h (σ.Z5 t 0 (.box (place cells c (unc (look P σ T y)).cells))).ob (w.setRow b (place cs.toList c (a.eval y).cells.toList).toArray) x v := fun rx => YI.ni hT hcp rx
 refine ⟨b, _, e, hb, gu, ?_⟩
 have := (iV.place c hy).imp (fun _ _ => at_)
 simpa using this
end
end Go.Vm
namespace Go.Vm
open Go.RowKit
section
variable {P : Program} {T0 : CS} {B : Nat -> Prop} {σ : St} {a : Act} {w w' : World} {X X' : Nat -> Prop} {h : Nat -> Nat -> Hd}
theorem zu {α : Type} (size c : Nat) (ds : List α) (hc : c + ds.length <= size) : ∀ (rows : List (List α)) (i : Nat) (row : List α), rows[i]? = some row -> (∀ r ∈ rows, r.length = size) ->
  (rows.set i (place row c ds)).flatten = place rows.flatten (i * size + c) ds
 | [], i, row, hr, _ => by simp at hr
 | r0 :: rows, 0, row, hr, hz => by
  simp at hr; subst hr
  have h0 : r0.length = size := hz r0 (by simp)
  simp only [List.set_cons_zero, List.flatten_cons, place, Nat.zero_mul, Nat.zero_add]
  rw [List.take_append_of_le_length (by omega), List.drop_append_of_le_length (by omega)]
  simp
 | r0 :: rows, i + 1, row, hr, hz => by
  have h0 : r0.length = size := hz r0 (by simp)
  have ih := zu size c ds hc rows i row (by simpa using hr) (fun r hr => hz r (by simp [hr]))
  rw [List.set_cons_succ, List.flatten_cons, ih, List.flatten_cons]
  unfold place
  have e1 : (i + 1) * size + c = r0.length + (i * size + c) := by rw [h0, Nat.add_mul]; omega
  have e2 : (i + 1) * size + c + ds.length = r0.length + (i * size + c + ds.length) := by rw [h0, Nat.add_mul]; omega
  rw [e2, e1, List.take_length_add_append, List.drop_length_add_append]
  simp
theorem Oy {α : Type} (l : List α) (n off : Nat) (xs : List α) (hl : off + xs.length <= n) (hn : n <= l.length) : (place l off xs).take n = place (l.take n) off xs := by
 unfold place
 rw [List.take_take, Nat.min_eq_left (by omega), List.drop_take]
 rw [List.take_append, List.take_append]
 simp only [List.length_append, List.length_take]
 rw [Nat.min_eq_left (by omega), List.take_of_length_le (l := List.take off l) (by simp; omega), List.take_of_length_le (l := xs) (by omega)]
theorem qG {α : Type} (l : List α) (o : Nat) (xs : List α) (hl : o + xs.length <= l.length) (k : Nat) (v : α) (hv : (place l o xs)[k]? = some v) :
  (o <= k /\ k < o + xs.length /\ xs[k - o]? = some v) \/ (¬ (o <= k /\ k < o + xs.length) /\ l[k]? = some v) := by
 unfold place at hv
 have h1 : (l.take o).length = o := by simp; omega
 rcases Nat.lt_or_ge k o with hk | hk
 ·rw [List.append_assoc, List.getElem?_append_left (by omega), List.getElem?_take, if_pos hk] at hv
  exact .inr ⟨by omega, hv⟩
 ·rw [List.append_assoc, List.getElem?_append_right (by omega), h1] at hv
  rcases Nat.lt_or_ge (k - o) xs.length with cT | cT
  ·rw [List.getElem?_append_left cT] at hv
   exact .inl ⟨hk, by omega, hv⟩
  ·rw [List.getElem?_append_right cT, List.getElem?_drop] at hv
   refine .inr ⟨by omega, ?_⟩
   rw [show o + xs.length + (k - o - xs.length) = k by omega] at hv; exact hv
theorem EK (r : Rel T0 B σ a w X h) {o : Oper} {T : TypeId} {x y : Operand} (iS : o.op = .store T x y) (hd : o.dst = none) (ht : qf P T = true) (eb : gOf (look P σ 0 x) = true) (ec : gOf (look P σ T y) = true)
  {t j i c : Nat} (hx : unc (look P σ 0 x) = .one (.ptr t j i c)) {q : Bool} {size : Nat} {rows : List (List D)} (ho : σ.ob t j = .arr q size rows) (hi : i < rows.length) {ds : List D} (g5 : (unc (look P σ T y)).flat = true) (dt : rowOf σ (unc (look P σ T y)).cells = some ds) (hQ : zO (unc (look P σ T y)).cells = true)
  (hl : ds.length = P.cellsOf T) (hle : c + P.cellsOf T <= size) (hq : q = true -> (∀ d ∈ ds, d.scalar = true) /\ ∀ k d, k < P.cellsOf T -> (rows.getD i [])[c + k]? = some d -> d.scalar = true)
  {K : Act -> World -> Prop} {Q : Exit -> Act -> World -> Prop} (hK : ∀ a' w', K6 T0 B (σ.Z5 t j (.arr q size (rows.set i (place (rows.getD i []) c ds)))) a' w' -> XB B w w' -> K a' w') : o.wp P a w K Q := by
 obtain ⟨_, ti, _, hti, _, _⟩ := kZ ht
 have hax := r.arg (P := P) 0 x hx eb
 obtain ⟨b, cap, cur, e, xs, hb, he, hh, gy, fU, fK, fo, hz, dK, iV, iX⟩ := r.arr ho hax
 have hy := WW g5 (r.arg (P := P) T y rfl ec)
 have aR := r.rowOf true dt hy (fun _ => hQ)
 simp only [if_true] at aR
 have fY := aR.length
 have e2 : (a.eval y).cells.toList.length = (a.eval y).cells.size := Array.length_toList
 have e3 : cur.toList.length = cur.size := Array.length_toList
 have hO : rows[i]? = some (rows.getD i []) := by simp [List.getD_eq_getElem?_getD, List.getElem?_eq_getElem hi]
 have hmul : i * size + size <= rows.length * size := by rw [<- Nat.succ_mul]; exact Nat.mul_le_mul_right _ hi
 have aS : rows.length * size <= cap * size := Nat.mul_le_mul_right _ gy
 have iw := run_store (P := P) (w := w) hti (o := i * size + c) (val := a.eval y) hh (by omega) (by omega) (fun u hu => by obtain ⟨x', _, eh⟩ := hy.mem hu; exact YI.X4 eh)
 have hH : σ.ob t j ≠ .none := by rw [ho]; simp
 have ga : blk (h t j).v = some b := by rw [hb]; rfl
 have hB := r.s9 hH ga
 have fO := r.ub t j b hH ga
 unfold Oper.wp
 simp only [execOp, iS, he, Sem.run_bind, iw, Result.andThen_ok, Sem.run_pure, Oper.upon_skip, hd]
 refine hK _ _ ⟨X, h, ?_⟩ (XB.setRow hB.1 _)
 refine r.uu hH (by simp [World.setRow]) (fun k hk => setRow_other w b k _ (fun e => hk (e ▸ fO))) _ (by rw [ho]; simp [Ob.uL]) ?_
 have gu := setRow_heap w b cur (place cur.toList (i * size + c) (a.eval y).cells.toList).toArray e (0, 0) hh
 have hT : ∀ b' k v, Tof T0 X b' k -> w.cell? ⟨b', k, none⟩ = some v -> (w.setRow b (place cur.toList (i * size + c) (a.eval y).cells.toList).toArray).cell? ⟨b', k, none⟩ = some v /\ Tof T0 X b' k := by
  intro b' k v ig ib
  refine ⟨?_, ig⟩
  have iU : b' ≠ b := by
   rintro rfl
   rcases ig with ig | ig
   ·exact hB.1 (r.hT _ _ ig)
   ·exact hB.2.1 ig
  rw [World.cell?_of_block (setRow_other w b b' _ iU)]; exact ib
 have ag : xs.length = rows.length * size := by rw [dK, YQ rows size hz]
 have er : (rows.getD i []).length = size := hz _ (List.mem_of_getElem? hO)
 have fA : (w.setRow b (place cur.toList (i * size + c) (a.eval y).cells.toList).toArray).ownsRow 0 e size (h t j).v (rows.set i (place (rows.getD i []) c ds)).length (place xs (i * size + c) (a.eval y).cells.toList) := by
  refine ⟨?_, .inr ⟨b, cap, _, by simpa using hb, Nat.zero_le _, gu, by simpa using gy, fU, ?_, ?_⟩⟩
  ·rw [XX _ _ _ (by omega), ag]; simp
  ·simp only [List.size_toArray]
   rw [XX _ _ _ (by omega), e3, fK]
  ·simp only [List.length_set]
   rw [Oy _ _ _ _ (by omega) (by omega), fo]
 have fW : ∀ r ∈ rows.set i (place (rows.getD i []) c ds), r.length = size := by
  intro r' gL
  rcases List.mem_or_eq_of_mem_set gL with gL | gL
  ·exact hz r' gL
  ·rw [gL, XX _ _ _ (by omega), er]
 cases q with
 | false =>
  refine ⟨e, _, fA, fW, ?_⟩
  rw [zu size c ds (by omega) rows i _ hO hz]
  exact ((iV rfl).imp fun _ _ => Rd.mono hT).place _ (aR.imp fun _ _ => Rd.mono hT)
 | true =>
  obtain ⟨⟨_, Sk, h1, h2, h3⟩, hn⟩ := iX rfl
  obtain ⟨hq1, hq2⟩ := hq rfl
  have ib : ∀ k u, (place xs (i * size + c) (a.eval y).cells.toList)[k]? = some u -> (i * size + c <= k /\ k < i * size + c + ds.length /\ (a.eval y).cells.toList[k - (i * size + c)]? = some u) \/ (¬ (i * size + c <= k /\ k < i * size + c + ds.length) /\ xs[k]? = some u) := by
   intro k u hu
   exact qG xs _ _ (by omega) k u hu |>.imp (fun hh => ⟨hh.1, by omega, hh.2.2⟩) (fun hh => ⟨by rw [<- fY]; exact hh.1, hh.2⟩)
  have db : ∀ k d, (rows.set i (place (rows.getD i []) c ds)).flatten[k]? = some d -> (i * size + c <= k /\ k < i * size + c + ds.length /\ ds[k - (i * size + c)]? = some d) \/ (¬ (i * size + c <= k /\ k < i * size + c + ds.length) /\ rows.flatten[k]? = some d) := by
   intro k d fB
   rw [zu size c ds (by omega) rows i _ hO hz] at fB
   exact qG _ _ _ (by rw [YQ rows size hz]; omega) k d fB
  refine ⟨e, _, fA, fW, ⟨?_, Sk, fun k u d hu fB => ?_, h2, h3⟩, fun k u d hu fB gn => ?_⟩
  ·rw [XX _ _ _ (by omega), dK, YQ rows size hz, YQ _ size fW]; simp
  ·rcases ib k u hu with ⟨p1, p2, p3⟩ | ⟨p1, p3⟩
   ·rcases db k d fB with ⟨_, _, p4⟩ | ⟨p4, _⟩
    ·obtain ⟨d', ir, gL⟩ := aR.get _ _ p3
     rw [p4] at ir; cases ir
     have hs := hq1 d (List.mem_of_getElem? p4)
     cases gL with
     | int k n => exact .int _ _ _
     | bool b => exact .bool _ _
     | str s => exact .str _ _
     | unk v h => exact .unk _ h _
     | nil => simp [D.scalar] at hs
     | sl => simp [D.scalar] at hs
    ·exact absurd ⟨p1, p2⟩ p4
   ·rcases db k d fB with ⟨p4, p5, _⟩ | ⟨_, p4⟩
    ·exact absurd ⟨p4, p5⟩ p1
    ·refine (h1 k u d p3 p4).Sh (fun b' ig => setRow_other w b b' _ ?_)
     rintro rfl
     exact (h2 k b' ig).2 ga
  ·rcases db k d fB with ⟨p4, p5, p6⟩ | ⟨p4, p6⟩
   ·have := hq1 d (List.mem_of_getElem? p6)
    rw [gn] at this; cases this
   ·rcases ib k u hu with ⟨p1, p2, _⟩ | ⟨_, p3⟩
    ·exact absurd ⟨p1, p2⟩ p4
    ·exact hn k u d p3 p6 gn
end
end Go.Vm
namespace Go.Vm
open Go.RowKit
section
variable {P : Program} {T0 : CS} {B : Nat -> Prop} {σ : St} {a : Act} {w w' : World} {X X' : Nat -> Prop} {h : Nat -> Nat -> Hd}
theorem Mk (t ty e e0 : TypeId) (i : TypeInfo) (ht : P.underlying t = some (.slice e)) (hi : P.info? e = some i)
  (g dh sCap : Nat) (cur : Array Value) (hg : w.heap[g]? = some (.cells cur e0 (0, 0)))
  (a : Addr) (m c : Nat) (news : List Value) (hl : news.length = m * i.size) (gj : ∀ j u, news[j]? = some u -> w.cell? (a.add j) = some u) (h1 : ∀ u ∈ news, u.oneCell' = true)
  (dJ : dh + m <= sCap) (hfit : dh * i.size + news.length <= cur.size) :
  (Builtin.append_ #[t, t] ty #[.slice (some ⟨g, 0, none⟩) dh sCap, .slice (some a) m c]).run P w =
   .ok (.slice (some ⟨g, 0, none⟩) (dh + m) sCap) (w.setRow g (cur.toList.take (dh * i.size) ++ news ++ cur.toList.drop (dh * i.size + news.length)).toArray) := by
 have hf := run_firstCells_some (P := P) w i.size m a m c news hl gj
 have hQ := run_storeCells_at P g (dh * i.size) e0 news 0 cur w hg (by simpa using hfit) h1
 simp only [Nat.add_zero] at hQ
 simp [Builtin.append_, run_underlying ht, sizeOf, typeInfo, hi, Builtin.lenOf, dJ, hf, Addr.add_lit, hQ]
theorem j6 (t ty e e0 : TypeId) (i : TypeInfo) (z : Value) (ht : P.underlying t = some (.slice e)) (hi : P.info? e = some i) (hz : i.zero = some z)
  (dC : z.cells.size = i.size) (gX : 0 < i.size) (v : Value) (n : Nat) (xs : List Value) (iX : w.ownsRow 0 e0 i.size v n xs)
  (a : Addr) (m c : Nat) (news : List Value) (hl : news.length = m * i.size) (gj : ∀ j u, news[j]? = some u -> w.cell? (a.add j) = some u) (h1 : ∀ u ∈ news, u.oneCell' = true)
  (h63 : n + m <= maxLen) (gW : (n + m) * i.bytes <= 140737488355328) :
  ∃ v' w' e1, (Builtin.append_ #[t, t] ty #[v, .slice (some a) m c]).run P w = .ok v' w' /\ w'.ownsRow 0 e1 i.size v' (n + m) (xs ++ news) /\ w.grownBy w' (blk v) /\
   (∀ b, blk v' = some b -> (w.heap.size <= b /\ b < w'.heap.size) \/ blk v = some b) := by
 have hlen : (xs ++ news).length = (n + m) * i.size := by rw [List.length_append, iX.1, hl, Nat.add_mul]
 rcases iX.2 with ⟨rfl, rfl⟩ | ⟨g, cap, cur, rfl, _, hg, fC, bW, fK, htake⟩
 ·have hx : xs = [] := List.eq_nil_of_length_eq_zero (by simpa using iX.1)
  subst hx
  obtain ⟨v', w', hr, ho, gf, _⟩ := run_append_own (P := P) w w.heap.size t ty e i z i.size i.bytes ht hi hz rfl rfl dC gX (.slice none 0 0) 0 [] (World.ownsRow_nil w _ e i.size) a m c news hl gj h1 h63 gW (Nat.le_refl _)
  refine ⟨v', w', e, hr, ?_, gf, fun b hb => .inl ?_⟩
  ·refine ⟨ho.1, ho.2.imp id ?_⟩
   rintro ⟨g, cap, cur, hv, _, rest⟩
   exact ⟨g, cap, cur, hv, Nat.zero_le _, rest⟩
  ·have ig : v'.ownBlock = some b := by
    cases v' with
    | slice o l c => cases o with
     | none => simp [blk] at hb
     | some ad => simpa [blk, Value.ownBlock] using hb
    | pointer o => rcases ho.2 with ⟨hv, _⟩ | ⟨g, cap, cur, hv, _⟩ <;> cases hv
    | _ => simp [blk] at hb
   exact ho.lt b ig
 ·by_cases dJ : n + m <= cap
  ·have hfit : n * i.size + news.length <= cur.size := by rw [hl, fK, <- Nat.add_mul]; exact Nat.mul_le_mul_right _ dJ
   have hr := Mk (P := P) (w := w) t ty e e0 i ht hi g n cap cur hg a m c news hl gj h1 dJ hfit
   refine ⟨_, _, e0, hr, ⟨hlen, .inr ⟨g, cap, _, rfl, Nat.zero_le _, setRow_heap w g cur _ e0 _ hg, dJ, bW, ?_, ?_⟩⟩, ⟨rfl, rfl, rfl, by simp [World.setRow], fun k _ hk => setRow_other w g k _ (fun e => hk (by simp [blk, e]))⟩, fun b hb => .inr (by simpa [blk] using hb)⟩
   ·simp only [List.size_toArray, List.length_append, List.length_take, List.length_drop, Array.length_toList]
    omega
   ·rw [htake, <- hlen]
    exact List.take_left
  ·have holds : ∀ j u, xs[j]? = some u -> w.cell? ((⟨g, 0, none⟩ : Addr).add j) = some u := iX.cells (g := g) rfl
   have hsmall : n + m <= 9223372036854775807 := by simp only [maxLen] at h63; omega
   have hr := run_append_grow (P := P) w t ty e i z ht hi hz ⟨g, 0, none⟩ n cap xs iX.1 holds a m c news hl gj (by omega) (by omega) (growslice_fits (by omega) gW)
   have dX := grownCap_ge w (n + m) cap e
   have hcm2 : grownCap w (n + m) cap e <= maxLen := grownCap_le_maxLen w (n + m) cap e h63
   refine ⟨_, _, e, hr, ⟨hlen, .inr ⟨w.heap.size, _, _, rfl, Nat.zero_le _, heap_alloc_new w.drew _, dX, hcm2, ?_, ?_⟩⟩, ⟨rfl, rfl, rfl, by simp, fun k hk _ => (World.grownBy_alloc w.drew _ none).block k hk (by simp)⟩, fun b hb => .inl ?_⟩
   ·simp only [Array.size_append, List.size_toArray, size_zeroCells, dC, iX.1, hl, <- Nat.add_mul]
    congr 1
    omega
   ·simp only [Array.toList_append, List.append_assoc]
    rw [<- List.append_assoc, <- hlen]
    exact List.take_left
   ·simp [blk] at hb; subst hb; simp
theorem yi (t ty e : TypeId) (i : TypeInfo) (ht : P.underlying t = some (.slice e)) (hi : P.info? e = some i) (base : Option Addr) (n cap : Nat) (fC : n <= cap) (hb : base = none -> cap = 0) :
  (Builtin.append_ #[t, t] ty #[.slice base n cap, .slice none 0 0]).run P w = .ok (.slice base n cap) w := by
 cases base with
 | none =>
  have := hb rfl; subst this
  have : n = 0 := by omega
  subst this
  simp [Builtin.append_, run_underlying ht, sizeOf, typeInfo, hi, Builtin.lenOf, Builtin.firstCells]
 | some ad => simp [Builtin.append_, run_underlying ht, sizeOf, typeInfo, hi, Builtin.lenOf, Builtin.firstCells, fC, storeCells]
theorem Rel.less (r : Rel T0 B σ a w X h) {σ' : St} (hl : σ'.length = σ.length) (gY : ∀ t, σ'.get t = σ.get t) (hk : ∀ t j, σ'.ob t j ≠ .none -> σ'.ob t j = σ.ob t j) : Rel T0 B σ' a w X h := by
 have back : ∀ t j o, σ'.ob t j = o -> o ≠ .none -> σ.ob t j = o := by
  intro t j o ho iU
  rw [<- hk t j (by rw [ho]; exact iU)]; exact ho
 have at_ : ∀ {x : At} {v : Value}, (fun _ : At => false) x = false -> YI (Tof T0 X) h σ.ob w x v -> YI (Tof T0 X) h σ'.ob w x v := by
  intro x v _ rx
  cases x with
  | any => exact rx
  | d x => exact rx
  | nil s => exact rx
  | sref u i lo len => exact ⟨rx.1, fun q size rows ho => rx.2.1 q size rows (back u i _ ho (by simp)), fun size rows ho => rx.2.2 size rows (back u i _ ho (by simp))⟩
  | ptr u i k c => exact ⟨rx.1, fun q size rows ho => rx.2 q size rows (back u i _ ho (by simp))⟩
  | bptr u c => exact ⟨rx.1, fun cells ho => rx.2 cells (back u 0 _ ho (by simp))⟩
  | fn f u => exact ⟨rx.1, fun cells ho => rx.2 cells (back u 0 _ ho (by simp))⟩
  | tref u i k c o => exact ⟨rx.1, fun size rows ho => rx.2 size rows (back u i _ ho (by simp))⟩
  | rptr rr c => exact rx
 have gV : ∀ u i, σ'.ob u i ≠ .none -> σ.ob u i ≠ .none := fun u i hn => by rw [<- hk u i hn]; exact hn
 refine ⟨by rw [r.size, hl], r.defers, r.hB, r.hX, r.hT, fun u hu => ?_, fun u i => ?_, fun u i b hn => r.ub u i b (gV u i hn), fun u i b hn => r.own u i b (gV u i hn), fun u i u' i' b hn gU => r.inj u i u' i' b (gV u i hn) (gV u' i' gU)⟩
 ·rw [gY u]; exact JN.map at_ (xV _) (r.slot u (by omega))
 ·by_cases hn : σ'.ob u i = .none
  ·rw [hn]; trivial
  ·rw [hk u i hn]
   exact zV.map at_ (fun b k v hb hc => ⟨hc, hb⟩) (fun ho b => r.ub u i b ho) (fun _ _ _ => rfl) (SD _) (r.obj u i)
theorem St.OP (σ : St) (t j u i : Nat) : (σ.Z5 t j .none).ob u i = if u = t /\ i = j then .none else σ.ob u i := by
 by_cases hH : σ.ob t j = .none
 ·have key : ∀ (σ : St) (t u : Nat), σ.ob t j = .none -> (σ.Z5 t j .none).ob u i = σ.ob u i := by
   intro σ
   induction σ with
   | nil => intro t u _; simp [St.Z5]
   | cons e σ ih =>
    intro t u ho
    cases t with
    | zero => cases u with
     | zero =>
      simp only [St.Z5, St.ob, List.getElem?_cons_zero, wi] at ho ⊢
      split
      ·rename_i hh; rw [hh.1, ho]
      ·rfl
     | succ u => simp [St.Z5, St.ob]
    | succ t => cases u with
     | zero => simp [St.Z5, St.ob]
     | succ u =>
      have := ih t u (by simpa [St.ob] using ho)
      simp only [St.ob, St.Z5] at this ⊢; simpa using this
  rw [key σ t u hH]
  split
  ·rename_i hh; rw [hh.1, hh.2]; exact hH
  ·rfl
 ·exact St.JV σ t j _ u i hH
theorem Rel.drop (r : Rel T0 B σ a w X h) (t j : Nat) : Rel T0 B (σ.Z5 t j .none) a w X h := by
 refine r.less (St.X7 _ _ _ _) (fun u => St.QP _ _ _ _ u) (fun u i hn => ?_)
 rw [St.OP] at hn ⊢
 split
 ·rename_i hh; rw [if_pos hh] at hn; exact absurd rfl hn
 ·rfl
def St.Zt : St -> List (Nat × Nat) -> St
 | σ, [] => σ
 | σ, p :: l => St.Zt (σ.Z5 p.1 p.2 .none) l
theorem St.zG : ∀ (l : List (Nat × Nat)) (σ : St), (σ.Zt l).length = σ.length
 | [], σ => rfl
 | p :: l, σ => by rw [St.Zt, St.zG l, St.X7]
theorem St.xN : ∀ (l : List (Nat × Nat)) (σ : St) (t : Nat), (σ.Zt l).get t = σ.get t
 | [], σ, t => rfl
 | p :: l, σ, t => by rw [St.Zt, St.xN l, St.QP]
theorem St.zA : ∀ (l : List (Nat × Nat)) (σ : St) (t j : Nat), (σ.Zt l).ob t j = if (t, j) ∈ l then .none else σ.ob t j
 | [], σ, t, j => by simp [St.Zt]
 | p :: l, σ, t, j => by
  rw [St.Zt, St.zA l, St.OP]
  by_cases h1 : (t, j) ∈ l
  ·simp [h1]
  ·by_cases h2 : t = p.1 /\ j = p.2
   ·have : (t, j) = p := by rw [h2.1, h2.2]
    rw [if_neg h1, if_pos h2, if_pos (by rw [this]; simp)]
   ·have : ¬ (t, j) = p := fun e => h2 (by rw [<- e]; exact ⟨rfl, rfl⟩)
    simp [h1, h2, this]
theorem Rel.Zt (r : Rel T0 B σ a w X h) (l : List (Nat × Nat)) : Rel T0 B (σ.Zt l) a w X h := by
 refine r.less (St.zG l σ) (St.xN l σ) (fun u i hn => ?_)
 rw [St.zA] at hn ⊢
 split
 ·rename_i hh; rw [if_pos hh] at hn; exact absurd rfl hn
 ·rfl
end
end Go.Vm
namespace Go.Vm
open Go.RowKit
section
variable {P : Program} {T0 : CS} {B : Nat -> Prop} {σ : St} {a : Act} {w w' : World} {X X' : Nat -> Prop} {h : Nat -> Nat -> Hd}
theorem xU {T : TypeId} (hz : QK P T = true) : ∃ i z row, P.info? T = some i /\ i.zero = some z /\ kQ P 12 T = some row /\ i.size = row.length /\ z.cells.size = i.size /\ i.size = P.cellsOf T /\ (∀ T' h ob w, Z6 (YI T' h ob w) row z.cells.toList) := by
 have fQ : ∃ row, kQ P 12 T = some row := by
  unfold QK at hz
  split at hz
  ·rename_i row i hr hi; exact ⟨row, hr⟩
  ·cases hz
 obtain ⟨row, hr⟩ := fQ
 obtain ⟨i, z, hi, ei, gX, iV⟩ := G9 hz hr
 refine ⟨i, z, row, hi, ei, hr, gX, ?_, by simp [Program.cellsOf, hi], iV⟩
 have := (iV (fun _ _ => True) (fun _ _ => Hd.of undef) (fun _ _ => .none) default).length
 have e1 : z.cells.toList.length = z.cells.size := Array.length_toList
 omega
def qJ (σ : St) (x : V) (size : Nat) (news : List (List D)) : Prop :=
 match x with
 | .one (.d (.sl s rows)) => s = size /\ news = rows
 | .one (.nil _) => news = []
 | .one (.sref t j lo len) => ∃ rows, σ.ob t j = .arr false size rows /\ lo + len <= rows.length /\ news = cut rows lo len
 | _ => False
def SL (σ : St) (x : V) (size : Nat) (iT : List (List D)) (σ1 : St) : Prop :=
 match x with
 | .one (.nil _) => iT = [] /\ σ1 = σ
 | .one (.sref t j lo len) => ∃ rows, σ.ob t j = .arr false size rows /\ lo = 0 /\ len <= rows.length /\ iT = rows.take len /\ σ1 = σ.Z5 t j .none
 | _ => False
theorem CO (v : Value) (n : Nat) : blk (CQ v n) = blk v := by
 cases v with
 | slice o _ _ => cases o <;> rfl
 | _ => rfl
theorem qP (rows : List (List D)) (size : Nat) (hz : ∀ r ∈ rows, r.length = size) (len : Nat) (hle : len <= rows.length) : (rows.take len).flatten = rows.flatten.take (len * size) := by
 induction rows generalizing len with
 | nil => simp
 | cons r rows ih =>
  cases len with
  | zero => simp
  | succ len =>
   have h1 := hz r (by simp)
   have h2 := ih (fun q hq => hz q (by simp [hq])) len (by simpa using hle)
   have h3 : (len + 1) * size = r.length + len * size := by rw [Nat.add_mul, h1]; omega
   rw [List.take_succ_cons, List.flatten_cons, List.flatten_cons, h2, h3, List.take_length_add_append]
theorem NW {e : TypeId} {size : Nat} {v : Value} {n len : Nat} {xs : List Value} (ho : w.ownsRow 0 e size v n xs) (hle : len <= n) : w.ownsRow 0 e size (CQ v len) len (xs.take (len * size)) := by
 have hm : len * size <= n * size := Nat.mul_le_mul_right _ hle
 refine ⟨by rw [List.length_take, ho.1]; omega, ?_⟩
 rcases ho.2 with ⟨rfl, rfl⟩ | ⟨g, cap, cur, rfl, hx, hg, fC, bW, fK, fo⟩
 ·have : len = 0 := by omega
  subst this
  exact .inl ⟨rfl, rfl⟩
 ·refine .inr ⟨g, cap, cur, rfl, hx, hg, by omega, bW, fK, ?_⟩
  rw [<- fo, List.take_take]
  congr 1
  omega
theorem Cf (r : Rel T0 B σ a w X h) {x : V} {v : Value} {size : Nat} {news : List (List D)} (hs : qJ σ x size news) (hv : JN (Tof T0 X) h σ.ob w x v) :
  (∀ n ∈ news, n.length = size) /\ ((v = .slice none 0 0 /\ news = []) \/ ∃ ad c xs, v = .slice (some ad) news.length c /\ (∀ j u, xs[j]? = some u -> w.cell? (ad.add j) = some u) /\ Z6 (Rd (Tof T0 X) w) xs news.flatten) := by
 unfold qJ at hs
 split at hs
 ·rename_i s rows
  obtain ⟨rfl, rfl⟩ := hs
  refine ⟨Ee (show Rd _ _ _ _ from hv), ?_⟩
  cases (show Rd _ _ _ _ from hv) with
  | nil => exact .inl ⟨rfl, rfl⟩
  | sl ad len cap s rows g hl hc hm hz dr hg hr =>
   refine .inr ⟨ad, cap, (List.range news.flatten.length).map g, by rw [hl], fun j u hu => ?_, ?_⟩
   ·rw [List.getElem?_map] at hu
    rcases Nat.lt_or_ge j news.flatten.length with hj | hj
    ·rw [List.getElem?_range hj] at hu
     cases hu
     have iU : news.flatten ≠ [] := by intro he; rw [he] at hj; simp at hj
     have := (hg j _ (List.getElem?_eq_getElem hj)).1
     obtain ⟨b, off, sp⟩ := ad
     have := dr iU
     simp at this; subst this
     rw [xk]; assumption
    ·rw [List.getElem?_eq_none (by simpa using hj)] at hu; cases hu
   ·refine Z6.kA (by simp) (fun k u d hu hd => ?_)
    rw [List.getElem?_map] at hu
    have hk := (List.getElem?_eq_some_iff.1 hd).1
    rw [List.getElem?_range hk] at hu
    cases hu
    exact hr k d hd
 ·subst hs
  exact ⟨(by intro n hn; cases hn), .inl ⟨hv, rfl⟩⟩
 ·rename_i t j lo len
  obtain ⟨rows, ho, hle, rfl⟩ := hs
  have h0 := r.obj t j
  rw [ho] at h0
  obtain ⟨e, xs, ⟨hl, iX⟩, hz, iV⟩ := h0
  refine ⟨fun x hx => hz x (List.mem_of_mem_drop (List.mem_of_mem_take hx)), ?_⟩
  have fc : YI (Tof T0 X) h σ.ob w (.sref t j lo len) v := hv
  obtain ⟨_, _, _, base, cap, rfl, gy, _, cm, hb⟩ := fc.2.1 _ size rows ho
  have gP : (cut rows lo len).length = len := XG _ _ _ hle
  by_cases gk : 0 < len
  ·obtain ⟨b, ek, hh, rfl⟩ := hb gk
   rcases iX with ⟨hn, _⟩ | ⟨g, cL, cur, fc, _, ai, fC, fU, fK, fo⟩
   ·rw [hh] at hn; cases hn
   ·rw [hh] at fc; cases fc
    refine .inr ⟨_, cap, cut xs (lo * size) (len * size), by rw [gP], fun j u hu => ?_, ?_⟩
    ·have h1 := yf _ _ _ _ _ hu
     rw [xk]
     refine yG ai _ _ ?_
     rw [<- fo, List.getElem?_take] at h1
     split at h1
     ·exact h1
     ·cases h1
    ·have ag : xs.length = rows.length * size := by rw [iV.length, YQ rows size hz]
     have hmul : lo * size + len * size <= rows.length * size := by rw [<- Nat.add_mul]; exact Nat.mul_le_mul_right _ hle
     refine Z6.kA ?_ (fun k u d hu hd => ?_)
     ·rw [XG _ _ _ (by omega), YQ (cut rows lo len) size (fun x hx => hz x (List.mem_of_mem_drop (List.mem_of_mem_take hx))), gP]
     ·have h1 := yf _ _ _ _ _ hu
      have h2 := jX rows size lo len hz k d hd
      obtain ⟨d', ir, hr⟩ := iV.get _ _ h1
      rw [h2] at ir; cases ir
      exact hr
  ·have : len = 0 := by omega
   subst this
   have eU : cut rows lo 0 = [] := by simp [cut]
   rw [eU]
   cases base with
   | none => have := cm rfl; subst this; exact .inl ⟨rfl, rfl⟩
   | some ad => exact .inr ⟨ad, cap, [], rfl, by simp, .nil⟩
 ·exact hs.elim
theorem By (r : Rel T0 B σ a w X h) {o : Oper} {t : TypeId} {x y : Operand} {d : Nat} {iT news : List (List D)} {σ1 : St} (iS : o.op = .call ⟨.builtin .append, #[x, y], #[t, t]⟩) (hd : o.dst = some d)
  (eb : gOf (look P σ t x) = true) (ec : gOf (look P σ t y) = true) (ht : XK P t = true) (hz : QK P (ZQ P t) = true) (gk : 0 < P.cellsOf (ZQ P t))
  (g6 : SL σ (unc (look P σ t x)) (P.cellsOf (ZQ P t)) iT σ1) (eY : qJ σ (unc (look P σ t y)) (P.cellsOf (ZQ P t)) news) (fP : σ1.fresh d = true)
  (gW : (iT.length + news.length) * P.bytesOf (ZQ P t) <= 140737488355328) (cx : iT.length + news.length <= 9223372036854775807)
  {K : Act -> World -> Prop} {Q : Exit -> Act -> World -> Prop} (hK : ∀ a' w', K6 T0 B (σ1.new d (.one (.sref d 0 0 (iT.length + news.length))) [.arr false (P.cellsOf (ZQ P t)) (iT ++ news)]) a' w' -> XB B w w' -> K a' w') : o.wp P a w K Q := by
 obtain ⟨ti, hu, hi, eC⟩ := QN ht
 obtain ⟨i, z, row, fH, ei, fQ, eD, dC, fE, fa⟩ := xU hz
 rw [hi] at fH; cases fH
 have cy : P.bytesOf (ZQ P t) = ti.bytes := by simp [Program.bytesOf, hi]
 rw [cy] at gW
 rw [<- fE] at g6 eY gk hK
 have dM := r.arg (P := P) t x rfl eb
 have bb := r.arg (P := P) t y rfl ec
 obtain ⟨hnz, gn⟩ := Cf r eY bb
 have fk : ∃ e0 xs, w.ownsRow 0 e0 ti.size (a.eval x) iT.length xs /\ (∀ q ∈ iT, q.length = ti.size) /\ Z6 (Rd (Tof T0 X) w) xs iT.flatten /\ Rel T0 B σ1 a w X h /\
   (∀ b, blk (a.eval x) = some b -> ¬ B b /\ ¬ X b /\ b < w.heap.size /\ ∀ u j, σ1.ob u j ≠ .none -> ¬ (h u j).u b) := by
  unfold SL at g6
  split at g6
  ·rename_i s heq
   obtain ⟨rfl, rfl⟩ := g6
   rw [heq] at dM
   have he : a.eval x = .slice none 0 0 := dM
   rw [he]
   exact ⟨0, [], World.ownsRow_nil w 0 0 _, (by intro q hq; cases hq), .nil, r, (fun b hb => by cases hb)⟩
  ·rename_i u j lo len heq
   obtain ⟨rows, ho, rfl, hle, rfl, rfl⟩ := g6
   rw [heq] at dM
   have dN : YI (Tof T0 X) h σ.ob w (.sref u j 0 len) (a.eval x) := dM
   obtain ⟨_, _, fv, _⟩ := dN.2.1 _ _ _ ho
   have he : a.eval x = CQ (h u j).v len := fv rfl
   have h0 := r.obj u j
   rw [ho] at h0
   obtain ⟨e, xs, iX, eE, iV⟩ := h0
   have hH : σ.ob u j ≠ .none := by rw [ho]; simp
   have htl : (rows.take len).length = len := by rw [List.length_take]; omega
   have g5 : (rows.take len).flatten = rows.flatten.take (len * ti.size) := qP rows ti.size eE len hle
   refine ⟨e, xs.take (len * ti.size), by rw [he, htl]; exact NW iX hle, fun q hq => eE q (List.mem_of_mem_take hq), by rw [g5]; exact iV.take _, r.drop u j, fun b hb => ?_⟩
   rw [he, CO] at hb
   have hbu := r.ub u j b hH hb
   have fA := r.own u j b hH hbu
   refine ⟨fA.1, fA.2.1, fA.2.2, fun u' j' iU ig => ?_⟩
   have hob' : σ.ob u' j' ≠ .none := by
    intro hh
    rw [St.JV σ u j _ u' j' hH] at iU
    split at iU
    ·exact iU rfl
    ·exact iU hh
   have := r.inj u j u' j' b hH hob' hbu ig
   obtain ⟨rfl, rfl⟩ := this
   rw [St.JV σ u j _ u j hH] at iU
   simp at iU
  ·exact g6.elim
 obtain ⟨e0, xs, iX, hoz, bA, r1, ga⟩ := fk
 have di : ∀ q ∈ iT ++ news, q.length = ti.size := by
  intro q hq
  rcases List.mem_append.1 hq with hq | hq
  ·exact hoz q hq
  ·exact hnz q hq
 have key : ∀ (v' : Value) (w' : World) (e1 : TypeId) (ys : List Value), (Builtin.append_ #[t, t] o.type #[a.eval x, a.eval y]).run P w = .ok v' w' -> w'.ownsRow 0 e1 ti.size v' (iT.length + news.length) (xs ++ ys) ->
   Z6 (Rd (Tof T0 X) w) ys news.flatten -> w.grownBy w' (blk (a.eval x)) -> (∀ b, blk v' = some b -> (w.heap.size <= b /\ b < w'.heap.size) \/ blk (a.eval x) = some b) -> o.wp P a w K Q := by
  intro v' w' e1 ys iw hD cz gf dD
  have ij := St.yx fP
  have hT : ∀ b k v, Tof T0 X b k -> w.cell? ⟨b, k, none⟩ = some v -> w'.cell? ⟨b, k, none⟩ = some v /\ Tof T0 X b k := by
   intro b k v hb ib
   refine ⟨?_, hb⟩
   have iU : some b ≠ blk (a.eval x) := by
    intro e
    have h1 := ga b e.symm
    rcases hb with hb | hb
    ·exact h1.1 (r.hT b k hb)
    ·exact h1.2.1 hb
   rw [World.cell?_of_block (gf.block b (r.Tlt hb) iU)]; exact ib
  unfold Oper.wp
  have eF : (execOp a.eval o).run P w = .ok (.value v') w' := by
   simp only [execOp, iS, resolve, invoke, builtin, Sem.run_bind, Sem.run_pure, Result.andThen_ok, List.map_toArray, List.map_cons, List.map_nil, iw]
  rw [eF, Oper.upon_value, hd]
  refine hK _ _ ⟨X, fun u j => if u = d then Hd.of v' else h u j, ?_⟩ ⟨gf.os, gf.tape, gf.output, gf.size, fun k hk => gf.block k (r.hB k hk) (fun e => (ga k e.symm).1 hk)⟩
  have gl : (σ1.new d (.one (.sref d 0 0 (iT.length + news.length))) [.arr false ti.size (iT ++ news)]).ob d 0 = .arr false ti.size (iT ++ news) := by rw [St.zF]; simp [ij, Yp]
  have g7 : w'.ownsRow 0 e1 ti.size v' (iT ++ news).length (xs ++ ys) := by rw [List.length_append]; exact hD
  have dL : Z6 (Rd (Tof T0 X) w') (xs ++ ys) (iT ++ news).flatten := by
   rw [List.flatten_append]
   exact (bA.imp fun _ _ => Rd.mono hT).append (cz.imp fun _ _ => Rd.mono hT)
  refine r1.rU fP (fun b => blk (a.eval x) = some b) gf.size (fun k hk iU => gf.block k hk (fun e => iU e.symm)) (fun b hb => ⟨(ga b hb).1, (ga b hb).2.1, fun u j _ iU => (ga b hb).2.2.2 u j iU⟩) (fun _ hb => hb) (fun _ hb => .inl hb) _ _ [.arr false ti.size (iT ++ news)] (fun _ => Hd.of v') ?_ (fun j => ?_) (fun j b _ hb => hb) (fun j b iU ig => ?_) (fun j j' b iU hZ _ _ => ?_)
  ·refine ⟨Kj hD, fun q' hJ iW hh => ?_, fun hJ iW hh => by rw [gl] at hh; cases hh⟩
   rw [gl] at hh; cases hh
   simp only [if_true, List.length_append]
   have := Ue g7
   rwa [List.length_append] at this
  ·cases j with
   | zero => exact ⟨e1, xs ++ ys, g7, di, dL⟩
   | succ j => simp [Yp, zV]
  ·rcases dD b ig with h1 | h1
   ·exact ⟨.inl h1.1, fun hx => by have := (r.hX b hx).2; omega, h1.2⟩
   ·have h2 := ga b h1
    exact ⟨.inr h1, h2.2.1, by have := gf.size; omega⟩
  ·have : ∀ j, Yp [Ob.arr false ti.size (iT ++ news)] j ≠ .none -> j = 0 := by
    intro j hj
    cases j with
    | zero => rfl
    | succ j => simp [Yp] at hj
   rw [this j iU, this j' hZ]
 rcases gn with ⟨bD, rfl⟩ | ⟨ad, c, ys, bD, ib, cz⟩
 ·have gM : ∃ base cap, a.eval x = .slice base iT.length cap /\ iT.length <= cap /\ (base = none -> cap = 0) := by
   rcases iX.2 with ⟨h1, h2⟩ | ⟨g, cap, cur, h1, _, _, fC, _⟩
   ·exact ⟨none, 0, by rw [h1, h2], by omega, fun _ => rfl⟩
   ·exact ⟨_, cap, h1, fC, (fun hh => by cases hh)⟩
  obtain ⟨base, cap, hex, fC, bj⟩ := gM
  refine key (a.eval x) w e0 [] ?_ (by simpa using iX) .nil ⟨rfl, rfl, rfl, Nat.le_refl _, fun _ _ _ => rfl⟩ (fun b hb => .inr hb)
  rw [hex, bD]
  exact yi t o.type _ ti hu hi base iT.length cap fC bj
 ·have fY : ys.length = news.length * ti.size := by rw [cz.length, YQ news ti.size hnz]
  obtain ⟨v', w', e1, iw, hD, gf, dD⟩ := j6 (P := P) (w := w) t o.type _ e0 ti z hu hi ei dC (by omega) (a.eval x) iT.length xs iX ad news.length c ys fY ib
   (fun u gv => by
    obtain ⟨k, hk⟩ := List.mem_iff_getElem?.1 gv
    obtain ⟨d', _, gL⟩ := cz.get k u hk
    exact Rd.X4 gL) (by simp only [maxLen]; omega) gW
  refine key v' w' e1 ys ?_ hD cz gf dD
  rw [bD]; exact iw
end
end Go.Vm
namespace Go.Vm
open Go.RowKit
section
variable {P : Program} {T0 : CS} {B : Nat -> Prop} {σ : St} {a : Act} {w w' : World} {X X' : Nat -> Prop} {h : Nat -> Nat -> Hd}
def FZ (P : Program) (σ : St) (T : TypeId) (size : Nat) : List (Nat × Operand) -> Nat -> List (List D) -> Prop
 | [], _, rs => rs = []
 | (i, x) :: ps, k, rs => i = k /\ gOf (look P σ T x) = true /\ (unc (look P σ T x)).flat = true /\ zO (unc (look P σ T x)).cells = true /\
   ∃ r rest, rowOf σ (unc (look P σ T x)).cells = some r /\ r.length = size /\ FZ P σ T size ps (k + 1) rest /\ rs = r :: rest
theorem Ll {α : Type} (l : List α) (o : Nat) (xs ys : List α) (hl : o + (xs ++ ys).length <= l.length) : place (place l o xs) (o + xs.length) ys = place l o (xs ++ ys) := by
 simp only [List.length_append] at hl
 unfold place
 have h1 : (l.take o ++ xs).length = o + xs.length := by simp; omega
 have h2 : (l.take o ++ xs ++ l.drop (o + xs.length)).take (o + xs.length) = l.take o ++ xs := by
  rw [List.take_append_of_le_length (by omega), List.take_of_length_le (by omega)]
 have h3 : (l.take o ++ xs ++ l.drop (o + xs.length)).drop (o + xs.length + ys.length) = l.drop (o + (xs ++ ys).length) := by
  rw [show o + xs.length + ys.length = (l.take o ++ xs).length + ys.length by omega, List.drop_length_add_append, List.drop_drop]
  congr 1; simp; omega
 rw [h2, h3]; simp
theorem Ct (r : Rel T0 B σ a w X h) (T : TypeId) (size : Nat) : ∀ (ps : List (Nat × Operand)) (k : Nat) (rs : List (List D)) (cells : Array Value), FZ P σ T size ps k rs -> (k + ps.length) * size <= cells.size ->
   ∃ im ys, Instr.fill (fun i => some (i * size, size)) cells (ps.map fun x => (x.1, a.eval x.2)) = some im /\ im.toList = place cells.toList (k * size) ys /\ Z6 (Rd (Tof T0 X) w) ys rs.flatten /\ (∀ q ∈ rs, q.length = size) /\ rs.length = ps.length
 | [], k, rs, cells, hb, _ => by cases hb; exact ⟨cells, [], rfl, by simp [place], .nil, (by intro q hq; cases hq), rfl⟩
 | (i, x) :: ps, k, rs, cells, hb, hl => by
  obtain ⟨rfl, hg, hf, hQ, r0, rest, eo, hlen, hb, rfl⟩ := hb
  have hx := WW hf (r.arg (P := P) T x rfl hg)
  have aR := r.rowOf true eo hx (fun _ => hQ)
  simp only [if_true] at aR
  have bk := aR.length
  have e1 : cells.toList.length = cells.size := Array.length_toList
  have e2 : (a.eval x).cells.toList.length = (a.eval x).cells.size := Array.length_toList
  have hmul : (i + (ps.length + 1)) * size = i * size + size + ps.length * size := by rw [Nat.add_mul, Nat.add_mul]; omega
  simp only [List.length_cons] at hl
  have heq := SR (i * size) (a.eval x).cells cells (by omega)
  have eD : ((a.eval x).cells.zipIdx.foldl (fun cs x => cs.setIfInBounds (i * size + x.2) x.1) cells).size = cells.size := by
   rw [<- Array.length_toList, heq, XX _ _ _ (by omega), e1]
  have hmul2 : (i + 1 + ps.length) * size = i * size + size + ps.length * size := by rw [Nat.add_mul, Nat.add_mul]; omega
  obtain ⟨im, ys, h1, h2, h3, h4, h5⟩ := Ct r T size ps (i + 1) rest _ hb (by rw [eD]; omega)
  have fY : ys.length = ps.length * size := by rw [h3.length, YQ rest size h4, h5]
  refine ⟨im, (a.eval x).cells.toList ++ ys, ?_, ?_, ?_, ?_, by simp [h5]⟩
  ·simp only [List.map_cons, Instr.fill]
   rw [if_neg (by simp; omega)]
   exact h1
  ·rw [h2, heq]
   rw [show (i + 1) * size = i * size + (a.eval x).cells.toList.length by rw [Nat.add_mul]; omega]
   exact Ll _ _ _ _ (by simp; omega)
  ·rw [List.flatten_cons]; exact aR.append h3
  ·intro q hq
   rcases List.mem_cons.1 hq with rfl | hq
   ·exact hlen
   ·exact h4 q hq
theorem LU (r : Rel T0 B σ a w X h) {o : Oper} {T : TypeId} {n : Nat} {parts : Array (Nat × Operand)} {d : Nat} {rows : List (List D)} (iS : o.op = .buildSlice T n parts) (hd : o.dst = some d) (fP : σ.fresh d = true)
  (ht : XK P T = true) (hz : QK P (ZQ P T) = true) (gk : 0 < P.cellsOf (ZQ P T)) (hn : parts.toList.length = n) (hsm : n * P.cellsOf (ZQ P T) <= 16777216) (hb : FZ P σ (ZQ P T) (P.cellsOf (ZQ P T)) parts.toList 0 rows)
  {K : Act -> World -> Prop} {Q : Exit -> Act -> World -> Prop} (hK : ∀ a' w', K6 T0 B (σ.new d (.one (.sref d 0 0 rows.length)) [.arr false (P.cellsOf (ZQ P T)) rows]) a' w' -> XB B w w' -> K a' w') : o.wp P a w K Q := by
 obtain ⟨ti, hu, hi, eC⟩ := QN ht
 obtain ⟨i, z, row, fH, ei, fQ, eD, dC, fE, fa⟩ := xU hz
 rw [hi] at fH; cases fH
 have ed : (zeroValue (ZQ P T)).run P w = .ok z w := by simp [zeroValue, typeInfo, hi, ei]
 obtain ⟨zero, hzero⟩ : ∃ zero : Array Value, (n * P.cellsOf (ZQ P T) = 0 -> zero = #[]) /\ (¬ n * P.cellsOf (ZQ P T) = 0 -> zero = z.cells) := by
  by_cases h0 : n * P.cellsOf (ZQ P T) = 0
  ·exact ⟨#[], fun _ => rfl, fun hh => absurd h0 hh⟩
  ·exact ⟨z.cells, fun hh => absurd hh h0, fun _ => rfl⟩
 obtain ⟨im, ys, h1, h2, h3, h4, h5⟩ := Ct r (ZQ P T) (P.cellsOf (ZQ P T)) parts.toList 0 rows ((Array.range (n * P.cellsOf (ZQ P T))).map (zero[· % zero.size]!)) hb (by simp [hn])
 have fY : ys.length = n * P.cellsOf (ZQ P T) := by rw [h3.length, YQ rows _ h4, h5, hn]
 have gP : im.toList = ys := by
  rw [h2]
  unfold place
  simp [fY]
 have dE : (parts.map fun (x : Nat × Operand) => (x.1, a.eval x.2)).toList = parts.toList.map fun x => (x.1, a.eval x.2) := by simp
 have iw : (execOp a.eval o).run P w = .ok (.value (.slice (some ⟨w.heap.size, 0, none⟩) n n)) (w.alloc (.cells im (ZQ P T))) := by
  have dk : ¬ (n * P.cellsOf (ZQ P T) > 2 ^ 24) := by omega
  by_cases h0 : n * P.cellsOf (ZQ P T) = 0
  ·have hz0 := hzero.1 h0
   subst hz0
   simp only [execOp, iS, Instr.buildSlice, Sem.run_bind, run_underlying hu, Result.andThen_ok, zC hi, if_neg dk, if_pos h0, dE, h1, newRow, Sem.run_pure, run_newObj_alloc]
  ·have hz0 := hzero.2 h0
   subst hz0
   simp only [execOp, iS, Instr.buildSlice, Sem.run_bind, run_underlying hu, Result.andThen_ok, zC hi, if_neg dk, if_neg h0, ed, dE, h1, newRow, Sem.run_pure, run_newObj_alloc]
 unfold Oper.wp
 rw [iw, Oper.upon_value, hd]
 have hlen : rows.length = n := by rw [h5, hn]
 have hT : ∀ b k v, Tof T0 X b k -> w.cell? ⟨b, k, none⟩ = some v -> (w.alloc (.cells im (ZQ P T))).cell? ⟨b, k, none⟩ = some v /\ Tof T0 X b k := by
  intro b k v hb ib
  refine ⟨?_, hb⟩
  rw [World.cell?_of_block ((World.grownBy_alloc w (.cells im (ZQ P T)) none).block b (r.Tlt hb) (by simp))]; exact ib
 have hsz' : im.size = n * P.cellsOf (ZQ P T) := by rw [<- Array.length_toList, gP, fY]
 have fU : n <= maxLen := by
  have : n <= n * P.cellsOf (ZQ P T) := Nat.le_mul_of_pos_right _ gk
  simp only [maxLen]; omega
 have := r.rQ fP (World.grownBy_alloc w (.cells im (ZQ P T)) none) (.slice (some ⟨w.heap.size, 0, none⟩) n n) (size := P.cellsOf (ZQ P T)) (rows := rows)
  ⟨ZQ P T, ys, ⟨by rw [fY, hlen], .inr ⟨w.heap.size, n, im, by rw [hlen], Nat.zero_le _, heap_alloc_new w _, by omega, fU, hsz', by rw [gP, hlen, List.take_of_length_le (by omega)]⟩⟩, h4, h3.imp fun _ _ => Rd.mono hT⟩
  (fun b hb => by simp [blk] at hb; subst hb; exact ⟨Nat.le_refl _, by simp⟩)
 exact hK _ _ this.1 this.2
def zD : List At -> Option (List D)
 | [] => some []
 | .d x :: xs => (zD xs).map (x :: ·)
 | .nil s :: xs => (zD xs).map (.sl s [] :: ·)
 | _ => none
theorem Bb {T : CS} {ob : Nat -> Nat -> Ob} : ∀ {xs : List At} {ds : List D} {vs : List Value}, zD xs = some ds -> Z6 (YI T h ob w) xs vs -> Z6 (Rd T w) vs ds
 | [], ds, vs, hz, iV => by cases iV; simp [zD] at hz; subst hz; exact .nil
 | x :: xs, ds, vs, hz, iV => by
  cases iV with
  | cons hx iV =>
   cases x with
   | d x =>
    simp only [zD, Option.map_eq_some_iff] at hz
    obtain ⟨fR, fW, rfl⟩ := hz
    exact .cons hx (Bb fW iV)
   | nil s =>
    simp only [zD, Option.map_eq_some_iff] at hz
    obtain ⟨fR, fW, rfl⟩ := hz
    cases hx
    exact .cons (.nil _) (Bb fW iV)
   | any => simp [zD] at hz
   | sref => simp [zD] at hz
   | ptr => simp [zD] at hz
   | bptr => simp [zD] at hz
   | fn => simp [zD] at hz
   | rptr => simp [zD] at hz
   | tref => simp [zD] at hz
theorem kR {α : Type} (z : List α) (n k : Nat) (hk : k < n * z.length) : (List.replicate n z).flatten[k]? = z[k % z.length]? := by
 induction n generalizing k with
 | zero => simp at hk
 | succ n ih =>
  rw [List.replicate_succ, List.flatten_cons]
  rcases Nat.lt_or_ge k z.length with ij | dX
  ·rw [List.getElem?_append_left ij, Nat.mod_eq_of_lt ij]
  ·rw [List.getElem?_append_right dX, ih (k - z.length) (by rw [Nat.add_mul] at hk; omega)]
   congr 1
   rw [Nat.mod_eq_sub_mod dX]
theorem IM (r : Rel T0 B σ a w X h) {o : Oper} {T : TypeId} {x : Operand} {d : Nat} {k : IntKind} {n : Nat} {z : List At} {zr : List D} (iS : o.op = .makeSlice T x x) (hd : o.dst = some d) (fP : σ.fresh d = true)
  (ht : XK P T = true) (hz : QK P (ZQ P T) = true) (fQ : kQ P 12 (ZQ P T) = some z) (hzd : zD z = some zr) (gk : 0 < P.cellsOf (ZQ P T)) (hx : UI P σ x k (n : Int)) (cy : P.bytesOf (ZQ P T) * n <= 281474976710656) (cx : n <= 9223372036854775807)
  {K : Act -> World -> Prop} {Q : Exit -> Act -> World -> Prop} (hK : ∀ a' w', K6 T0 B (σ.new d (.one (.sref d 0 0 n)) [.arr false (P.cellsOf (ZQ P T)) (List.replicate n zr)]) a' w' -> XB B w w' -> K a' w') : o.wp P a w K Q := by
 obtain ⟨ti, hu, hi, eC⟩ := QN ht
 obtain ⟨i, zv, row, fH, ei, bB, eD, dC, fE, fa⟩ := xU hz
 rw [hi] at fH; cases fH
 rw [fQ] at bB; cases bB
 have hex := xd r hx
 have hby' : (ti.bytes : Int) * (n : Int) <= 281474976710656 := by
  have : P.bytesOf (ZQ P T) = ti.bytes := by simp [Program.bytesOf, hi]
  rw [this] at cy
  have h : ((ti.bytes * n : Nat) : Int) <= 281474976710656 := by omega
  rwa [Int.natCast_mul] at h
 have iw := run_make (P := P) w T (ZQ P T) ti zv hu hi ei k k n n (by omega) (Int.le_refl _) hby' (by omega)
 simp only [Int.toNat_natCast] at iw
 unfold Oper.wp
 simp only [execOp, iS, hex, Sem.run_bind, iw, Result.andThen_ok, Sem.run_pure, Oper.upon_value, hd]
 have aA := Bb hzd (fa (Tof T0 X) h σ.ob w)
 have hzl := aA.length
 have e1 : zv.cells.toList.length = zv.cells.size := Array.length_toList
 have dm : zr.length = ti.size := by omega
 have hT : ∀ b k v, Tof T0 X b k -> w.cell? ⟨b, k, none⟩ = some v -> (w.alloc (.cells (madeCells zv.cells (n * ti.size)) (ZQ P T))).cell? ⟨b, k, none⟩ = some v /\ Tof T0 X b k := by
  intro b k v hb ib
  refine ⟨?_, hb⟩
  rw [World.cell?_of_block ((World.grownBy_alloc w (.cells (madeCells zv.cells (n * ti.size)) (ZQ P T)) none).block b (r.Tlt hb) (by simp))]; exact ib
 have eH : (madeCells zv.cells (n * ti.size)).toList.length = n * ti.size := by rw [Array.length_toList, size_madeCells]
 have bF : ∀ q u, (madeCells zv.cells (n * ti.size)).toList[q]? = some u -> zv.cells.toList[q % ti.size]? = some u := by
  intro q u hq
  have ij : q < n * ti.size := by have := (List.getElem?_eq_some_iff.1 hq).1; omega
  have hmod : q % ti.size < zv.cells.size := by rw [dC]; exact Nat.mod_lt _ (by omega)
  have : (madeCells zv.cells (n * ti.size)).toList[q]? = some (zv.cells[q % zv.cells.size]!) := by
   simp [madeCells, ij]
  rw [this] at hq
  cases hq
  rw [dC]
  simp [hmod]
 have dL : Z6 (Rd (Tof T0 X) w) (madeCells zv.cells (n * ti.size)).toList (List.replicate n zr).flatten := by
  refine Z6.kA (by rw [eH, YQ _ ti.size (by intro q hq; rw [List.eq_of_mem_replicate hq]; exact dm)]; simp) (fun q u dd hq fB => ?_)
  have ij : q < n * ti.size := by have := (List.getElem?_eq_some_iff.1 hq).1; omega
  rw [kR zr n q (by rw [dm]; exact ij), dm] at fB
  obtain ⟨d', ir, gL⟩ := aA.get _ _ (bF q u hq)
  rw [fB] at ir; cases ir
  exact gL
 have := r.rQ fP (World.grownBy_alloc w (.cells (madeCells zv.cells (n * ti.size)) (ZQ P T)) none) (.slice (some ⟨w.heap.size, 0, none⟩) n n) (size := P.cellsOf (ZQ P T)) (rows := List.replicate n zr)
  ⟨ZQ P T, (madeCells zv.cells (n * ti.size)).toList, ⟨by rw [eH, fE]; simp, .inr ⟨w.heap.size, n, _, by simp, Nat.zero_le _, heap_alloc_new w _, by simp, by simp only [maxLen]; omega, by rw [size_madeCells, fE], by rw [List.take_of_length_le (by rw [eH, fE]; simp)]⟩⟩,
   (by intro q hq; rw [List.eq_of_mem_replicate hq]; omega), dL.imp fun _ _ => Rd.mono hT⟩
  (fun b hb => by simp [blk] at hb; subst hb; exact ⟨Nat.le_refl _, by simp⟩)
 rw [List.length_replicate] at this
 exact hK _ _ this.1 this.2
end
end Go.Vm
namespace Go.Vm
open Go.RowKit
def Ka (l : List UInt8) : List (List D) := l.map fun b => [D.int .u8 (b.toNat : Int)]
def Pe (P : Program) (t : TypeId) : Bool := match P.underlying t with
 | some (.slice e) => (match P.underlying e with | some (.int .u8) => true | _ => false)
 | _ => false
theorem L1 {P : Program} {t : TypeId} (ht : Pe P t = true) : ∃ e, P.underlying t = some (.slice e) /\ P.underlying e = some (.int .u8) := by
 unfold Pe at ht
 split at ht
 ·rename_i e he
  split at ht
  ·rename_i h2; exact ⟨e, he, h2⟩
  ·cases ht
 ·cases ht
theorem Tb (l : List UInt8) : (Ka l).flatten = l.map fun b => D.int .u8 (b.toNat : Int) := by
 induction l with
 | nil => rfl
 | cons b l ih => simp only [Ka, List.map_cons, List.flatten_cons] at ih ⊢; rw [ih]; rfl
section
variable {P : Program} {T0 : CS} {B : Nat -> Prop} {σ : St} {a : Act} {w w' : World} {X X' : Nat -> Prop} {h : Nat -> Nat -> Hd}
theorem OB (r : Rel T0 B σ a w X h) {o : Oper} {S T : TypeId} {x : Operand} {l : List UInt8} (iS : o.op = .convert S T x) (hg : gOf (look P σ S x) = true) (hS : Pe P S = true) (hT : U0 P T = true)
  (eY : qJ σ (unc (look P σ S x)) 1 (Ka l)) : ∃ val, (execOp a.eval o).run P w = .ok (.value val) w /\ JN (Tof T0 X) h σ.ob w (.one (.d (.str ⟨l.toArray⟩))) val := by
 obtain ⟨e, hs, he⟩ := L1 hS
 have hv := r.arg (P := P) S x rfl hg
 obtain ⟨_, gn⟩ := Cf r eY hv
 refine ⟨.string ⟨l.toArray⟩, ?_, .str _⟩
 rcases gn with ⟨hex, eU⟩ | ⟨ad, c, xs, hex, ib, iV⟩
 ·have hl : l = [] := by cases l with
   | nil => rfl
   | cons b l => simp [Ka] at eU
  subst hl
  have hr : (convert S T (.slice none 0 0)).run P w = .ok (.string ⟨#[]⟩) w := by
   rw [run_convert_bytes_string w S T e none 0 0 hs he (jJ hT)]
   rfl
  simp only [execOp, iS, hex, Sem.run_bind, hr, Result.andThen_ok, Sem.run_pure, List.toArray]
 ·have hlen : (Ka l).length = l.length := by simp [Ka]
  rw [hlen] at hex
  have hr := run_convert_bytes_back (P := P) w S T e ad c l hs he (jJ hT) (fun j hj => by
   rw [Tb] at iV
   obtain ⟨u, hu, hr⟩ := iV.get' j (D.int .u8 (l[j].toNat : Int)) (by simp [hj])
   have := SJ hr
   subst this
   exact ib j _ hu)
  simp only [execOp, iS, hex, Sem.run_bind, hr, Result.andThen_ok, Sem.run_pure]
theorem P9 (r : Rel T0 B σ a w X h) {o : Oper} {S T : TypeId} {x : Operand} {d : Nat} {s : ByteArray} (iS : o.op = .convert S T x) (hd : o.dst = some d) (hg : gOf (look P σ S x) = true) (hS : U0 P S = true) (hT : Pe P T = true)
  (hx : unc (look P σ S x) = .one (.d (.str s))) (gX : s.size <= 9223372036854775807)
  {K : Act -> World -> Prop} {Q : Exit -> Act -> World -> Prop} (hK : ∀ a' w', K6 T0 B (σ.put d (.one (.d (.sl 1 (Ka s.data.toList))))) a' w' -> XB B w w' -> K a' w') : o.wp P a w K Q := by
 obtain ⟨e, fB, he⟩ := L1 hT
 have hex := R2 (r.arg (P := P) S x hx hg)
 have iw := run_bytes_of_string (P := P) w S T e s (jJ hS) fB he
 unfold Oper.wp
 simp only [execOp, iS, hex, Sem.run_bind, iw, Result.andThen_ok, Sem.run_pure, Oper.upon_value, hd]
 generalize gy : grownCap w s.size 0 e = cap at *
 have dX : s.size <= cap := by rw [<- gy]; exact grownCap_ge w s.size 0 e
 have fU : cap <= maxLen := by rw [<- gy]; exact grownCap_le_maxLen w s.size 0 e (by simp only [maxLen]; omega)
 generalize hw' : w.drew.alloc (.cells (bytesRow s cap) e ((bytesRow s cap).size, (bytesRow s cap).size + 1)) = w'
 have aT : w.grownBy w' none := by
  rw [<- hw']
  exact ⟨rfl, rfl, rfl, by simp, fun k hk _ => (World.grownBy_alloc w.drew _ none).block k hk (by simp)⟩
 have dH : w'.heap[w.heap.size]? = some (.cells (bytesRow s cap) e ((bytesRow s cap).size, (bytesRow s cap).size + 1)) := by rw [<- hw']; exact heap_alloc_new w.drew _
 have hsize : w.heap.size < w'.heap.size := (Array.getElem?_eq_some_iff.1 dH).1
 have r2 := r.grow (X' := fun b => X b \/ b = w.heap.size) aT (fun b hb => .inl hb) (fun b hb => hb.imp id (fun hh => by subst hh; exact ⟨Nat.le_refl _, hsize⟩))
 refine hK _ _ ⟨_, _, r2.put d _ _ ?_⟩ (XB.Rg aT r.hB)
 have g5 := Tb s.data.toList
 refine Rd.sl ⟨w.heap.size, 0, none⟩ s.size cap 1 _ (fun k => .int .u8 ((s.data.toList.getD k 0).toNat : Int)) (by simp [Ka]) dX fU (by intro q hq; simp [Ka] at hq; obtain ⟨b, _, rfl⟩ := hq; rfl) (fun _ => rfl) (fun k dd hk => ?_) (fun k dd hk => ?_)
 ·rw [g5, List.getElem?_map] at hk
  cases hb : s.data.toList[k]? with
  | none => rw [hb] at hk; cases hk
  | some b =>
   refine ⟨?_, .inr (.inr rfl)⟩
   simp only [Nat.zero_add]
   refine yG dH _ _ ?_
   have hklt : k < s.data.size := by have := (List.getElem?_eq_some_iff.1 hb).1; simpa using this
   simp only [bytesRow]
   rw [Array.toList_append, List.getElem?_append_left (by simpa using hklt)]
   simp [hb]
 ·rw [g5, List.getElem?_map] at hk
  cases hb : s.data.toList[k]? with
  | none => rw [hb] at hk; cases hk
  | some b =>
   rw [hb] at hk; cases hk
   rw [List.getD_eq_getElem?_getD, hb]
   exact .int _ _
end
end Go.Vm
namespace Go.Vm
open Go.RowKit
def Yh : List At -> List (Nat × Nat)
 | [] => []
 | .sref t j _ _ :: xs => (t, j) :: Yh xs
 | _ :: xs => Yh xs
def mvD (σ : St) : At -> Option D
 | .d (.sl _ _) => none
 | .d x => some x
 | .nil s => some (.sl s [])
 | .sref t j lo len => (match σ.ob t j with | .arr _ size rows => if lo = 0 /\ len = rows.length then some (.sl size rows) else none | _ => none)
 | _ => none
def HX (σ : St) : At -> Prop
 | .sref t j _ _ => (match σ.ob t j with | .arr false _ rows => ∀ r ∈ rows, ∀ x ∈ r, x.scalar = true | _ => True)
 | _ => True
def JF (σ : St) : List At -> Option (List D)
 | [] => some []
 | x :: xs => (match mvD σ x, JF σ xs with | some d, some ds => some (d :: ds) | _, _ => none)
def Qn (σ : St) : List At -> Prop
 | [] => True
 | x :: xs => HX σ x /\ Qn σ xs
def zz (σ : St) : List (List At) -> Option (List (List D))
 | [] => some []
 | xs :: rest => (match JF σ xs, zz σ rest with | some r, some rs => some (r :: rs) | _, _ => none)
def K8 (σ : St) : List (List At) -> Prop
 | [] => True
 | x :: xs => Qn σ x /\ K8 σ xs
theorem PX : ∀ (xs : List At) (i j : Nat) (t u lo len dv eZ : Nat), (Yh xs).Nodup -> xs[i]? = some (.sref t u lo len) -> xs[j]? = some (.sref t u dv eZ) -> i = j := by
 intro xs
 induction xs with
 | nil => intro i j t u lo len dv eZ _ hi; simp at hi
 | cons x xs ih =>
  intro i j t u lo len dv eZ gd hi hj
  have mem : ∀ (k lo len : Nat), xs[k]? = some (At.sref t u lo len) -> (t, u) ∈ Yh xs := by
   intro k lo len hk
   clear ih gd hi hj
   induction xs generalizing k with
   | nil => simp at hk
   | cons y ys bl =>
    cases k with
    | zero => simp at hk; subst hk; simp [Yh]
    | succ k =>
     have := bl k (by simpa using hk)
     cases y <;> simp [Yh, this]
  have nd' : (Yh xs).Nodup := by
   cases x <;> simp only [Yh] at gd <;> first | exact gd | exact (List.nodup_cons.1 gd).2
  cases i with
  | zero =>
   simp at hi; subst hi
   cases j with
   | zero => rfl
   | succ j =>
    simp only [Yh] at gd
    exact absurd (mem j dv eZ (by simpa using hj)) (List.nodup_cons.1 gd).1
  | succ i =>
   cases j with
   | zero =>
    simp at hj; subst hj
    simp only [Yh] at gd
    exact absurd (mem i lo len (by simpa using hi)) (List.nodup_cons.1 gd).1
   | succ j => rw [ih i j t u lo len dv eZ nd' (by simpa using hi) (by simpa using hj)]
theorem CF : ∀ {xs : List At} {k t j lo len : Nat}, xs[k]? = some (At.sref t j lo len) -> (t, j) ∈ Yh xs
 | [], k, t, j, lo, len, h => by simp at h
 | x :: xs, 0, t, j, lo, len, h => by simp at h; subst h; simp [Yh]
 | x :: xs, k + 1, t, j, lo, len, h => by
  have := CF (xs := xs) (k := k) (by simpa using h)
  cases x <;> simp [Yh, this]
theorem T6 {σ : St} : ∀ {xs : List At} {ds : List D}, JF σ xs = some ds -> xs.length = ds.length /\ ∀ (k : Nat) (x : At) (d : D), xs[k]? = some x -> ds[k]? = some d -> mvD σ x = some d
 | [], ds, h => by simp [JF] at h; subst h; exact ⟨rfl, fun k x d hx => by simp at hx⟩
 | x :: xs, ds, h => by
  simp only [JF] at h
  split at h
  ·rename_i d fR h1 h2
   cases h
   obtain ⟨hl, ih⟩ := T6 h2
   refine ⟨by simp [hl], fun k y e hy he => ?_⟩
   cases k with
   | zero => simp at hy he; subst hy; subst he; exact h1
   | succ k => exact ih k y e (by simpa using hy) (by simpa using he)
  ·cases h
theorem ML {σ : St} : ∀ {xs ys : List At} {ds es : List D}, JF σ xs = some ds -> JF σ ys = some es -> JF σ (xs ++ ys) = some (ds ++ es)
 | [], ys, ds, es, h1, h2 => by simp [JF] at h1; subst h1; simpa using h2
 | x :: xs, ys, ds, es, h1, h2 => by
  simp only [JF] at h1
  split at h1
  ·rename_i d fR h3 h4
   cases h1
   simp [JF, h3, ML h4 h2]
  ·cases h1
theorem UW {σ : St} : ∀ {gz : List (List At)} {rs : List (List D)}, zz σ gz = some rs -> JF σ gz.flatten = some rs.flatten /\ gz.length = rs.length /\ ∀ n, (∀ x ∈ gz, x.length = n) -> ∀ r ∈ rs, r.length = n
 | [], rs, h => by simp [zz] at h; subst h; exact ⟨rfl, rfl, fun n _ r hr => by cases hr⟩
 | xs :: gz, rs, h => by
  simp only [zz] at h
  split at h
  ·rename_i r rs' h1 h2
   cases h
   obtain ⟨i1, i2, i3⟩ := UW h2
   refine ⟨by rw [List.flatten_cons, List.flatten_cons]; exact ML h1 i1, by simp [i2], fun n hn q hq => ?_⟩
   rcases List.mem_cons.1 hq with rfl | hq
   ·rw [<- (T6 h1).1]; exact hn xs (by simp)
   ·exact i3 n (fun x hx => hn x (by simp [hx])) q hq
  ·cases h
theorem Lp {σ : St} : ∀ {xs : List At}, Qn σ xs -> ∀ (k : Nat) (x : At), xs[k]? = some x -> HX σ x
 | [], _, k, x, hx => by simp at hx
 | y :: xs, h, 0, x, hx => by simp at hx; subst hx; exact h.1
 | y :: xs, h, k + 1, x, hx => Lp h.2 k x (by simpa using hx)
theorem Rq {σ : St} : ∀ {xs ys : List At}, Qn σ xs -> Qn σ ys -> Qn σ (xs ++ ys)
 | [], _, _, h => h
 | _ :: _, _, h1, h2 => ⟨h1.1, Rq h1.2 h2⟩
theorem WD {σ : St} : ∀ {gz : List (List At)}, K8 σ gz -> Qn σ gz.flatten
 | [], _ => trivial
 | xs :: gz, h => by rw [List.flatten_cons]; exact Rq h.1 (WD h.2)
section
variable {P : Program} {T0 : CS} {B : Nat -> Prop} {σ : St} {a : Act} {w w' : World} {X X' : Nat -> Prop} {h : Nat -> Nat -> Hd}
theorem Rd.own {T : CS} {v : Value} {d : D} {S : Nat -> Prop} (hs : d.scalar = true) (hr : Rd T w v d) : Own w v d S := by
 cases hr with
 | int k n => exact .int _ _ _
 | bool b => exact .bool _ _
 | str s => exact .str _ _
 | unk v h => exact .unk _ h _
 | nil => cases hs
 | sl => cases hs
theorem Rel.mU (r : Rel T0 B σ a w X h) {t j : Nat} {q : Bool} {size : Nat} {rows : List (List D)} (ho : σ.ob t j = .arr q size rows) (hq : q = false -> ∀ r ∈ rows, ∀ x ∈ r, x.scalar = true) : Own w (h t j).v (.sl size rows) (h t j).u := by
 have h0 := r.obj t j
 have fO := r.ub t j
 rw [ho] at h0 fO
 cases q with
 | false =>
  obtain ⟨e, xs, fV, hz, iV⟩ := h0
  refine .sl _ size rows _ e xs (fun _ _ => False) fV hz (fun b hb => fO b (by simp) hb) iV.length (fun k x d hx hd => ?_) (fun k b hb => hb.elim) (fun i j b hb => hb.elim)
  obtain ⟨d', ir, hr⟩ := iV.get k x hx
  rw [hd] at ir; cases ir
  obtain ⟨r0, eo, hdr⟩ := List.mem_flatten.1 (List.mem_of_getElem? hd)
  exact Rd.own (hq rfl r0 eo d hdr) hr
 | true =>
  obtain ⟨e, xs, fV, hz, ⟨hl, Sk, h1, h2, h3⟩, hn⟩ := h0
  exact .sl _ size rows _ e xs Sk fV hz (fun b hb => fO b (by simp) hb) hl h1 (fun k b hb => h2 k b hb) h3
def JM (σ : St) (h : Nat -> Nat -> Hd) (l : List (Nat × Nat)) (b : Nat) : Prop := ∃ p ∈ l, σ.ob p.1 p.2 ≠ .none /\ (h p.1 p.2).u b
theorem O6 (r : Rel T0 B σ a w X h) {xs : List At} {vs : List Value} {ds : List D} (iV : Z6 (YI (Tof T0 X) h σ.ob w) xs vs) (fp : JF σ xs = some ds) (hR : Qn σ xs) (gd : (Yh xs).Nodup) : Jx w vs ds (JM σ h (Yh xs)) := by
 obtain ⟨hl, fp⟩ := T6 fp
 refine ⟨by rw [<- iV.length, hl], fun k b => ∃ t j lo len, xs[k]? = some (.sref t j lo len) /\ σ.ob t j ≠ .none /\ (h t j).u b, fun k v d hv hd => ?_, ?_, ?_⟩
 ·obtain ⟨x, hx, hr⟩ := iV.get' k v hv
  have hm := fp k x d hx hd
  have ho := Lp hR k x hx
  cases x with
  | d x =>
   cases x with
   | sl s rows => simp [mvD] at hm
   | int k n => simp [mvD] at hm; subst hm; exact Rd.own rfl hr
   | bool b => simp [mvD] at hm; subst hm; exact Rd.own rfl hr
   | str s => simp [mvD] at hm; subst hm; exact Rd.own rfl hr
   | unk => simp [mvD] at hm; subst hm; exact Rd.own rfl hr
  | nil s =>
   simp [mvD] at hm; subst hm
   cases hr
   exact .sl _ s [] _ 0 [] (fun _ _ => False) (World.ownsRow_nil w 0 0 s) (by intro q hq; cases hq) (fun b hb => by cases hb) rfl (fun k x d hx => by simp at hx) (fun k b hb => hb.elim) (fun i j b hb => hb.elim)
  | sref t j lo len =>
   simp only [mvD] at hm
   split at hm
   ·rename_i q size rows hH
    split at hm
    ·rename_i hc
     obtain ⟨rfl, rfl⟩ := hc
     cases hm
     obtain ⟨_, gp, _⟩ := hr.2.1 q size rows hH
     rw [gp rfl rfl]
     refine (r.mU hH (fun hq => ?_)).mono (fun b hb => ⟨t, j, 0, rows.length, hx, by rw [hH]; simp, hb⟩)
     subst hq
     simp only [HX, hH] at ho; exact ho
    ·cases hm
   ·cases hm
  | any => simp [mvD] at hm
  | ptr => simp [mvD] at hm
  | bptr => simp [mvD] at hm
  | fn => simp [mvD] at hm
  | rptr => simp [mvD] at hm
  | tref => simp [mvD] at hm
 ·rintro k b ⟨t, j, lo, len, hx, iU, hu⟩
  exact ⟨(t, j), CF hx, iU, hu⟩
 ·rintro i k b ⟨t, j, lo, len, hx, iU, hu⟩ ⟨t', j', dv, eZ, eh, hZ, gv⟩
  obtain ⟨rfl, rfl⟩ := r.inj t j t' j' b iU hZ hu gv
  exact PX xs i k t j lo len dv eZ gd hx eh
theorem Jx.append {xs ys : List Value} {ds es : List D} {S S' : Nat -> Prop} (h1 : Jx w xs ds S) (h2 : Jx w ys es S') (hd : ∀ b, S b -> S' b -> False) : Jx w (xs ++ ys) (ds ++ es) (fun b => S b \/ S' b) := by
 obtain ⟨l1, Sk, a1, a2, a3⟩ := h1
 obtain ⟨l2, ba, b1, b2, b3⟩ := h2
 refine ⟨by simp [l1, l2], fun k => if k < xs.length then Sk k else ba (k - xs.length), fun k x d hx ir => ?_, fun k b hb => ?_, fun i j b hi hj => ?_⟩
 ·by_cases hk : k < xs.length
  ·simp only [hk, if_true]
   rw [List.getElem?_append_left hk] at hx
   rw [List.getElem?_append_left (by omega)] at ir
   exact a1 k x d hx ir
  ·simp only [hk, if_false]
   rw [List.getElem?_append_right (by omega)] at hx
   rw [List.getElem?_append_right (by omega), <- l1] at ir
   exact b1 _ x d hx ir
 ·by_cases hk : k < xs.length
  ·simp only [hk, if_true] at hb; exact .inl (a2 k b hb)
  ·simp only [hk, if_false] at hb; exact .inr (b2 _ b hb)
 ·by_cases fH : i < xs.length
  ·simp only [fH, if_true] at hi
   by_cases eT : j < xs.length
   ·simp only [eT, if_true] at hj; exact a3 i j b hi hj
   ·simp only [eT, if_false] at hj; exact (hd b (a2 i b hi) (b2 _ b hj)).elim
  ·simp only [fH, if_false] at hi
   by_cases eT : j < xs.length
   ·simp only [eT, if_true] at hj; exact (hd b (a2 j b hj) (b2 _ b hi)).elim
   ·simp only [eT, if_false] at hj
    have := b3 _ _ b hi hj; omega
theorem Jx.mono {xs : List Value} {ds : List D} {S S' : Nat -> Prop} (hS : ∀ b, S b -> S' b) (h1 : Jx w xs ds S) : Jx w xs ds S' := by
 obtain ⟨l1, Sk, a1, a2, a3⟩ := h1
 exact ⟨l1, Sk, a1, fun k b hb => hS b (a2 k b hb), a3⟩
theorem Jx.nil (S : Nat -> Prop) : Jx w [] [] S := ⟨rfl, fun _ _ => False, fun k x d hx => by simp at hx, fun _ _ hb => hb.elim, fun _ _ _ hb => hb.elim⟩
theorem Rel.yl (r : Rel T0 B σ a w X h) (l : List (Nat × Nat)) (b : Nat) (hb : JM σ h l b) : ¬ B b /\ ¬ X b /\ b < w.heap.size /\ ∀ u i, (σ.Zt l).ob u i ≠ .none -> ¬ (h u i).u b := by
 obtain ⟨p, hp, iU, hu⟩ := hb
 have ho := r.own p.1 p.2 b iU hu
 refine ⟨ho.1, ho.2.1, ho.2.2, fun u i hn gv => ?_⟩
 rw [St.zA] at hn
 split at hn
 ·exact hn rfl
 ·rename_i au
  obtain ⟨h1, h2⟩ := r.inj p.1 p.2 u i b iU hn hu gv
  exact au (by rw [<- h1, <- h2]; exact hp)
end
end Go.Vm
namespace Go.Vm
open Go.RowKit
section
variable {P : Program} {T0 : CS} {B : Nat -> Prop} {σ : St} {a : Act} {w w' : World} {X X' : Nat -> Prop} {h : Nat -> Nat -> Hd}
def Ns (P : Program) (σ : St) (T : TypeId) (size : Nat) : List (Nat × Operand) -> Nat -> List (List At) -> Prop
 | [], _, rs => rs = []
 | (i, x) :: ps, k, rs => i = k /\ gOf (look P σ T x) = true /\ (unc (look P σ T x)).flat = true /\ (unc (look P σ T x)).cells.length = size /\
   ∃ rest, Ns P σ T size ps (k + 1) rest /\ rs = (unc (look P σ T x)).cells :: rest
theorem vM (r : Rel T0 B σ a w X h) (T : TypeId) (size : Nat) : ∀ (ps : List (Nat × Operand)) (k : Nat) (rs : List (List At)) (cells : Array Value), Ns P σ T size ps k rs -> (k + ps.length) * size <= cells.size ->
   ∃ im ys, Instr.fill (fun i => some (i * size, size)) cells (ps.map fun x => (x.1, a.eval x.2)) = some im /\ im.toList = place cells.toList (k * size) ys /\ Z6 (YI (Tof T0 X) h σ.ob w) rs.flatten ys /\ (∀ q ∈ rs, q.length = size) /\ rs.length = ps.length
 | [], k, rs, cells, hb, _ => by cases hb; exact ⟨cells, [], rfl, by simp [place], .nil, (by intro q hq; cases hq), rfl⟩
 | (i, x) :: ps, k, rs, cells, hb, hl => by
  obtain ⟨rfl, hg, hf, hlen, rest, hb, rfl⟩ := hb
  have hx := WW hf (r.arg (P := P) T x rfl hg)
  have bk := hx.length
  have e1 : cells.toList.length = cells.size := Array.length_toList
  have e2 : (a.eval x).cells.toList.length = (a.eval x).cells.size := Array.length_toList
  have hmul : (i + (ps.length + 1)) * size = i * size + size + ps.length * size := by rw [Nat.add_mul, Nat.add_mul]; omega
  simp only [List.length_cons] at hl
  have heq := SR (i * size) (a.eval x).cells cells (by omega)
  have eD : ((a.eval x).cells.zipIdx.foldl (fun cs x => cs.setIfInBounds (i * size + x.2) x.1) cells).size = cells.size := by
   rw [<- Array.length_toList, heq, XX _ _ _ (by omega), e1]
  have hmul2 : (i + 1 + ps.length) * size = i * size + size + ps.length * size := by rw [Nat.add_mul, Nat.add_mul]; omega
  obtain ⟨im, ys, h1, h2, h3, h4, h5⟩ := vM r T size ps (i + 1) rest _ hb (by rw [eD]; omega)
  have fY : ys.length = ps.length * size := by rw [<- h3.length, YQ rest size h4, h5]
  refine ⟨im, (a.eval x).cells.toList ++ ys, ?_, ?_, ?_, ?_, by simp [h5]⟩
  ·simp only [List.map_cons, Instr.fill]
   rw [if_neg (by simp; omega)]
   exact h1
  ·rw [h2, heq]
   rw [show (i + 1) * size = i * size + (a.eval x).cells.toList.length by rw [Nat.add_mul]; omega]
   exact Ll _ _ _ _ (by simp; omega)
  ·rw [List.flatten_cons]; exact hx.append h3
  ·intro q hq
   rcases List.mem_cons.1 hq with rfl | hq
   ·exact hlen
   ·exact h4 q hq
theorem R5 (r : Rel T0 B σ a w X h) {o : Oper} {T : TypeId} {n : Nat} {parts : Array (Nat × Operand)} {d : Nat} {rows : List (List At)} (iS : o.op = .buildSlice T n parts) (hd : o.dst = some d) (fP : σ.fresh d = true)
  (ht : XK P T = true) (hz : QK P (ZQ P T) = true) (gk : 0 < P.cellsOf (ZQ P T)) (hn : parts.toList.length = n) (hsm : n * P.cellsOf (ZQ P T) <= 16777216) (hb : Ns P σ (ZQ P T) (P.cellsOf (ZQ P T)) parts.toList 0 rows) (hrf : YU d rows.flatten = false)
  {K : Act -> World -> Prop} {Q : Exit -> Act -> World -> Prop} (hK : ∀ a' w', K6 T0 B (σ.new d (.one (.sref d 0 0 rows.length)) [.lit (P.cellsOf (ZQ P T)) rows]) a' w' -> XB B w w' -> K a' w') : o.wp P a w K Q := by
 obtain ⟨ti, hu, hi, eC⟩ := QN ht
 obtain ⟨i, z, row, fH, ei, fQ, eD, dC, fE, fa⟩ := xU hz
 rw [hi] at fH; cases fH
 have ed : (zeroValue (ZQ P T)).run P w = .ok z w := by simp [zeroValue, typeInfo, hi, ei]
 obtain ⟨zero, hzero⟩ : ∃ zero : Array Value, (n * P.cellsOf (ZQ P T) = 0 -> zero = #[]) /\ (¬ n * P.cellsOf (ZQ P T) = 0 -> zero = z.cells) := by
  by_cases h0 : n * P.cellsOf (ZQ P T) = 0
  ·exact ⟨#[], fun _ => rfl, fun hh => absurd h0 hh⟩
  ·exact ⟨z.cells, fun hh => absurd hh h0, fun _ => rfl⟩
 obtain ⟨im, ys, h1, h2, h3, h4, h5⟩ := vM r (ZQ P T) (P.cellsOf (ZQ P T)) parts.toList 0 rows ((Array.range (n * P.cellsOf (ZQ P T))).map (zero[· % zero.size]!)) hb (by simp [hn])
 have fY : ys.length = n * P.cellsOf (ZQ P T) := by rw [<- h3.length, YQ rows _ h4, h5, hn]
 have gP : im.toList = ys := by
  rw [h2]
  unfold place
  simp [fY]
 have dE : (parts.map fun (x : Nat × Operand) => (x.1, a.eval x.2)).toList = parts.toList.map fun x => (x.1, a.eval x.2) := by simp
 have iw : (execOp a.eval o).run P w = .ok (.value (.slice (some ⟨w.heap.size, 0, none⟩) n n)) (w.alloc (.cells im (ZQ P T))) := by
  have dk : ¬ (n * P.cellsOf (ZQ P T) > 2 ^ 24) := by omega
  by_cases h0 : n * P.cellsOf (ZQ P T) = 0
  ·have hz0 := hzero.1 h0
   subst hz0
   simp only [execOp, iS, Instr.buildSlice, Sem.run_bind, run_underlying hu, Result.andThen_ok, zC hi, if_neg dk, if_pos h0, dE, h1, newRow, Sem.run_pure, run_newObj_alloc]
  ·have hz0 := hzero.2 h0
   subst hz0
   simp only [execOp, iS, Instr.buildSlice, Sem.run_bind, run_underlying hu, Result.andThen_ok, zC hi, if_neg dk, if_neg h0, ed, dE, h1, newRow, Sem.run_pure, run_newObj_alloc]
 unfold Oper.wp
 rw [iw, Oper.upon_value, hd]
 have hlen : rows.length = n := by rw [h5, hn]
 have hg := World.grownBy_alloc w (.cells im (ZQ P T)) none
 have ij := St.yx fP
 have hT : ∀ b k v, Tof T0 X b k -> w.cell? ⟨b, k, none⟩ = some v -> (w.alloc (.cells im (ZQ P T))).cell? ⟨b, k, none⟩ = some v /\ Tof T0 X b k := by
  intro b k v hb ib
  refine ⟨?_, hb⟩
  rw [World.cell?_of_block (hg.block b (r.Tlt hb) (by simp))]; exact ib
 have hsz' : im.size = n * P.cellsOf (ZQ P T) := by rw [<- Array.length_toList, gP, fY]
 have fU : n <= maxLen := by
  have : n <= n * P.cellsOf (ZQ P T) := Nat.le_mul_of_pos_right _ gk
  simp only [maxLen]; omega
 have iX : (w.alloc (.cells im (ZQ P T))).ownsRow 0 (ZQ P T) (P.cellsOf (ZQ P T)) (.slice (some ⟨w.heap.size, 0, none⟩) n n) rows.length ys :=
  ⟨by rw [fY, hlen], .inr ⟨w.heap.size, n, im, by rw [hlen], Nat.zero_le _, heap_alloc_new w _, by omega, fU, hsz', by rw [gP, hlen, List.take_of_length_le (by omega)]⟩⟩
 refine hK _ _ ⟨X, fun t j => if t = d then Hd.of (.slice (some ⟨w.heap.size, 0, none⟩) n n) else h t j, ?_⟩ (XB.Rg hg r.hB)
 have gl : (σ.new d (.one (.sref d 0 0 rows.length)) [.lit (P.cellsOf (ZQ P T)) rows]).ob d 0 = .lit (P.cellsOf (ZQ P T)) rows := by rw [St.zF]; simp [ij, Yp]
 have hc : ∀ t j, t ≠ d -> Cpt h (fun t j => if t = d then Hd.of (.slice (some ⟨w.heap.size, 0, none⟩) n n) else h t j) σ.ob (σ.new d (.one (.sref d 0 0 rows.length)) [.lit (P.cellsOf (ZQ P T)) rows]).ob t j := by
  intro t j iU
  have he : (σ.new d (.one (.sref d 0 0 rows.length)) [.lit (P.cellsOf (ZQ P T)) rows]).ob t j = σ.ob t j := by rw [St.zF, if_neg (fun hh => iU hh.1)]
  exact Cpt.same (by simp [iU]) he
 refine r.new fP hg (fun _ hb => hb) (fun _ hb => .inl hb) _ _ [.lit (P.cellsOf (ZQ P T)) rows] (fun _ => Hd.of (.slice (some ⟨w.heap.size, 0, none⟩) n n)) ?_ (fun j => ?_) (fun j b _ hb => hb) (fun j b _ ig => ?_) (fun j j' b iU hZ _ _ => ?_)
 ·refine ⟨Kj iX, fun q' hJ iW hD => (by rw [gl] at hD; cases hD), fun hJ iW hD => ?_⟩
  rw [gl] at hD; cases hD
  simp only [if_true]
  exact Ue iX
 ·cases j with
  | zero => exact ⟨ZQ P T, ys, iX, h4, VP hT hc hrf h3⟩
  | succ j => simp [Yp, zV]
 ·simp [Hd.of, blk] at ig; subst ig
  refine ⟨Nat.le_refl _, fun eh => ?_, by simp⟩
  have := (r.hX _ eh).2; omega
 ·have : ∀ j, Yp [Ob.lit (P.cellsOf (ZQ P T)) rows] j ≠ .none -> j = 0 := by
   intro j hj
   cases j with
   | zero => rfl
   | succ j => simp [Yp] at hj
  rw [this j iU, this j' hZ]
theorem uU {T : CS} {ob : Nat -> Nat -> Ob} : ∀ {xs : List At} {ds : List D} {vs : List Value}, zD xs = some ds -> Z6 (YI T h ob w) xs vs -> (∀ x ∈ xs, ∀ s r, x ≠ .d (.sl s r)) -> ∀ (w' : World) (S : Nat -> Prop) (k : Nat) (v : Value) (d : D), vs[k]? = some v -> ds[k]? = some d -> Own w' v d S
 | [], ds, vs, hz, iV, _, w', S, k, v, d, hv, _ => by cases iV; simp at hv
 | x :: xs, ds, vs, hz, iV, dW, w', S, k, v, d, hv, hd => by
  cases iV with
  | cons hx iV =>
   cases x with
   | d x =>
    simp only [zD, Option.map_eq_some_iff] at hz
    obtain ⟨fR, fW, rfl⟩ := hz
    cases k with
    | zero =>
     simp at hv hd; subst hv; subst hd
     cases x with
     | sl s r => exact absurd rfl (dW _ (by simp) s r)
     | int k n => cases (show Rd _ _ _ _ from hx); exact .int _ _ _
     | bool b => cases (show Rd _ _ _ _ from hx); exact .bool _ _
     | str s => cases (show Rd _ _ _ _ from hx); exact .str _ _
     | unk => exact .unk _ (Rd.X4 hx) _
    | succ k => exact uU fW iV (fun x hx => dW x (by simp [hx])) w' S k v d (by simpa using hv) (by simpa using hd)
   | nil s =>
    simp only [zD, Option.map_eq_some_iff] at hz
    obtain ⟨fR, fW, rfl⟩ := hz
    cases k with
    | zero =>
     simp at hv hd; subst hv; subst hd
     cases hx
     exact .sl _ s [] _ 0 [] (fun _ _ => False) (World.ownsRow_nil w' 0 0 s) (by intro q hq; cases hq) (fun b hb => by cases hb) rfl (fun k x d hx => by simp at hx) (fun k b hb => hb.elim) (fun i j b hb => hb.elim)
    | succ k => exact uU fW iV (fun x hx => dW x (by simp [hx])) w' S k v d (by simpa using hv) (by simpa using hd)
   | any => simp [zD] at hz
   | sref => simp [zD] at hz
   | ptr => simp [zD] at hz
   | bptr => simp [zD] at hz
   | fn => simp [zD] at hz
   | rptr => simp [zD] at hz
   | tref => simp [zD] at hz
def tn (σ : St) (x : V) (size : Nat) (iT : List (List D)) (l : List (Nat × Nat)) : Prop :=
 match x with
 | .one (.nil _) => iT = [] /\ l = []
 | .one (.sref t j lo len) => σ.ob t j = .arr true size iT /\ lo = 0 /\ len = iT.length /\ l = [(t, j)]
 | _ => False
def tz (σ : St) (x : V) (size : Nat) (news : List (List D)) (l : List (Nat × Nat)) : Prop :=
 match x with
 | .one (.sref t j lo len) => ∃ rows, σ.ob t j = .lit size rows /\ lo = 0 /\ len = rows.length /\ zz σ rows = some news /\ K8 σ rows /\ l = Yh rows.flatten
 | _ => False
theorem Ex (r : Rel T0 B σ a w X h) {o : Oper} {t : TypeId} {x y : Operand} {d : Nat} {iT news : List (List D)} {l1 l2 : List (Nat × Nat)} (iS : o.op = .call ⟨.builtin .append, #[x, y], #[t, t]⟩) (hd : o.dst = some d)
  (eb : gOf (look P σ t x) = true) (ec : gOf (look P σ t y) = true) (ht : XK P t = true) (hz : QK P (ZQ P t) = true) (gk : 0 < P.cellsOf (ZQ P t))
  (g6 : tn σ (unc (look P σ t x)) (P.cellsOf (ZQ P t)) iT l1) (eY : tz σ (unc (look P σ t y)) (P.cellsOf (ZQ P t)) news l2) (gd : (l1 ++ l2).Nodup) (fP : (σ.Zt (l1 ++ l2)).fresh d = true)
  (gW : (iT.length + news.length) * P.bytesOf (ZQ P t) <= 140737488355328) (cx : iT.length + news.length <= 9223372036854775807)
  {K : Act -> World -> Prop} {Q : Exit -> Act -> World -> Prop} (hK : ∀ a' w', K6 T0 B ((σ.Zt (l1 ++ l2)).new d (.one (.sref d 0 0 (iT.length + news.length))) [.arr true (P.cellsOf (ZQ P t)) (iT ++ news)]) a' w' -> XB B w w' -> K a' w') : o.wp P a w K Q := by
 obtain ⟨ti, hu, hi, eC⟩ := QN ht
 obtain ⟨i, z, row, fH, ei, fQ, eD, dC, fE, fa⟩ := xU hz
 rw [hi] at fH; cases fH
 have cy : P.bytesOf (ZQ P t) = ti.bytes := by simp [Program.bytesOf, hi]
 rw [cy] at gW
 rw [<- fE] at g6 eY gk hK
 have dM := r.arg (P := P) t x rfl eb
 have bb := r.arg (P := P) t y rfl ec
 obtain ⟨t2, j2, rows, hsy, bC, fp, bu, bk⟩ : ∃ t2 j2 rows, unc (look P σ t y) = .one (.sref t2 j2 0 rows.length) /\ σ.ob t2 j2 = .lit ti.size rows /\ zz σ rows = some news /\ K8 σ rows /\ l2 = Yh rows.flatten := by
  unfold tz at eY
  split at eY
  ·rename_i t2 j2 lo len heq
   obtain ⟨rows, ho, rfl, rfl, hm, hk, rfl⟩ := eY
   exact ⟨t2, j2, rows, heq, ho, hm, hk, rfl⟩
  ·exact eY.elim
 subst bk
 obtain ⟨hmv1, hmv2, hmv3⟩ := UW fp
 have hmok' := WD bu
 rw [hsy] at bb
 have h0 := r.obj t2 j2
 rw [bC] at h0
 obtain ⟨e2, ys, g7, ar, dL⟩ := h0
 obtain ⟨_, hfull2, _⟩ := bb.2.2 _ _ bC
 have hey0 : a.eval y = (h t2 j2).v := hfull2 rfl rfl
 have hnz : ∀ q ∈ news, q.length = ti.size := hmv3 _ ar
 have fM := O6 r dL hmv1 hmok' (List.nodup_append.1 gd).2.1
 have fk : ∃ e0 xs, w.ownsRow 0 e0 ti.size (a.eval x) iT.length xs /\ (∀ q ∈ iT, q.length = ti.size) /\ Jx w xs iT.flatten (fun b => JM σ h l1 b /\ blk (a.eval x) ≠ some b) /\ (∀ b, blk (a.eval x) = some b -> JM σ h l1 b) := by
  unfold tn at g6
  split at g6
  ·rename_i s heq
   obtain ⟨rfl, rfl⟩ := g6
   rw [heq] at dM
   have he : a.eval x = .slice none 0 0 := dM
   rw [he]
   exact ⟨0, [], World.ownsRow_nil w 0 0 _, (by intro q hq; cases hq), Jx.nil _, (fun b hb => by cases hb)⟩
  ·rename_i u j lo len heq
   obtain ⟨ho, rfl, rfl, rfl⟩ := g6
   rw [heq] at dM
   have dN : YI (Tof T0 X) h σ.ob w (.sref u j 0 iT.length) (a.eval x) := dM
   obtain ⟨_, gp, _⟩ := dN.2.1 _ _ _ ho
   have he : a.eval x = (h u j).v := gp rfl rfl
   have h0 := r.obj u j
   rw [ho] at h0
   obtain ⟨e, xs, iX, eE, iV, hn⟩ := h0
   have hH : σ.ob u j ≠ .none := by rw [ho]; simp
   rw [he]
   exact ⟨e, xs, iX, eE, iV.mono (fun b hb => ⟨⟨(u, j), by simp, hH, hb.1⟩, hb.2⟩), fun b hb => ⟨(u, j), by simp, hH, r.ub u j b hH hb⟩⟩
  ·exact g6.elim
 obtain ⟨e0, xs, iX, hoz, bA, g8⟩ := fk
 have di : ∀ q ∈ iT ++ news, q.length = ti.size := by
  intro q hq
  rcases List.mem_append.1 hq with hq | hq
  ·exact hoz q hq
  ·exact hnz q hq
 have fY : ys.length = news.length * ti.size := by rw [fM.1, YQ news ti.size hnz]
 have fJ : ∀ b, JM σ h l1 b -> JM σ h (Yh rows.flatten) b -> False := by
  rintro b ⟨p, hp, iU, hu⟩ ⟨p', dF, hZ, gv⟩
  obtain ⟨e1, e2⟩ := r.inj p.1 p.2 p'.1 p'.2 b iU hZ hu gv
  have fZ : p = p' := Prod.ext e1 e2
  subst fZ
  exact (List.nodup_append.1 gd).2.2 p hp p dF rfl
 have dn : ∀ b, JM σ h (l1 ++ Yh rows.flatten) b ↔ JM σ h l1 b \/ JM σ h (Yh rows.flatten) b := by
  intro b
  constructor
  ·rintro ⟨p, hp, hr⟩
   rcases List.mem_append.1 hp with hp | hp
   ·exact .inl ⟨p, hp, hr⟩
   ·exact .inr ⟨p, hp, hr⟩
  ·rintro (⟨p, hp, hr⟩ | ⟨p, hp, hr⟩)
   ·exact ⟨p, by simp [hp], hr⟩
   ·exact ⟨p, by simp [hp], hr⟩
 have r1 := r.Zt (l1 ++ Yh rows.flatten)
 have hP := r.yl (l1 ++ Yh rows.flatten)
 have ij := St.yx fP
 have key : ∀ (v' : Value) (w' : World) (e1 : TypeId), (Builtin.append_ #[t, t] o.type #[a.eval x, a.eval y]).run P w = .ok v' w' -> w'.ownsRow 0 e1 ti.size v' (iT.length + news.length) (xs ++ ys) ->
   w.grownBy w' (blk (a.eval x)) -> (∀ b, blk v' = some b -> (w.heap.size <= b /\ b < w'.heap.size) \/ blk (a.eval x) = some b) -> o.wp P a w K Q := by
  intro v' w' e1 iw hD gf dD
  unfold Oper.wp
  have eF : (execOp a.eval o).run P w = .ok (.value v') w' := by
   simp only [execOp, iS, resolve, invoke, builtin, Sem.run_bind, Sem.run_pure, Result.andThen_ok, List.map_toArray, List.map_cons, List.map_nil, iw]
  rw [eF, Oper.upon_value, hd]
  refine hK _ _ ⟨X, fun u j => if u = d then ⟨v', fun k => ((xs ++ ys)[k]?).getD undef, fun b => blk v' = some b \/ (JM σ h (l1 ++ Yh rows.flatten) b /\ blk (a.eval x) ≠ some b)⟩ else h u j, ?_⟩
   ⟨gf.os, gf.tape, gf.output, gf.size, fun k hk => gf.block k (r.hB k hk) (fun e => (hP k ((dn k).2 (.inl (g8 k e.symm)))).1 hk)⟩
  have gl : ((σ.Zt (l1 ++ Yh rows.flatten)).new d (.one (.sref d 0 0 (iT.length + news.length))) [.arr true ti.size (iT ++ news)]).ob d 0 = .arr true ti.size (iT ++ news) := by rw [St.zF]; simp [ij, Yp]
  have g7 : w'.ownsRow 0 e1 ti.size v' (iT ++ news).length (xs ++ ys) := by rw [List.length_append]; exact hD
  have iu : ∀ b, blk (a.eval x) ≠ some b -> b < w.heap.size -> w'.heap[b]? = w.heap[b]? := fun b hb hl => gf.block b hl (fun e => hb e.symm)
  have hOw : Jx w' (xs ++ ys) (iT ++ news).flatten (fun b => (blk v' = some b \/ (JM σ h (l1 ++ Yh rows.flatten) b /\ blk (a.eval x) ≠ some b)) /\ blk v' ≠ some b) := by
   rw [List.flatten_append]
   have h1 : Jx w' xs iT.flatten (fun b => JM σ h l1 b /\ blk (a.eval x) ≠ some b) := bA.Sh (fun b hb => iu b hb.2 (hP b ((dn b).2 (.inl hb.1))).2.2.1)
   have de : ∀ b, JM σ h (Yh rows.flatten) b -> blk (a.eval x) ≠ some b := fun b hb e => fJ b (g8 b e) hb
   have h2 : Jx w' ys news.flatten (JM σ h (Yh rows.flatten)) := fM.Sh (fun b hb => iu b (de b hb) (hP b ((dn b).2 (.inr hb))).2.2.1)
   refine (h1.append h2 (fun b fL gr => fJ b fL.1 gr)).mono (fun b hb => ?_)
   have hg : JM σ h (l1 ++ Yh rows.flatten) b /\ blk (a.eval x) ≠ some b := by
    rcases hb with hb | hb
    ·exact ⟨(dn b).2 (.inl hb.1), hb.2⟩
    ·exact ⟨(dn b).2 (.inr hb), de b hb⟩
   refine ⟨.inr hg, fun e => ?_⟩
   rcases dD b e with hl | hl
   ·have := (hP b hg.1).2.2.1; omega
   ·exact hg.2 hl
  refine r1.rU fP (JM σ h (l1 ++ Yh rows.flatten)) gf.size (fun k hk iU => gf.block k hk (fun e => iU ((dn k).2 (.inl (g8 k e.symm))))) (fun b hb => ⟨(hP b hb).1, (hP b hb).2.1, fun u j _ iU => (hP b hb).2.2.2 u j iU⟩) (fun _ hb => hb) (fun _ hb => .inl hb) _ _ [.arr true ti.size (iT ++ news)]
   (fun _ => ⟨v', fun k => ((xs ++ ys)[k]?).getD undef, fun b => blk v' = some b \/ (JM σ h (l1 ++ Yh rows.flatten) b /\ blk (a.eval x) ≠ some b)⟩) ?_ (fun j => ?_) (fun j b _ hb => .inl hb) (fun j b iU ig => ?_) (fun j j' b iU hZ _ _ => ?_)
  ·refine ⟨Kj hD, fun q' hJ iW hh => ?_, fun hJ iW hh => by rw [gl] at hh; cases hh⟩
   rw [gl] at hh; cases hh
   simp only [if_true, List.length_append]
   have := Ue g7
   rwa [List.length_append] at this
  ·cases j with
   | zero => exact ⟨e1, xs ++ ys, g7, di, hOw, fun k x d hx _ _ => by simp [hx]⟩
   | succ j => simp [Yp, zV]
  ·rcases ig with ig | ig
   ·rcases dD b ig with h1 | h1
    ·exact ⟨.inl h1.1, fun hx => by have := (r.hX b hx).2; omega, h1.2⟩
    ·have h3 := (dn b).2 (.inl (g8 b h1))
     have h2 := hP b h3
     exact ⟨.inr h3, h2.2.1, by have := gf.size; omega⟩
   ·have h2 := hP b ig.1
    exact ⟨.inr ig.1, h2.2.1, by have := gf.size; omega⟩
  ·have : ∀ j, Yp [Ob.arr true ti.size (iT ++ news)] j ≠ .none -> j = 0 := by
    intro j hj
    cases j with
    | zero => rfl
    | succ j => simp [Yp] at hj
   rw [this j iU, this j' hZ]
 rcases g7.2 with ⟨hn1, hn2⟩ | ⟨g2, cap2, cur2, g9, _, ew, hnc2, hmx2, hcs2, htk2⟩
 ·have iq : rows = [] := List.eq_nil_of_length_eq_zero hn2
  have gj : news = [] := List.eq_nil_of_length_eq_zero (by rw [<- hmv2, hn2])
  have hys : ys = [] := List.eq_nil_of_length_eq_zero (by rw [fY, gj]; simp)
  have gM : ∃ base cap, a.eval x = .slice base iT.length cap /\ iT.length <= cap /\ (base = none -> cap = 0) := by
   rcases iX.2 with ⟨h1, h2⟩ | ⟨g, cap, cur, h1, _, _, fC, _⟩
   ·exact ⟨none, 0, by rw [h1, h2], by omega, fun _ => rfl⟩
   ·exact ⟨_, cap, h1, fC, (fun hh => by cases hh)⟩
  obtain ⟨base, cap, hex, fC, bj⟩ := gM
  refine key (a.eval x) w e0 ?_ (by rw [hys, gj]; simpa using iX) ⟨rfl, rfl, rfl, Nat.le_refl _, fun _ _ _ => rfl⟩ (fun b hb => .inr hb)
  rw [hey0, hn1]
  rw [hex]
  exact yi t o.type _ ti hu hi base iT.length cap fC bj
 ·have bD : a.eval y = .slice (some ⟨g2, 0, none⟩) news.length cap2 := by rw [hey0, g9, hmv2]
  have ib : ∀ j u, ys[j]? = some u -> w.cell? ((⟨g2, 0, none⟩ : Addr).add j) = some u := by
   intro j u gv
   rw [xk]
   refine yG ew _ _ ?_
   rw [<- htk2, List.getElem?_take] at gv
   split at gv
   ·simpa using gv
   ·cases gv
  obtain ⟨v', w', e1, iw, hD, gf, dD⟩ := j6 (P := P) (w := w) t o.type _ e0 ti z hu hi ei dC (by omega) (a.eval x) iT.length xs iX ⟨g2, 0, none⟩ news.length cap2 ys fY ib
   (fun u gv => by
    obtain ⟨x', _, eh⟩ := dL.mem gv
    exact YI.X4 eh) (by simp only [maxLen]; omega) gW
  refine key v' w' e1 ?_ hD gf dD
  rw [bD]; exact iw
theorem Jx.pick {xs : List Value} {ds : List D} {S : Nat -> Prop} (h1 : Jx w xs ds S) {p q n : Nat} (hp : p <= q) (hq : q + n <= xs.length) : Jx w (xs.take p ++ cut xs q n) (ds.take p ++ cut ds q n) S := by
 obtain ⟨hl, Sk, hk, hs, hd⟩ := h1
 have dB : (xs.take p).length = p := by rw [List.length_take]; omega
 have bG : (ds.take p).length = p := by rw [List.length_take]; omega
 refine ⟨by rw [List.length_append, List.length_append, dB, bG, XG _ _ _ hq, XG _ _ _ (by omega)], fun k => if k < p then Sk k else Sk (q + (k - p)), fun k x d hx ir => ?_, fun k b hb => ?_, fun i j b hi hj => ?_⟩
 ·by_cases hkp : k < p
  ·rw [List.getElem?_append_left (by omega)] at hx ir
   rw [List.getElem?_take, if_pos hkp] at hx ir
   simp only [if_pos hkp]
   exact hk k x d hx ir
  ·rw [List.getElem?_append_right (by omega), dB] at hx
   rw [List.getElem?_append_right (by omega), bG] at ir
   simp only [if_neg hkp]
   exact hk _ x d (yf _ _ _ _ _ hx) (yf _ _ _ _ _ ir)
 ·dsimp only at hb
  split at hb <;> exact hs _ b hb
 ·dsimp only at hi hj
  split at hi <;> split at hj
  ·exact hd _ _ b hi hj
  ·have := hd _ _ b hi hj; omega
  ·have := hd _ _ b hi hj; omega
  ·have := hd _ _ b hi hj; omega
theorem PM (rows : List (List D)) (size : Nat) (hz : ∀ r ∈ rows, r.length = size) (lo n : Nat) (hle : lo + n <= rows.length) : (cut rows lo n).flatten = cut rows.flatten (lo * size) (n * size) := by
 have hdz : ∀ r ∈ rows.drop lo, r.length = size := fun r hr => hz r (List.mem_of_mem_drop hr)
 have e1 : (rows.drop lo).flatten = rows.flatten.drop (lo * size) := by
  have h1 := qP rows size hz lo (by omega)
  have h2 : (rows.take lo).flatten ++ (rows.drop lo).flatten = rows.flatten := by rw [<- List.flatten_append, List.take_append_drop]
  have h3 : (rows.take lo).flatten.length = lo * size := by rw [YQ _ size (fun r hr => hz r (List.mem_of_mem_take hr)), List.length_take]; congr 1; omega
  rw [<- h2, <- h3, List.drop_left]
 unfold cut
 rw [qP (rows.drop lo) size hdz n (by rw [List.length_drop]; omega), e1]
theorem DY (r : Rel T0 B σ a w X h) {o : Oper} {t : TypeId} {x y : Operand} {d u j len lo n : Nat} {rows : List (List D)} (iS : o.op = .call ⟨.builtin .append, #[x, y], #[t, t]⟩) (hd : o.dst = some d)
  (eb : gOf (look P σ t x) = true) (ec : gOf (look P σ t y) = true) (ht : XK P t = true) (hz : QK P (ZQ P t) = true) (gk : 0 < P.cellsOf (ZQ P t))
  (hx : unc (look P σ t x) = .one (.sref u j 0 len)) (hy : unc (look P σ t y) = .one (.sref u j lo n)) (ho : σ.ob u j = .arr true (P.cellsOf (ZQ P t)) rows) (hle : len <= lo) (dG : lo + n <= rows.length) (fP : (σ.Zt [(u, j)]).fresh d = true)
  (gW : (len + n) * P.bytesOf (ZQ P t) <= 140737488355328) (cx : len + n <= 9223372036854775807)
  {K : Act -> World -> Prop} {Q : Exit -> Act -> World -> Prop} (hK : ∀ a' w', K6 T0 B ((σ.Zt [(u, j)]).new d (.one (.sref d 0 0 (len + n))) [.arr true (P.cellsOf (ZQ P t)) (rows.take len ++ cut rows lo n)]) a' w' -> XB B w w' -> K a' w') : o.wp P a w K Q := by
 obtain ⟨ti, hu, hi, eC⟩ := QN ht
 obtain ⟨i, z, row, fH, ei, fQ, eD, dC, fE, fa⟩ := xU hz
 rw [hi] at fH; cases fH
 have cy : P.bytesOf (ZQ P t) = ti.bytes := by simp [Program.bytesOf, hi]
 rw [cy] at gW
 rw [<- fE] at ho gk hK
 have dM := r.arg (P := P) t x rfl eb
 have bb := r.arg (P := P) t y rfl ec
 rw [hx] at dM
 rw [hy] at bb
 have dN : YI (Tof T0 X) h σ.ob w (.sref u j 0 len) (a.eval x) := dM
 have hvy' : YI (Tof T0 X) h σ.ob w (.sref u j lo n) (a.eval y) := bb
 obtain ⟨_, _, fv, _⟩ := dN.2.1 _ _ _ ho
 have he : a.eval x = CQ (h u j).v len := fv rfl
 obtain ⟨_, _, _, base, cap, bD, gy, bW, cm, hb⟩ := hvy'.2.1 _ _ _ ho
 have h0 := r.obj u j
 rw [ho] at h0
 obtain ⟨e0, zs, bE, eE, iV, hn⟩ := h0
 have hH : σ.ob u j ≠ .none := by rw [ho]; simp
 have hzl : zs.length = rows.length * ti.size := bE.1
 have hm1 : len * ti.size <= lo * ti.size := Nat.mul_le_mul_right _ hle
 have aq : lo * ti.size + n * ti.size <= zs.length := by rw [hzl, <- Nat.add_mul]; exact Nat.mul_le_mul_right _ dG
 let xs := zs.take (len * ti.size)
 let ys := cut zs (lo * ti.size) (n * ti.size)
 have iX : w.ownsRow 0 e0 ti.size (a.eval x) len xs := by rw [he]; exact NW bE (by omega)
 have fY : ys.length = n * ti.size := XG _ _ _ aq
 have hblx : blk (a.eval x) = blk (h u j).v := by rw [he, CO]
 have gb : (rows.take len ++ cut rows lo n).flatten = rows.flatten.take (len * ti.size) ++ cut rows.flatten (lo * ti.size) (n * ti.size) := by
  rw [List.flatten_append, qP rows ti.size eE len (by omega), PM rows ti.size eE lo n dG]
 have di : ∀ q ∈ rows.take len ++ cut rows lo n, q.length = ti.size := by
  intro q hq
  rcases List.mem_append.1 hq with hq | hq
  ·exact eE q (List.mem_of_mem_take hq)
  ·exact eE q (List.mem_of_mem_drop (List.mem_of_mem_take hq))
 have hlen : (rows.take len ++ cut rows lo n).length = len + n := by rw [List.length_append, List.length_take, XG _ _ _ dG]; omega
 have hg0 : ∀ b, (h u j).u b -> JM σ h [(u, j)] b := fun b hb => ⟨(u, j), by simp, hH, hb⟩
 have g8 : ∀ b, blk (a.eval x) = some b -> JM σ h [(u, j)] b := fun b hb => hg0 b (r.ub u j b hH (by rw [<- hblx]; exact hb))
 have r1 := r.Zt [(u, j)]
 have hP := r.yl [(u, j)]
 have ij := St.yx fP
 have key : ∀ (v' : Value) (w' : World) (e1 : TypeId), (Builtin.append_ #[t, t] o.type #[a.eval x, a.eval y]).run P w = .ok v' w' -> w'.ownsRow 0 e1 ti.size v' (len + n) (xs ++ ys) ->
   w.grownBy w' (blk (a.eval x)) -> (∀ b, blk v' = some b -> (w.heap.size <= b /\ b < w'.heap.size) \/ blk (a.eval x) = some b) -> o.wp P a w K Q := by
  intro v' w' e1 iw hD gf dD
  unfold Oper.wp
  have eF : (execOp a.eval o).run P w = .ok (.value v') w' := by
   simp only [execOp, iS, resolve, invoke, builtin, Sem.run_bind, Sem.run_pure, Result.andThen_ok, List.map_toArray, List.map_cons, List.map_nil, iw]
  rw [eF, Oper.upon_value, hd]
  refine hK _ _ ⟨X, fun u' j' => if u' = d then ⟨v', fun k => ((xs ++ ys)[k]?).getD undef, fun b => blk v' = some b \/ (JM σ h [(u, j)] b /\ blk (a.eval x) ≠ some b)⟩ else h u' j', ?_⟩
   ⟨gf.os, gf.tape, gf.output, gf.size, fun k hk => gf.block k (r.hB k hk) (fun e => (hP k (g8 k e.symm)).1 hk)⟩
  have gl : ((σ.Zt [(u, j)]).new d (.one (.sref d 0 0 (len + n))) [.arr true ti.size (rows.take len ++ cut rows lo n)]).ob d 0 = .arr true ti.size (rows.take len ++ cut rows lo n) := by rw [St.zF]; simp [ij, Yp]
  have g7 : w'.ownsRow 0 e1 ti.size v' (rows.take len ++ cut rows lo n).length (xs ++ ys) := by rw [hlen]; exact hD
  have iu : ∀ b, blk (a.eval x) ≠ some b -> b < w.heap.size -> w'.heap[b]? = w.heap[b]? := fun b hb hl => gf.block b hl (fun e => hb e.symm)
  have hOw : Jx w' (xs ++ ys) (rows.take len ++ cut rows lo n).flatten (fun b => (blk v' = some b \/ (JM σ h [(u, j)] b /\ blk (a.eval x) ≠ some b)) /\ blk v' ≠ some b) := by
   rw [gb]
   have h1 : Jx w (xs ++ ys) (rows.flatten.take (len * ti.size) ++ cut rows.flatten (lo * ti.size) (n * ti.size)) (fun b => JM σ h [(u, j)] b /\ blk (a.eval x) ≠ some b) :=
    (iV.pick hm1 aq).mono (fun b hb => ⟨hg0 b hb.1, by rw [hblx]; exact hb.2⟩)
   refine (h1.Sh (fun b hb => iu b hb.2 (hP b hb.1).2.2.1)).mono (fun b hb => ⟨.inr hb, fun e => ?_⟩)
   rcases dD b e with hl | hl
   ·have := (hP b hb.1).2.2.1; omega
   ·exact hb.2 hl
  refine r1.rU fP (JM σ h [(u, j)]) gf.size (fun k hk iU => gf.block k hk (fun e => iU (g8 k e.symm))) (fun b hb => ⟨(hP b hb).1, (hP b hb).2.1, fun u' j' _ iU => (hP b hb).2.2.2 u' j' iU⟩) (fun _ hb => hb) (fun _ hb => .inl hb) _ _ [.arr true ti.size (rows.take len ++ cut rows lo n)]
   (fun _ => ⟨v', fun k => ((xs ++ ys)[k]?).getD undef, fun b => blk v' = some b \/ (JM σ h [(u, j)] b /\ blk (a.eval x) ≠ some b)⟩) ?_ (fun j' => ?_) (fun j' b _ hb => .inl hb) (fun j' b iU ig => ?_) (fun j1 j2 b iU hZ _ _ => ?_)
  ·refine ⟨Kj hD, fun q' hJ iW hh => ?_, fun hJ iW hh => by rw [gl] at hh; cases hh⟩
   rw [gl] at hh; cases hh
   simp only [if_true]
   have := Ue g7
   rw [hlen] at this ⊢
   exact this
  ·cases j' with
   | zero => exact ⟨e1, xs ++ ys, g7, di, hOw, fun k x d hx _ _ => by simp [hx]⟩
   | succ j' => simp [Yp, zV]
  ·rcases ig with ig | ig
   ·rcases dD b ig with h1 | h1
    ·exact ⟨.inl h1.1, fun hx => by have := (r.hX b hx).2; omega, h1.2⟩
    ·have h3 := g8 b h1
     have h2 := hP b h3
     exact ⟨.inr h3, h2.2.1, by have := gf.size; omega⟩
   ·have h2 := hP b ig.1
    exact ⟨.inr ig.1, h2.2.1, by have := gf.size; omega⟩
  ·have : ∀ j, Yp [Ob.arr true ti.size (rows.take len ++ cut rows lo n)] j ≠ .none -> j = 0 := by
    intro j hj
    cases j with
    | zero => rfl
    | succ j => simp [Yp] at hj
   rw [this j1 iU, this j2 hZ]
 cases base with
 | none =>
  have hc0 := cm rfl
  subst hc0
  have hn0 : n = 0 := by omega
  subst hn0
  have hys : ys = [] := List.eq_nil_of_length_eq_zero (by rw [fY]; simp)
  have gM : ∃ base cap, a.eval x = .slice base len cap /\ len <= cap /\ (base = none -> cap = 0) := by
   rcases iX.2 with ⟨h1, h2⟩ | ⟨g, cap, cur, h1, _, _, fC, _⟩
   ·exact ⟨none, 0, by rw [h1, h2], by omega, fun _ => rfl⟩
   ·exact ⟨_, cap, h1, fC, (fun hh => by cases hh)⟩
  obtain ⟨base, cap, hex, fC, bj⟩ := gM
  refine key (a.eval x) w e0 ?_ (by rw [hys]; simpa using iX) ⟨rfl, rfl, rfl, Nat.le_refl _, fun _ _ _ => rfl⟩ (fun b hb => .inr hb)
  rw [bD, hex]
  exact yi t o.type _ ti hu hi base len cap fC bj
 | some ad =>
  have ib : ∀ k v, ys[k]? = some v -> w.cell? (ad.add k) = some v := by
   intro k v hv
   have ff : 0 < n := by
    rcases Nat.eq_zero_or_pos n with h0 | h0
    ·have hk := (List.getElem?_eq_some_iff.1 hv).1
     rw [fY, h0] at hk
     simp at hk
    ·exact h0
   obtain ⟨b, ek, hh, fu⟩ := hb ff
   cases fu
   rcases bE.2 with ⟨hn1, _⟩ | ⟨g, cL, cur, fc, _, ai, fC, fU, fK, fo⟩
   ·rw [hh] at hn1; cases hn1
   ·rw [hh] at fc; cases fc
    have h1 := yf _ _ _ _ _ hv
    rw [xk]
    refine yG ai _ _ ?_
    rw [<- fo, List.getElem?_take] at h1
    split at h1
    ·exact h1
    ·cases h1
  have h1c : ∀ v ∈ ys, v.oneCell' = true := by
   intro v hv
   have g9 : v ∈ zs := List.mem_of_mem_drop (List.mem_of_mem_take hv)
   obtain ⟨hl, Sk, hk, _⟩ := iV
   obtain ⟨k, ef⟩ := List.mem_iff_getElem?.1 g9
   have dg : k < rows.flatten.length := by rw [<- hl]; exact (List.getElem?_eq_some_iff.1 ef).1
   exact (hk k v _ ef (List.getElem?_eq_getElem dg)).X4
  obtain ⟨v', w', e1, iw, hD, gf, dD⟩ := j6 (P := P) (w := w) t o.type _ e0 ti z hu hi ei dC (by omega) (a.eval x) len xs iX ad n cap ys fY ib h1c (by simp only [maxLen]; omega) gW
  refine key v' w' e1 ?_ hD gf dD
  rw [bD]; exact iw
end
end Go.Vm
namespace Go.Vm
open Go.RowKit
def L6 : List At -> Bool
 | [] => true
 | .d (.sl _ _) :: _ => false
 | _ :: xs => L6 xs
theorem wa : ∀ {xs : List At}, L6 xs = true -> ∀ x ∈ xs, ∀ s r, x ≠ .d (.sl s r)
 | [], _, x, hx, _, _ => by cases hx
 | y :: xs, h, x, hx, s, r => by
  have h2 : L6 xs = true /\ ∀ s r, y ≠ .d (.sl s r) := by
   cases y with
   | d z => cases z with
    | sl s r => cases h
    | _ => exact ⟨h, fun s r e => by cases e⟩
   | _ => exact ⟨h, fun s r e => by cases e⟩
  rcases List.mem_cons.1 hx with rfl | hx
  ·exact h2.2 s r
  ·exact wa h2.1 x hx s r
section
variable {P : Program} {T0 : CS} {B : Nat -> Prop} {σ : St} {a : Act} {w w' : World} {X X' : Nat -> Prop} {h : Nat -> Nat -> Hd}
theorem GX (r : Rel T0 B σ a w X h) {o : Oper} {T : TypeId} {x : Operand} {d : Nat} {k : IntKind} {n : Nat} {z : List At} {zr : List D} (iS : o.op = .makeSlice T x x) (hd : o.dst = some d) (fP : σ.fresh d = true)
  (ht : XK P T = true) (hz : QK P (ZQ P T) = true) (fQ : kQ P 12 (ZQ P T) = some z) (hzd : zD z = some zr) (hzf : L6 z = true) (gk : 0 < P.cellsOf (ZQ P T)) (hx : UI P σ x k (n : Int)) (cy : P.bytesOf (ZQ P T) * n <= 281474976710656) (cx : n <= 9223372036854775807)
  {K : Act -> World -> Prop} {Q : Exit -> Act -> World -> Prop} (hK : ∀ a' w', K6 T0 B (σ.new d (.one (.sref d 0 0 n)) [.arr true (P.cellsOf (ZQ P T)) (List.replicate n zr)]) a' w' -> XB B w w' -> K a' w') : o.wp P a w K Q := by
 obtain ⟨ti, hu, hi, eC⟩ := QN ht
 obtain ⟨i, zv, row, fH, ei, bB, eD, dC, fE, fa⟩ := xU hz
 rw [hi] at fH; cases fH
 rw [fQ] at bB; cases bB
 have hex := xd r hx
 have hby' : (ti.bytes : Int) * (n : Int) <= 281474976710656 := by
  have : P.bytesOf (ZQ P T) = ti.bytes := by simp [Program.bytesOf, hi]
  rw [this] at cy
  have h : ((ti.bytes * n : Nat) : Int) <= 281474976710656 := by omega
  rwa [Int.natCast_mul] at h
 have iw := run_make (P := P) w T (ZQ P T) ti zv hu hi ei k k n n (by omega) (Int.le_refl _) hby' (by omega)
 simp only [Int.toNat_natCast] at iw
 unfold Oper.wp
 simp only [execOp, iS, hex, Sem.run_bind, iw, Result.andThen_ok, Sem.run_pure, Oper.upon_value, hd]
 have aA := Bb hzd (fa (Tof T0 X) h σ.ob w)
 have hzl := aA.length
 have e1 : zv.cells.toList.length = zv.cells.size := Array.length_toList
 have dm : zr.length = ti.size := by omega
 have eH : (madeCells zv.cells (n * ti.size)).toList.length = n * ti.size := by rw [Array.length_toList, size_madeCells]
 have bF : ∀ q u, (madeCells zv.cells (n * ti.size)).toList[q]? = some u -> zv.cells.toList[q % ti.size]? = some u := by
  intro q u hq
  have ij : q < n * ti.size := by have := (List.getElem?_eq_some_iff.1 hq).1; omega
  have hmod : q % ti.size < zv.cells.size := by rw [dC]; exact Nat.mod_lt _ (by omega)
  have : (madeCells zv.cells (n * ti.size)).toList[q]? = some (zv.cells[q % zv.cells.size]!) := by
   simp [madeCells, ij]
  rw [this] at hq
  cases hq
  rw [dC]
  simp [hmod]
 have dL : Jx (w.alloc (.cells (madeCells zv.cells (n * ti.size)) (ZQ P T))) (madeCells zv.cells (n * ti.size)).toList (List.replicate n zr).flatten (fun _ => False) := by
  refine ⟨by rw [eH, YQ _ ti.size (by intro q hq; rw [List.eq_of_mem_replicate hq]; exact dm)]; simp, fun _ _ => False, fun q u dd hq fB => ?_, fun _ _ hb => hb, fun _ _ _ hb => hb.elim⟩
  have ij : q < n * ti.size := by have := (List.getElem?_eq_some_iff.1 hq).1; omega
  rw [kR zr n q (by rw [dm]; exact ij), dm] at fB
  exact uU hzd (fa (Tof T0 X) h σ.ob w) (wa hzf) _ _ _ u dd (bF q u hq) fB
 have := r.pk fP (World.grownBy_alloc w (.cells (madeCells zv.cells (n * ti.size)) (ZQ P T)) none) (.slice (some ⟨w.heap.size, 0, none⟩) n n) (e := ZQ P T) (size := P.cellsOf (ZQ P T)) (rows := List.replicate n zr) (xs := (madeCells zv.cells (n * ti.size)).toList)
  ⟨by rw [eH, fE]; simp, .inr ⟨w.heap.size, n, _, by simp, Nat.zero_le _, heap_alloc_new w _, by simp, by simp only [maxLen]; omega, by rw [size_madeCells, fE], by rw [List.take_of_length_le (by rw [eH, fE]; simp)]⟩⟩
  (by intro q hq; rw [List.eq_of_mem_replicate hq]; omega) dL
  (fun b hb => by simp [blk] at hb; subst hb; exact ⟨Nat.le_refl _, by simp⟩)
 rw [List.length_replicate] at this
 exact hK _ _ this.1 this.2
theorem Jx.place {xs ys : List Value} {ds es : List D} {S S' : Nat -> Prop} (h1 : Jx w xs ds S) (h2 : Jx w ys es S') (hd : ∀ b, S b -> S' b -> False) (o : Nat) (ho : o + ys.length <= xs.length) : Jx w (Vm.place xs o ys) (Vm.place ds o es) (fun b => S b \/ S' b) := by
 obtain ⟨l1, Sk, a1, a2, a3⟩ := h1
 obtain ⟨l2, ba, b1, b2, b3⟩ := h2
 refine ⟨by rw [XX _ _ _ ho, XX _ _ _ (by omega), l1], fun k => if o <= k /\ k < o + ys.length then ba (k - o) else Sk k, fun k x d hx ir => ?_, fun k b hb => ?_, fun i j b hi hj => ?_⟩
 ·rcases qG xs o ys ho k x hx with ⟨p1, p2, p3⟩ | ⟨p1, p3⟩
  ·rcases qG ds o es (by omega) k d ir with ⟨_, _, p4⟩ | ⟨p4, _⟩
   ·simp only [p1, p2, and_self, if_true]; exact b1 _ x d p3 p4
   ·exact absurd ⟨p1, by omega⟩ p4
  ·rcases qG ds o es (by omega) k d ir with ⟨p4, p5, _⟩ | ⟨_, p4⟩
   ·exact absurd ⟨p4, by omega⟩ p1
   ·simp only [p1, if_false]; exact a1 k x d p3 p4
 ·by_cases hk : o <= k /\ k < o + ys.length
  ·simp only [hk, and_self, if_true] at hb; exact .inr (b2 _ b hb)
  ·simp only [hk, if_false] at hb; exact .inl (a2 k b hb)
 ·by_cases fH : o <= i /\ i < o + ys.length
  ·simp only [fH, and_self, if_true] at hi
   by_cases eT : o <= j /\ j < o + ys.length
   ·simp only [eT, and_self, if_true] at hj
    have := b3 _ _ b hi hj; omega
   ·simp only [eT, if_false] at hj; exact (hd b (a2 j b hj) (b2 _ b hi)).elim
  ·simp only [fH, if_false] at hi
   by_cases eT : o <= j /\ j < o + ys.length
   ·simp only [eT, and_self, if_true] at hj; exact (hd b (a2 i b hi) (b2 _ b hj)).elim
   ·simp only [eT, if_false] at hj; exact a3 i j b hi hj
theorem Ia (r : Rel T0 B σ a w X h) {o : Oper} {T : TypeId} {x y : Operand} (iS : o.op = .store T x y) (hd : o.dst = none) (ht : qf P T = true) (eb : gOf (look P σ 0 x) = true) (ec : gOf (look P σ T y) = true)
  {t j i c : Nat} (hx : unc (look P σ 0 x) = .one (.ptr t j i c)) {size : Nat} {rows : List (List D)} (ho : σ.ob t j = .arr true size rows) (hi : i < rows.length) {ds : List D} (g5 : (unc (look P σ T y)).flat = true) (dt : JF σ (unc (look P σ T y)).cells = some ds) (hR : Qn σ (unc (look P σ T y)).cells)
  (gd : (Yh (unc (look P σ T y)).cells).Nodup) (aM : (t, j) ∉ Yh (unc (look P σ T y)).cells) (ak : (σ.Zt (Yh (unc (look P σ T y)).cells)).yL (At.isT t) = false) (hl : ds.length = P.cellsOf T) (hle : c + P.cellsOf T <= size)
  {K : Act -> World -> Prop} {Q : Exit -> Act -> World -> Prop} (hK : ∀ a' w', K6 T0 B ((σ.Zt (Yh (unc (look P σ T y)).cells)).Z5 t j (.arr true size (rows.set i (place (rows.getD i []) c ds)))) a' w' -> XB B w w' -> K a' w') : o.wp P a w K Q := by
 obtain ⟨_, ti, _, hti, _, _⟩ := kZ ht
 have hax := r.arg (P := P) 0 x hx eb
 obtain ⟨b, cap, cur, e, xs, hb, he, hh, gy, fU, fK, fo, hz, dK, _, iX⟩ := r.arr ho hax
 obtain ⟨iX, hn⟩ := iX rfl
 have hy := WW g5 (r.arg (P := P) T y rfl ec)
 have fM := O6 r hy dt hR gd
 have fY := fM.1
 have e2 : (a.eval y).cells.toList.length = (a.eval y).cells.size := Array.length_toList
 have e3 : cur.toList.length = cur.size := Array.length_toList
 have hO : rows[i]? = some (rows.getD i []) := by simp [List.getD_eq_getElem?_getD, List.getElem?_eq_getElem hi]
 have hmul : i * size + size <= rows.length * size := by rw [<- Nat.succ_mul]; exact Nat.mul_le_mul_right _ hi
 have aS : rows.length * size <= cap * size := Nat.mul_le_mul_right _ gy
 have iw := run_store (P := P) (w := w) hti (o := i * size + c) (val := a.eval y) hh (by omega) (by omega) (fun u hu => by obtain ⟨x', _, eh⟩ := hy.mem hu; exact YI.X4 eh)
 have hH : σ.ob t j ≠ .none := by rw [ho]; simp
 have ga : blk (h t j).v = some b := by rw [hb]; rfl
 have hB := r.s9 hH ga
 have fO := r.ub t j b hH ga
 have ag : xs.length = rows.length * size := by rw [dK, YQ rows size hz]
 have er : (rows.getD i []).length = size := hz _ (List.mem_of_getElem? hO)
 generalize hL : Yh (unc (look P σ T y)).cells = L at *
 have r1 := r.Zt L
 have fq : (σ.Zt L).ob t j = .arr true size rows := by rw [St.zA, if_neg aM, ho]
 have hP := r.yl L
 have fJ : ∀ b', (h t j).u b' -> JM σ h L b' -> False := by
  rintro b' gv ⟨p, hp, iU, hup⟩
  obtain ⟨q1, q2⟩ := r.inj t j p.1 p.2 b' hH iU gv hup
  exact aM (by rw [q1, q2]; exact hp)
 unfold Oper.wp
 simp only [execOp, iS, he, Sem.run_bind, iw, Result.andThen_ok, Sem.run_pure, Oper.upon_skip, hd]
 refine hK _ _ ⟨X, _, r1.change (by rw [fq]; simp) (by simp [World.setRow]) (fun k hk => setRow_other w b k _ (fun e => hk (e ▸ fO))) (JM σ h L) (fun b' ig => hP b' ig) _ (by rw [fq]; simp [Ob.uL])
  ⟨(h t j).v, fun k => ((place xs (i * size + c) (a.eval y).cells.toList)[k]?).getD undef, fun b' => (h t j).u b' \/ JM σ h L b'⟩ rfl (fun b' ig => ig) (fun b' ig => .inl (r.ub t j b' hH ig)) (At.isT t) ak (.inl (fun u i c => by simp [At.isT])) ?_⟩ (XB.setRow hB.1 _)
 have gu := setRow_heap w b cur (place cur.toList (i * size + c) (a.eval y).cells.toList).toArray e (0, 0) hh
 have iu : ∀ b', b' ≠ b -> (w.setRow b (place cur.toList (i * size + c) (a.eval y).cells.toList).toArray).heap[b']? = w.heap[b']? := fun b' iU => setRow_other w b b' _ iU
 have fW : ∀ r ∈ rows.set i (place (rows.getD i []) c ds), r.length = size := by
  intro r' gL
  rcases List.mem_or_eq_of_mem_set gL with gL | gL
  ·exact hz r' gL
  ·rw [gL, XX _ _ _ (by omega), er]
 refine ⟨e, place xs (i * size + c) (a.eval y).cells.toList, ⟨?_, .inr ⟨b, cap, _, by simpa using hb, Nat.zero_le _, gu, by simpa using gy, fU, ?_, ?_⟩⟩, fW, ?_, fun k u d hu _ _ => by simp [hu]⟩
 ·rw [XX _ _ _ (by omega), ag]; simp
 ·simp only [List.size_toArray]
  rw [XX _ _ _ (by omega), e3, fK]
 ·simp only [List.length_set]
  rw [Oy _ _ _ _ (by omega) (by omega), fo]
 ·rw [zu size c ds (by omega) rows i _ hO hz]
  have k1 : Jx (w.setRow b (place cur.toList (i * size + c) (a.eval y).cells.toList).toArray) xs rows.flatten (fun b => (h t j).u b /\ blk (h t j).v ≠ some b) := iX.Sh (fun b' ig => iu b' (fun e => ig.2 (by rw [e]; exact ga)))
  have k2 : Jx (w.setRow b (place cur.toList (i * size + c) (a.eval y).cells.toList).toArray) (a.eval y).cells.toList ds (JM σ h L) := fM.Sh (fun b' ig => iu b' (fun e => fJ b' (by rw [e]; exact fO) ig))
  refine (k1.place k2 (fun b' h1 h2 => fJ b' h1.1 h2) _ (by omega)).mono (fun b' ig => ?_)
  rcases ig with ig | ig
  ·exact ⟨.inl ig.1, ig.2⟩
  ·exact ⟨.inr ig, fun e => fJ b' (r.ub t j b' hH e) ig⟩
theorem Own.pA {v : Value} {n : Nat} {s : List (List D)} {S S2 : Nat -> Prop} (fV : Own w v (.sl n s) S) {k q : Nat} (hk : k < s.length) {ys : List Value} {ds : List D} (hy : Jx w ys ds S2) (hle : q + ds.length <= n) (hd : ∀ b, S b -> S2 b -> False) :
  ∃ g cap cur e, v = .slice (some ⟨g, 0, none⟩) s.length cap /\ S g /\ w.heap[g]? = some (.cells cur e (0, 0)) /\ k * n + q + ys.length <= cur.size /\ Own (w.setRow g (place cur.toList (k * n + q) ys).toArray) v (.sl n (s.set k (place (s.getD k []) q ds))) (fun b => S b \/ S2 b) := by
 cases fV with
 | sl v size rows S e xs Sk ho hz hb hl ef hs ir =>
  have fY := hy.1
  obtain ⟨dK, ⟨_, h0⟩ | ⟨g, cap, cur, hv, dX, hh, gy, fU, fK, fo⟩⟩ := ho
  ·omega
  have hSg : S g := hb g (by rw [hv]; rfl)
  have hO : s[k]? = some (s.getD k []) := by simp [List.getD_eq_getElem?_getD, List.getElem?_eq_getElem hk]
  have hmul : k * n + n <= s.length * n := by rw [<- Nat.succ_mul]; exact Nat.mul_le_mul_right _ hk
  have aS : s.length * n <= cap * n := Nat.mul_le_mul_right _ gy
  have e3 : cur.toList.length = cur.size := Array.length_toList
  have er : (s.getD k []).length = n := hz _ (List.mem_of_getElem? hO)
  refine ⟨g, cap, cur, e, hv, hSg, hh, by omega, ?_⟩
  have gu := setRow_heap w g cur (place cur.toList (k * n + q) ys).toArray e (0, 0) hh
  have iu : ∀ b', b' ≠ g -> (w.setRow g (place cur.toList (k * n + q) ys).toArray).heap[b']? = w.heap[b']? := fun b' iU => setRow_other w g b' _ iU
  have fW : ∀ r ∈ s.set k (place (s.getD k []) q ds), r.length = n := by
   intro r' gL
   rcases List.mem_or_eq_of_mem_set gL with gL | gL
   ·exact hz r' gL
   ·rw [gL, XX _ _ _ (by omega), er]
  have ga : blk v = some g := by rw [hv]; rfl
  have k1 : Jx (w.setRow g (place cur.toList (k * n + q) ys).toArray) xs s.flatten (fun b => S b /\ blk v ≠ some b) :=
   Jx.Sh (fun b' ig => iu b' (fun e => ig.2 (by rw [e]; exact ga))) (show Jx w xs s.flatten (fun b => S b /\ blk v ≠ some b) from ⟨hl, Sk, ef, fun k b hb => hs k b hb, ir⟩)
  have k2 : Jx (w.setRow g (place cur.toList (k * n + q) ys).toArray) ys ds S2 := hy.Sh (fun b' ig => iu b' (fun e => hd b' (by rw [e]; exact hSg) ig))
  have k3 := k1.place k2 (fun b' h1 h2 => hd b' h1.1 h2) (k * n + q) (by rw [dK]; omega)
  rw [<- zu n q ds (by omega) s k _ hO hz] at k3
  obtain ⟨hl3, Sk3, a1, a2, a3⟩ := k3
  refine .sl v n _ _ e (place xs (k * n + q) ys) Sk3 ⟨?_, .inr ⟨g, cap, _, by simpa using hv, dX, gu, by simpa using gy, fU, ?_, ?_⟩⟩ fW (fun b' ig => .inl (hb b' ig)) hl3 a1 (fun k b ig => ?_) a3
  ·rw [XX _ _ _ (by rw [dK]; omega), dK]; simp
  ·simp only [List.size_toArray]
   rw [XX _ _ _ (by omega), e3, fK]
  ·simp only [List.length_set]
   rw [Oy _ _ _ _ (by omega) (by omega), fo]
  ·rcases a2 k b ig with h1 | h1
   ·exact ⟨.inl h1.1, h1.2⟩
   ·exact ⟨.inr h1, fun e => hd b (hb b e) h1⟩
theorem HL (r : Rel T0 B σ a w X h) {o : Oper} {T : TypeId} {x y : Operand} (iS : o.op = .store T x y) (hd : o.dst = none) (ht : qf P T = true) (eb : gOf (look P σ 0 x) = true) (ec : gOf (look P σ T y) = true)
  {t j i c k q n : Nat} {s : List (List D)} (hx : unc (look P σ 0 x) = .one (.tref t j i c (some (k * n + q)))) {size : Nat} {rows : List (List D)} (ho : σ.ob t j = .arr true size rows) (hi : i < rows.length) (ib : (rows.getD i [])[c]? = some (.sl n s)) (hk : k < s.length)
  {ds : List D} (g5 : (unc (look P σ T y)).flat = true) (dt : JF σ (unc (look P σ T y)).cells = some ds) (hR : Qn σ (unc (look P σ T y)).cells)
  (gd : (Yh (unc (look P σ T y)).cells).Nodup) (aM : (t, j) ∉ Yh (unc (look P σ T y)).cells) (hl : ds.length = P.cellsOf T) (hle : q + P.cellsOf T <= n)
  {K : Act -> World -> Prop} {Q : Exit -> Act -> World -> Prop} (hK : ∀ a' w', K6 T0 B ((σ.Zt (Yh (unc (look P σ T y)).cells)).Z5 t j (.arr true size (rows.set i (place (rows.getD i []) c [.sl n (s.set k (place (s.getD k []) q ds))])))) a' w' -> XB B w w' -> K a' w') : o.wp P a w K Q := by
 obtain ⟨_, ti, _, hti, _, _⟩ := kZ ht
 have hH : σ.ob t j ≠ .none := by rw [ho]; simp
 have h0 := r.obj t j
 rw [ho] at h0
 obtain ⟨e, vs, fV, hz, ⟨aJ, Sk, o1, o2, o3⟩, hn⟩ := h0
 have hO : rows[i]? = some (rows.getD i []) := by simp [List.getD_eq_getElem?_getD, List.getElem?_eq_getElem hi]
 have gb : rows.flatten[i * size + c]? = some (.sl n s) := jQ rows size hz i _ hO c _ ib
 have ij : i * size + c < vs.length := by rw [aJ]; exact (List.getElem?_eq_some_iff.1 gb).1
 have du : vs[i * size + c]? = some vs[i * size + c] := List.getElem?_eq_getElem ij
 have hnv := hn _ _ _ du gb rfl
 have iX := o1 _ _ _ du gb
 have hy := WW g5 (r.arg (P := P) T y rfl ec)
 have fM := O6 r hy dt hR gd
 have fY := fM.1
 have e2 : (a.eval y).cells.toList.length = (a.eval y).cells.size := Array.length_toList
 generalize hL : Yh (unc (look P σ T y)).cells = L at *
 have fJ : ∀ b', (h t j).u b' -> JM σ h L b' -> False := by
  rintro b' gv ⟨p, hp, iU, hup⟩
  obtain ⟨q1, q2⟩ := r.inj t j p.1 p.2 b' hH iU gv hup
  exact aM (by rw [q1, q2]; exact hp)
 have aQ : ∀ b, Sk (i * size + c) b -> (h t j).u b := fun b hb => (o2 _ b hb).1
 obtain ⟨g, cap, cur, e1, hv, hSg, hh, gX, fA⟩ := iX.pA (q := q) hk fM (by omega) (fun b h1 h2 => fJ b (aQ b h1) h2)
 have hax := r.arg (P := P) 0 x hx eb
 have he : a.eval x = .pointer (some ⟨g, k * n + q, none⟩) := by
  obtain ⟨b, n', cL, h1, h2⟩ := hax.2 size rows ho
  rw [hnv, hv] at h1
  cases h1; exact h2
 have iw := run_store (P := P) (w := w) hti (o := k * n + q) (val := a.eval y) hh (by omega) (by omega) (fun u hu => by obtain ⟨x', _, eh⟩ := hy.mem hu; exact YI.X4 eh)
 have hgB := r.own t j g hH (aQ g hSg)
 have r1 := r.Zt L
 have fq : (σ.Zt L).ob t j = .arr true size rows := by rw [St.zA, if_neg aM, ho]
 have hP := r.yl L
 have fK : c + 1 <= size := by
  have h1 := (List.getElem?_eq_some_iff.1 ib).1
  have h2 := hz _ (List.mem_of_getElem? hO)
  omega
 have ay := zu size c [D.sl n (s.set k (place (s.getD k []) q ds))] (by simpa using fK) rows i _ hO hz
 have bx : i * size + c + [D.sl n (s.set k (place (s.getD k []) q ds))].length <= rows.flatten.length := by rw [<- aJ]; simp; omega
 have er : (rows.getD i []).length = size := hz _ (List.mem_of_getElem? hO)
 have fW : ∀ r ∈ rows.set i (place (rows.getD i []) c [D.sl n (s.set k (place (s.getD k []) q ds))]), r.length = size := by
  intro r' gL
  rcases List.mem_or_eq_of_mem_set gL with gL | gL
  ·exact hz r' gL
  ·rw [gL, XX _ _ _ (by rw [er]; simpa using fK), er]
 have iu : ∀ b', b' ≠ g -> (w.setRow g (place cur.toList (k * n + q) (a.eval y).cells.toList).toArray).heap[b']? = w.heap[b']? := fun b' iU => setRow_other w g b' _ iU
 have ga : ∀ b, blk (h t j).v = some b -> (w.setRow g (place cur.toList (k * n + q) (a.eval y).cells.toList).toArray).heap[b]? = w.heap[b]? := fun b hb => iu b (fun e => (o2 _ g hSg).2 (by rw [<- e]; exact hb))
 unfold Oper.wp
 simp only [execOp, iS, he, Sem.run_bind, iw, Result.andThen_ok, Sem.run_pure, Oper.upon_skip, hd]
 refine hK _ _ ⟨X, _, r1.change (by rw [fq]; simp) (by simp [World.setRow]) (fun k' ef => iu k' (fun e => ef (e ▸ aQ g hSg))) (JM σ h L) (fun b' ig => hP b' ig) _ (by rw [fq]; simp [Ob.uL])
  ⟨(h t j).v, (h t j).n, fun b' => (h t j).u b' \/ JM σ h L b'⟩ rfl (fun b' ig => ig) (fun b' ig => .inl (r.ub t j b' hH ig)) (fun _ => false) (St.xV _) (.inr rfl) ?_⟩ (XB.setRow hgB.1 _)
 refine ⟨e, vs, by rw [List.length_set]; exact y2 ga fV, fW, ⟨?_, fun k' => if k' = i * size + c then (fun b => Sk (i * size + c) b \/ JM σ h L b) else Sk k', fun k' x dd hx fB => ?_, fun k' b hb => ?_, fun p' q' b hp hq => ?_⟩, fun k' x dd hx fB gn => ?_⟩
 ·rw [ay, XX _ _ _ bx, aJ]
 ·rw [ay] at fB
  rcases qG _ _ _ bx k' dd fB with ⟨k1, k2, k3⟩ | ⟨k1, k3⟩
  ·have ef : k' = i * size + c := by simp at k2; omega
   subst ef
   rw [du] at hx; cases hx
   simp at k3; subst k3
   simp only [if_true]; exact fA
  ·have ef : ¬ k' = i * size + c := fun ef => k1 ⟨by omega, by simp; omega⟩
   simp only [ef, if_false]
   exact (o1 k' x dd hx k3).Sh (fun b hb => iu b (fun e => ef (o3 k' _ b hb (by rw [e]; exact hSg))))
 ·by_cases ef : k' = i * size + c
  ·simp only [ef, if_true] at hb
   rcases hb with hb | hb
   ·exact ⟨.inl (o2 _ b hb).1, (o2 _ b hb).2⟩
   ·exact ⟨.inr hb, fun e => fJ b (r.ub t j b hH e) hb⟩
  ·simp only [ef, if_false] at hb; exact ⟨.inl (o2 k' b hb).1, (o2 k' b hb).2⟩
 ·by_cases dF : p' = i * size + c
  ·by_cases ej : q' = i * size + c
   ·rw [dF, ej]
   ·simp only [dF, if_true] at hp
    simp only [ej, if_false] at hq
    rcases hp with hp | hp
    ·rw [dF]; exact (o3 _ _ b hp hq)
    ·exact (fJ b (o2 q' b hq).1 hp).elim
  ·simp only [dF, if_false] at hp
   by_cases ej : q' = i * size + c
   ·simp only [ej, if_true] at hq
    rcases hq with hq | hq
    ·rw [ej]; exact (o3 _ _ b hp hq)
    ·exact (fJ b (o2 p' b hp).1 hq).elim
   ·simp only [ej, if_false] at hq; exact o3 p' q' b hp hq
 ·rw [ay] at fB
  rcases qG _ _ _ bx k' dd fB with ⟨k1, k2, k3⟩ | ⟨k1, k3⟩
  ·have ef : k' = i * size + c := by simp at k2; omega
   subst ef
   rw [du] at hx; cases hx; exact hnv
  ·exact hn k' x dd hx k3 gn
end
theorem Rw {α β : Type} (f : α -> β) (l : List α) (k : Nat) : cut (l.map f) k (l.length - k) = (l.drop k).map f := by
 unfold cut
 rw [<- List.map_drop, <- List.map_take, List.take_of_length_le (by rw [List.length_drop]; exact Nat.le_refl _)]
def hol : D -> D
 | .sl _ _ => .unk
 | d => d
def Ji (rows : List (List D)) (lo n : Nat) : List (List D) := rows.take lo ++ (cut rows lo n).map (fun r => r.map hol) ++ rows.drop (lo + n)
theorem xh {rows : List (List D)} {lo n : Nat} (h : lo + n <= rows.length) : (Ji rows lo n).length = rows.length := by
 simp only [Ji, List.length_append, List.length_map, List.length_take, List.length_drop, XG _ _ _ h]; omega
theorem Lv {rows : List (List D)} {lo n dv n' : Nat} (h : lo + n <= rows.length) (h' : lo + n <= dv) : cut (Ji rows lo n) dv n' = cut rows dv n' := by
 unfold cut
 congr 1
 have hl : (rows.take lo ++ (cut rows lo n).map (fun r => r.map hol)).length = lo + n := by
  simp only [List.length_append, List.length_map, List.length_take, XG _ _ _ h]; omega
 unfold Ji
 rw [List.drop_append, List.drop_eq_nil_of_le (by omega), hl, List.drop_drop, List.nil_append]
 congr 1
 omega
section
variable {P : Program} {T0 : CS} {B : Nat -> Prop} {σ : St} {a : Act} {w w' : World} {X X' : Nat -> Prop} {h : Nat -> Nat -> Hd}
theorem Own.oD {v : Value} {d : D} {S S' : Nat -> Prop} (hs : d.scalar = true) (ho : Own w v d S) : Own w v d S' := by
 cases ho with
 | int k n => exact .int _ _ _
 | bool b => exact .bool _ _
 | str s => exact .str _ _
 | unk v h => exact .unk _ h _
 | sl => cases hs
theorem Own.hol {v : Value} {d : D} {S S' : Nat -> Prop} (ho : Own w v d S) : Own w v (Vm.hol d) S' := by
 cases d with
 | sl s r => exact .unk _ ho.X4 _
 | int k n => exact ho.oD rfl
 | bool b => exact ho.oD rfl
 | str s => exact ho.oD rfl
 | unk => exact ho.oD rfl
theorem vy (d : D) : (hol d).scalar = true := by cases d <;> rfl
theorem Lq {rows : List (List D)} {size lo n : Nat} (hz : ∀ r ∈ rows, r.length = size) (hle : lo + n <= rows.length) {k : Nat} {d : D} (hd : (Ji rows lo n).flatten[k]? = some d) :
  (lo * size <= k /\ k < lo * size + n * size /\ ∃ d', rows.flatten[k]? = some d' /\ d = hol d') \/ (¬ (lo * size <= k /\ k < lo * size + n * size) /\ rows.flatten[k]? = some d) := by
 have g5 : rows.flatten.length = rows.length * size := YQ rows size hz
 have hm : lo * size + n * size <= rows.length * size := by rw [<- Nat.add_mul]; exact Nat.mul_le_mul_right _ hle
 have e1 : (rows.take lo).flatten = rows.flatten.take (lo * size) := qP rows size hz lo (by omega)
 have e2 : ((cut rows lo n).map (fun r => r.map hol)).flatten = (cut rows.flatten (lo * size) (n * size)).map hol := by
  rw [<- PM rows size hz lo n hle, List.map_flatten]
 have l1 : ((rows.take lo).flatten).length = lo * size := by rw [e1, List.length_take]; omega
 have l2 : (((cut rows lo n).map (fun r => r.map hol)).flatten).length = n * size := by rw [e2, List.length_map, XG _ _ _ (by omega)]
 unfold Ji at hd
 rw [List.flatten_append, List.flatten_append] at hd
 by_cases h1 : k < lo * size + n * size
 ·rw [List.getElem?_append_left (by rw [List.length_append, l1, l2]; exact h1)] at hd
  by_cases h0 : k < lo * size
  ·rw [List.getElem?_append_left (by rw [l1]; exact h0), e1, List.getElem?_take, if_pos h0] at hd
   exact .inr ⟨by omega, hd⟩
  ·rw [List.getElem?_append_right (by rw [l1]; omega), l1, e2, List.getElem?_map] at hd
   cases hc : (cut rows.flatten (lo * size) (n * size))[k - lo * size]? with
   | none => rw [hc] at hd; cases hd
   | some d' =>
    rw [hc] at hd
    have := yf _ _ _ _ _ hc
    rw [show lo * size + (k - lo * size) = k by omega] at this
    exact .inl ⟨by omega, h1, d', this, (by cases hd; rfl)⟩
 ·rw [List.getElem?_append_right (by rw [List.length_append, l1, l2]; omega), List.length_append, l1, l2] at hd
  have e3 : (rows.drop (lo + n)).flatten = rows.flatten.drop (lo * size + n * size) := by
   have h2 : (rows.take (lo + n)).flatten ++ (rows.drop (lo + n)).flatten = rows.flatten := by rw [<- List.flatten_append, List.take_append_drop]
   have h3 : (rows.take (lo + n)).flatten.length = lo * size + n * size := by rw [qP rows size hz (lo + n) hle, List.length_take, Nat.add_mul]; omega
   rw [<- h2, <- h3, List.drop_left]
  rw [e3, List.getElem?_drop, show lo * size + n * size + (k - (lo * size + n * size)) = k by omega] at hd
  exact .inr ⟨by omega, hd⟩
theorem Rel.pj (r : Rel T0 B σ a w X h) {u j size lo n : Nat} {rows : List (List D)} (ho : σ.ob u j = .arr true size rows) (hle : lo + n <= rows.length) :
  ∃ (h' : Nat -> Nat -> Hd) (M : Nat -> Prop) (e : TypeId) (zs : List Value), Rel T0 B (σ.Z5 u j (.arr true size (Ji rows lo n))) a w X h' /\
   (∀ b, M b -> ¬ B b /\ ¬ X b /\ b < w.heap.size /\ ∀ t i, (σ.Z5 u j (.arr true size (Ji rows lo n))).ob t i ≠ .none -> ¬ (h' t i).u b) /\ (∀ t i, (h' t i).v = (h t i).v) /\
   w.ownsRow 0 e size (h u j).v rows.length zs /\ (∀ q ∈ rows, q.length = size) /\ Jx w (cut zs (lo * size) (n * size)) (cut rows lo n).flatten M /\ (∀ v ∈ zs, v.oneCell' = true) := by
 have hH : σ.ob u j ≠ .none := by rw [ho]; simp
 have h0 := r.obj u j
 rw [ho] at h0
 obtain ⟨e, zs, fV, hz, ⟨aJ, Sk, o1, o2, o3⟩, hn⟩ := h0
 have g5 : rows.flatten.length = rows.length * size := YQ rows size hz
 have hm : lo * size + n * size <= rows.length * size := by rw [<- Nat.add_mul]; exact Nat.mul_le_mul_right _ hle
 let M : Nat -> Prop := fun b => ∃ k, lo * size <= k /\ k < lo * size + n * size /\ Sk k b
 let ir : Hd := ⟨(h u j).v, (h u j).n, fun b => (h u j).u b /\ ¬ M b⟩
 have hMu : ∀ b, M b -> (h u j).u b /\ blk (h u j).v ≠ some b := fun b ⟨k, _, _, hk⟩ => o2 k b hk
 have fW : ∀ q ∈ Ji rows lo n, q.length = size := by
  intro q hq
  simp only [Ji, List.mem_append, List.mem_map] at hq
  rcases hq with (hq | ⟨q', hq, rfl⟩) | hq
  ·exact hz q (List.mem_of_mem_take hq)
  ·rw [List.length_map]; exact hz q' (List.mem_of_mem_drop (List.mem_of_mem_take hq))
  ·exact hz q (List.mem_of_mem_drop hq)
 have hr := r.change (w' := w) hH rfl (fun _ _ => rfl) (fun _ => False) (fun _ hh => hh.elim) (.arr true size (Ji rows lo n)) (by rw [ho]; exact ⟨rfl, rfl, (xh hle).symm⟩) ir rfl (fun b hb => .inl hb.1)
  (fun b hb => ⟨r.ub u j b hH hb, fun ig => (hMu b ig).2 hb⟩) (fun _ => false) (St.xV σ) (.inr rfl) (by
   refine ⟨e, zs, by rw [xh hle]; exact fV, fW, ⟨?_, fun k => if lo * size <= k /\ k < lo * size + n * size then (fun _ => False) else Sk k, fun k x d hx hd => ?_, fun k b hb => ?_, fun k k' b hb ig => ?_⟩, fun k x d hx hd gn => ?_⟩
   ·rw [aJ, YQ _ size fW, xh hle, g5]
   ·rcases Lq hz hle hd with ⟨h1, h2, d', h3, rfl⟩ | ⟨h1, h2⟩
    ·exact (o1 k x d' hx h3).hol
    ·simp only [h1, if_false]; exact o1 k x d hx h2
   ·dsimp only at hb
    split at hb
    ·exact hb.elim
    ·rename_i hk
     refine ⟨⟨(o2 k b hb).1, fun ⟨k', h1, h2, h3⟩ => ?_⟩, (o2 k b hb).2⟩
     have := o3 k k' b hb h3
     subst this
     exact hk ⟨h1, h2⟩
   ·dsimp only at hb ig
    split at hb
    ·exact hb.elim
    ·split at ig
     ·exact ig.elim
     ·exact o3 k k' b hb ig
   ·rcases Lq hz hle hd with ⟨h1, h2, d', h3, rfl⟩ | ⟨h1, h2⟩
    ·rw [vy] at gn; cases gn
    ·exact hn k x d hx h2 gn)
 have hfc : (cut rows lo n).flatten = cut rows.flatten (lo * size) (n * size) := PM rows size hz lo n hle
 refine ⟨_, M, e, zs, hr, fun b hb => ?_, fun t i => ?_, fV, hz, ?_, fun v hv => ?_⟩
 ·have h1 := r.own u j b hH (hMu b hb).1
  refine ⟨h1.1, h1.2.1, h1.2.2, fun t i iU ig => ?_⟩
  split at ig
  ·exact ig.2 hb
  ·rename_i hc
   have hZ : σ.ob t i ≠ .none := by
    rw [St.JV σ u j _ t i hH, if_neg hc] at iU; exact iU
   exact hc (r.inj t i u j b hZ hH ig (hMu b hb).1)
 ·split
  ·rename_i hc; rw [hc.1, hc.2]
  ·rfl
 ·rw [hfc]
  have gP : (cut zs (lo * size) (n * size)).length = n * size := XG _ _ _ (by rw [aJ, g5]; exact hm)
  refine ⟨by rw [gP, XG _ _ _ (by rw [g5]; exact hm)], fun k b => k < n * size /\ Sk (lo * size + k) b, fun k x d hx hd => ?_, fun k b hb => ⟨lo * size + k, by omega, by omega, hb.2⟩, fun i k b hi hk => by have := o3 _ _ b hi.2 hk.2; omega⟩
  have hk : k < n * size := by rw [<- gP]; exact (List.getElem?_eq_some_iff.1 hx).1
  exact (o1 _ x d (yf _ _ _ _ _ hx) (yf _ _ _ _ _ hd)).mono (fun b hb => ⟨hk, hb⟩)
 ·obtain ⟨k, hk⟩ := List.mem_iff_getElem?.1 hv
  have ij : k < rows.flatten.length := by rw [<- aJ]; exact (List.getElem?_eq_some_iff.1 hk).1
  exact (o1 k v _ hk (List.getElem?_eq_getElem ij)).X4
def wO (σ : St) (x : V) (size : Nat) (iT : List (List D)) (l : List (Nat × Nat)) : Prop :=
 match x with
 | .one (.nil _) => iT = [] /\ l = []
 | .one (.sref t j lo len) => lo = 0 /\ len = iT.length /\ l = [(t, j)] /\ (σ.ob t j = .arr true size iT \/ (σ.ob t j = .lit size [] /\ iT = []))
 | _ => False
theorem Ep (r : Rel T0 B σ a w X h) {o : Oper} {t : TypeId} {x y : Operand} {d u j lo n : Nat} {rows iT : List (List D)} {l1 : List (Nat × Nat)} (iS : o.op = .call ⟨.builtin .append, #[x, y], #[t, t]⟩) (hd : o.dst = some d)
  (eb : gOf (look P σ t x) = true) (ec : gOf (look P σ t y) = true) (ht : XK P t = true) (hz : QK P (ZQ P t) = true) (gk : 0 < P.cellsOf (ZQ P t))
  (g6 : wO σ (unc (look P σ t x)) (P.cellsOf (ZQ P t)) iT l1) (hy : unc (look P σ t y) = .one (.sref u j lo n)) (ho : σ.ob u j = .arr true (P.cellsOf (ZQ P t)) rows) (hle : lo + n <= rows.length) (au : (u, j) ∉ l1)
  (fP : ((σ.Z5 u j (.arr true (P.cellsOf (ZQ P t)) (Ji rows lo n))).Zt l1).fresh d = true)
  (gW : (iT.length + n) * P.bytesOf (ZQ P t) <= 140737488355328) (cx : iT.length + n <= 9223372036854775807)
  {K : Act -> World -> Prop} {Q : Exit -> Act -> World -> Prop} (hK : ∀ a' w', K6 T0 B (((σ.Z5 u j (.arr true (P.cellsOf (ZQ P t)) (Ji rows lo n))).Zt l1).new d (.one (.sref d 0 0 (iT.length + n))) [.arr true (P.cellsOf (ZQ P t)) (iT ++ cut rows lo n)]) a' w' -> XB B w w' -> K a' w') : o.wp P a w K Q := by
 obtain ⟨ti, hu, hi, eC⟩ := QN ht
 obtain ⟨i, z, row, fH, ei, fQ, eD, dC, fE, fa⟩ := xU hz
 rw [hi] at fH; cases fH
 have cy : P.bytesOf (ZQ P t) = ti.bytes := by simp [Program.bytesOf, hi]
 rw [cy] at gW
 rw [<- fE] at ho gk hK fP g6
 have dM := r.arg (P := P) t x rfl eb
 have bb := r.arg (P := P) t y rfl ec
 rw [hy] at bb
 have hvy' : YI (Tof T0 X) h σ.ob w (.sref u j lo n) (a.eval y) := bb
 obtain ⟨_, _, _, base, cap, bD, gy, bW, cm, hb⟩ := hvy'.2.1 _ _ _ ho
 obtain ⟨h', M, e0, zs, r0, hM, fc, how0, eE, fM, h1c⟩ := r.pj ho hle
 have hH : σ.ob u j ≠ .none := by rw [ho]; simp
 generalize hσ1 : σ.Z5 u j (.arr true ti.size (Ji rows lo n)) = σ1 at *
 have fq : ∀ t' i', ¬ (t' = u /\ i' = j) -> σ1.ob t' i' = σ.ob t' i' := fun t' i' iU => by rw [<- hσ1, St.JV σ u j _ t' i' hH, if_neg iU]
 have hzl : zs.length = rows.length * ti.size := how0.1
 have aq : lo * ti.size + n * ti.size <= zs.length := by rw [hzl, <- Nat.add_mul]; exact Nat.mul_le_mul_right _ hle
 generalize hys : cut zs (lo * ti.size) (n * ti.size) = ys at *
 have fY : ys.length = n * ti.size := by rw [<- hys]; exact XG _ _ _ aq
 have gP : (cut rows lo n).length = n := XG _ _ _ hle
 have hnz : ∀ q ∈ cut rows lo n, q.length = ti.size := fun q hq => eE q (List.mem_of_mem_drop (List.mem_of_mem_take hq))
 have fk : ∃ e1 xs, w.ownsRow 0 e1 ti.size (a.eval x) iT.length xs /\ (∀ q ∈ iT, q.length = ti.size) /\ Jx w xs iT.flatten (fun b => JM σ1 h' l1 b /\ blk (a.eval x) ≠ some b) /\ (∀ b, blk (a.eval x) = some b -> JM σ1 h' l1 b) := by
  unfold wO at g6
  split at g6
  ·rename_i s heq
   obtain ⟨rfl, rfl⟩ := g6
   rw [heq] at dM
   have he : a.eval x = .slice none 0 0 := dM
   rw [he]
   exact ⟨0, [], World.ownsRow_nil w 0 0 _, (by intro q hq; cases hq), Jx.nil _, (fun b hb => by cases hb)⟩
  ·rename_i u2 j2 lo2 len2 heq
   obtain ⟨rfl, rfl, rfl, eR⟩ := g6
   rw [heq] at dM
   have dN : YI (Tof T0 X) h σ.ob w (.sref u2 j2 0 iT.length) (a.eval x) := dM
   have iU : ¬ (u2 = u /\ j2 = j) := fun hc => au (by rw [hc.1, hc.2]; simp)
   have h0 := r0.obj u2 j2
   rw [fq u2 j2 iU] at h0
   rcases eR with eR | ⟨eR, rfl⟩
   ·obtain ⟨_, gp, _⟩ := dN.2.1 _ _ _ eR
    have he : a.eval x = (h' u2 j2).v := by rw [fc]; exact gp rfl rfl
    rw [eR] at h0
    obtain ⟨e, xs, iX, ar, iV, hn⟩ := h0
    have cN : σ1.ob u2 j2 ≠ .none := by rw [fq u2 j2 iU, eR]; simp
    rw [he]
    exact ⟨e, xs, iX, ar, iV.mono (fun b hb => ⟨⟨(u2, j2), by simp, cN, hb.1⟩, hb.2⟩), fun b hb => ⟨(u2, j2), by simp, cN, r0.ub u2 j2 b cN hb⟩⟩
   ·obtain ⟨_, gp, _⟩ := dN.2.2 _ _ eR
    have he : a.eval x = (h' u2 j2).v := by rw [fc]; exact gp rfl rfl
    rw [eR] at h0
    obtain ⟨e, xs, iX, ar, iV⟩ := h0
    have cN : σ1.ob u2 j2 ≠ .none := by rw [fq u2 j2 iU, eR]; simp
    have hxs : xs = [] := by cases iV; rfl
    subst hxs
    rw [he]
    exact ⟨e, [], iX, (by intro q hq; cases hq), Jx.nil _, fun b hb => ⟨(u2, j2), by simp, cN, r0.ub u2 j2 b cN hb⟩⟩
  ·exact g6.elim
 obtain ⟨e1, xs, iX, hoz, bA, g8⟩ := fk
 have di : ∀ q ∈ iT ++ cut rows lo n, q.length = ti.size := by
  intro q hq
  rcases List.mem_append.1 hq with hq | hq
  ·exact hoz q hq
  ·exact hnz q hq
 have fJ : ∀ b, JM σ1 h' l1 b -> M b -> False := by
  rintro b ⟨p, hp, iU, gv⟩ hb
  exact (hM b hb).2.2.2 p.1 p.2 iU gv
 have r1 := r0.Zt l1
 have hP := r0.yl l1
 have ij := St.yx fP
 let N : Nat -> Prop := fun b => JM σ1 h' l1 b \/ M b
 have hN : ∀ b, N b -> ¬ B b /\ ¬ X b /\ b < w.heap.size /\ ∀ u' i', (σ1.Zt l1).ob u' i' ≠ .none -> ¬ (h' u' i').u b := by
  rintro b (hb | hb)
  ·exact hP b hb
  ·obtain ⟨q1, q2, q3, q4⟩ := hM b hb
   refine ⟨q1, q2, q3, fun u' i' iU => q4 u' i' ?_⟩
   rw [St.zA] at iU
   split at iU
   ·exact absurd rfl iU
   ·exact iU
 have key : ∀ (v' : Value) (w' : World) (e2 : TypeId), (Builtin.append_ #[t, t] o.type #[a.eval x, a.eval y]).run P w = .ok v' w' -> w'.ownsRow 0 e2 ti.size v' (iT.length + n) (xs ++ ys) ->
   w.grownBy w' (blk (a.eval x)) -> (∀ b, blk v' = some b -> (w.heap.size <= b /\ b < w'.heap.size) \/ blk (a.eval x) = some b) -> o.wp P a w K Q := by
  intro v' w' e2 iw hD gf dD
  unfold Oper.wp
  have eF : (execOp a.eval o).run P w = .ok (.value v') w' := by
   simp only [execOp, iS, resolve, invoke, builtin, Sem.run_bind, Sem.run_pure, Result.andThen_ok, List.map_toArray, List.map_cons, List.map_nil, iw]
  rw [eF, Oper.upon_value, hd]
  refine hK _ _ ⟨X, fun u' j' => if u' = d then ⟨v', fun k => ((xs ++ ys)[k]?).getD undef, fun b => blk v' = some b \/ (N b /\ blk (a.eval x) ≠ some b)⟩ else h' u' j', ?_⟩
   ⟨gf.os, gf.tape, gf.output, gf.size, fun k hk => gf.block k (r.hB k hk) (fun e => (hN k (.inl (g8 k e.symm))).1 hk)⟩
  have gl : ((σ1.Zt l1).new d (.one (.sref d 0 0 (iT.length + n))) [.arr true ti.size (iT ++ cut rows lo n)]).ob d 0 = .arr true ti.size (iT ++ cut rows lo n) := by rw [St.zF]; simp [ij, Yp]
  have fN : (iT ++ cut rows lo n).length = iT.length + n := by rw [List.length_append, gP]
  have g7 : w'.ownsRow 0 e2 ti.size v' (iT ++ cut rows lo n).length (xs ++ ys) := by rw [fN]; exact hD
  have iu : ∀ b, blk (a.eval x) ≠ some b -> b < w.heap.size -> w'.heap[b]? = w.heap[b]? := fun b hb hl => gf.block b hl (fun e => hb e.symm)
  have hOw : Jx w' (xs ++ ys) (iT ++ cut rows lo n).flatten (fun b => (blk v' = some b \/ (N b /\ blk (a.eval x) ≠ some b)) /\ blk v' ≠ some b) := by
   rw [List.flatten_append]
   have h1 : Jx w' xs iT.flatten (fun b => JM σ1 h' l1 b /\ blk (a.eval x) ≠ some b) := bA.Sh (fun b hb => iu b hb.2 (hP b hb.1).2.2.1)
   have de : ∀ b, M b -> blk (a.eval x) ≠ some b := fun b hb e => fJ b (g8 b e) hb
   have h2 : Jx w' ys (cut rows lo n).flatten M := fM.Sh (fun b hb => iu b (de b hb) (hM b hb).2.2.1)
   refine (h1.append h2 (fun b fL gr => fJ b fL.1 gr)).mono (fun b hb => ?_)
   have hg : N b /\ blk (a.eval x) ≠ some b := by
    rcases hb with hb | hb
    ·exact ⟨.inl hb.1, hb.2⟩
    ·exact ⟨.inr hb, de b hb⟩
   refine ⟨.inr hg, fun e => ?_⟩
   rcases dD b e with hl | hl
   ·have := (hN b hg.1).2.2.1; omega
   ·exact hg.2 hl
  refine r1.rU fP N gf.size (fun k hk iU => gf.block k hk (fun e => iU (.inl (g8 k e.symm)))) (fun b hb => ⟨(hN b hb).1, (hN b hb).2.1, fun u' j' _ iU => (hN b hb).2.2.2 u' j' iU⟩) (fun _ hb => hb) (fun _ hb => .inl hb) _ _ [.arr true ti.size (iT ++ cut rows lo n)]
   (fun _ => ⟨v', fun k => ((xs ++ ys)[k]?).getD undef, fun b => blk v' = some b \/ (N b /\ blk (a.eval x) ≠ some b)⟩) ?_ (fun j' => ?_) (fun j' b _ hb => .inl hb) (fun j' b iU ig => ?_) (fun j1 j2 b iU hZ _ _ => ?_)
  ·refine ⟨Kj hD, fun q' hJ iW hh => ?_, fun hJ iW hh => by rw [gl] at hh; cases hh⟩
   rw [gl] at hh; cases hh
   simp only [if_true]
   have := Ue g7
   rw [fN] at this ⊢
   exact this
  ·cases j' with
   | zero => exact ⟨e2, xs ++ ys, g7, di, hOw, fun k x d hx _ _ => by simp [hx]⟩
   | succ j' => simp [Yp, zV]
  ·rcases ig with ig | ig
   ·rcases dD b ig with h1 | h1
    ·exact ⟨.inl h1.1, fun hx => by have := (r.hX b hx).2; omega, h1.2⟩
    ·have h3 : N b := .inl (g8 b h1)
     have h2 := hN b h3
     exact ⟨.inr h3, h2.2.1, by have := gf.size; omega⟩
   ·have h2 := hN b ig.1
    exact ⟨.inr ig.1, h2.2.1, by have := gf.size; omega⟩
  ·have : ∀ j, Yp [Ob.arr true ti.size (iT ++ cut rows lo n)] j ≠ .none -> j = 0 := by
    intro j hj
    cases j with
    | zero => rfl
    | succ j => simp [Yp] at hj
   rw [this j1 iU, this j2 hZ]
 cases base with
 | none =>
  have hc0 := cm rfl
  subst hc0
  have hn0 : n = 0 := by omega
  subst hn0
  have hys0 : ys = [] := List.eq_nil_of_length_eq_zero (by rw [fY]; simp)
  have gM : ∃ base cap, a.eval x = .slice base iT.length cap /\ iT.length <= cap /\ (base = none -> cap = 0) := by
   rcases iX.2 with ⟨h1, h2⟩ | ⟨g, cap, cur, h1, _, _, fC, _⟩
   ·exact ⟨none, 0, by rw [h1, h2], by omega, fun _ => rfl⟩
   ·exact ⟨_, cap, h1, fC, (fun hh => by cases hh)⟩
  obtain ⟨base, cap, hex, fC, bj⟩ := gM
  refine key (a.eval x) w e1 ?_ (by rw [hys0]; simpa using iX) ⟨rfl, rfl, rfl, Nat.le_refl _, fun _ _ _ => rfl⟩ (fun b hb => .inr hb)
  rw [bD, hex]
  exact yi t o.type _ ti hu hi base iT.length cap fC bj
 | some ad =>
  have ib : ∀ k v, ys[k]? = some v -> w.cell? (ad.add k) = some v := by
   intro k v hv
   have ff : 0 < n := by
    rcases Nat.eq_zero_or_pos n with h0 | h0
    ·have hk := (List.getElem?_eq_some_iff.1 hv).1
     rw [fY, h0] at hk
     simp at hk
    ·exact h0
   obtain ⟨b, ek, hh, fu⟩ := hb ff
   cases fu
   rcases how0.2 with ⟨hn1, _⟩ | ⟨g, cL, cur, fc, _, ai, fC, fU, fK, fo⟩
   ·rw [hh] at hn1; cases hn1
   ·rw [hh] at fc; cases fc
    rw [<- hys] at hv
    have h1 := yf _ _ _ _ _ hv
    rw [xk]
    refine yG ai _ _ ?_
    rw [<- fo, List.getElem?_take] at h1
    split at h1
    ·exact h1
    ·cases h1
  have h1y : ∀ v ∈ ys, v.oneCell' = true := fun v hv => h1c v (by rw [<- hys] at hv; exact List.mem_of_mem_drop (List.mem_of_mem_take hv))
  obtain ⟨v', w', e2, iw, hD, gf, dD⟩ := j6 (P := P) (w := w) t o.type _ e1 ti z hu hi ei dC (by omega) (a.eval x) iT.length xs iX ad n cap ys fY ib h1y (by simp only [maxLen]; omega) gW
  refine key v' w' e2 ?_ hD gf dD
  rw [bD]; exact iw
end
def og (w : World) (res : List (List D)) (e : Ending) (w' : World) : Prop :=
 ∃ (vs : List Value) (gA : List (List Value)), e = .returned (L8 vs) /\ Below w.heap.size w w' /\ Z6 K3 vs gA /\ Z6 (fun (cs : List Value) (row : List D) => cs.length = row.length) gA res /\
  Jx w' gA.flatten res.flatten (fun b => w.heap.size <= b /\ b < w'.heap.size)
def Yv (P : Program) (f : FuncId) (args res : List (List D)) : Prop :=
 LQ P f = true /\ ∀ (T : CS) (w : World) (gQ : List Value), (∀ b k, T b k -> b < w.heap.size) -> Z6 (fun v row => ∃ cs, K3 v cs /\ Z6 (Rd T w) cs row) gQ args -> Calls P f gQ.toArray w (og w res)
theorem WS {α β : Type} {R : α -> β -> Prop} : ∀ {gA : List (List α)} {res : List (List β)}, Z6 (fun (cs : List α) (row : List β) => cs.length = row.length) gA res -> (∀ (k : Nat) (x : α) (d : β), gA.flatten[k]? = some x -> res.flatten[k]? = some d -> R x d) -> Z6 (fun cs row => Z6 R cs row) gA res := by
 intro gA res iV
 induction iV with
 | nil => intro _; exact .nil
 | @cons cs row gA res hl _ ih =>
  intro hk
  refine .cons (Z6.kA hl (fun k x d hx hd => hk k x d ?_ ?_)) (ih (fun k x d hx hd => hk (cs.length + k) x d ?_ ?_))
  ·rw [List.flatten_cons, List.getElem?_append_left (List.getElem?_eq_some_iff.1 hx).1]; exact hx
  ·rw [List.flatten_cons, List.getElem?_append_left (List.getElem?_eq_some_iff.1 hd).1]; exact hd
  ·rw [List.flatten_cons, List.getElem?_append_right (by omega)]; simpa using hx
  ·rw [List.flatten_cons, List.getElem?_append_right (by omega), hl]; simpa using hd
theorem Yv.rd {P : Program} {f : FuncId} {args res : List (List D)} (hs : Yv P f args res) : JC P f false args res := by
 refine ⟨hs.1, fun T w gQ hT ha => (hs.2 T w gQ hT ha).mono ?_⟩
 rintro e w' ⟨vs, gA, he, hb, hf, hl, ⟨_, Sk, h1, h2, h3⟩⟩
 refine ⟨vs, gA, fun b => w.heap.size <= b /\ b < w'.heap.size, he, hb, fun b hb => hb, hf, WS hl (fun k x d hx hd => ?_), fun hh => by cases hh⟩
 simp only [qM, Bool.false_eq_true, if_false]
 exact (h1 k x d hx hd).rd (fun b k' hb => .inr (h2 k b hb))
def YM : List Bool -> List D -> List Ob
 | _, [] => []
 | q :: qs, .sl size rows :: ds => .arr q size rows :: YM qs ds
 | [], .sl size rows :: ds => .arr true size rows :: YM [] ds
 | qs, _ :: ds => .none :: YM qs.tail ds
def Tu : List Bool -> List D -> Prop
 | _, [] => True
 | q :: qs, .sl _ rows :: ds => (q = false -> ∀ r ∈ rows, ∀ x ∈ r, x.scalar = true) /\ Tu qs ds
 | [], .sl _ _ :: ds => Tu [] ds
 | qs, _ :: ds => Tu qs.tail ds
theorem JT : ∀ (qs : List Bool) (ds : List D) (k : Nat), Tu qs ds -> (∀ size rows, ds[k]? = some (.sl size rows) -> ∃ q, Yp (YM qs ds) k = .arr q size rows /\ (q = false -> ∀ r ∈ rows, ∀ x ∈ r, x.scalar = true)) /\ (Yp (YM qs ds) k ≠ .none -> ∃ size rows, ds[k]? = some (.sl size rows))
 | qs, [], k, _ => ⟨fun size rows h => by simp at h, fun h => by cases qs <;> simp [YM, Yp] at h⟩
 | q :: qs, .sl size rows :: ds, 0, hf => ⟨fun s r h => by simp at h; obtain ⟨rfl, rfl⟩ := h; exact ⟨q, by simp [YM, Yp], hf.1⟩, fun _ => ⟨size, rows, by simp⟩⟩
 | [], .sl size rows :: ds, 0, hf => ⟨fun s r h => by simp at h; obtain ⟨rfl, rfl⟩ := h; exact ⟨true, by simp [YM, Yp], fun h => by cases h⟩, fun _ => ⟨size, rows, by simp⟩⟩
 | qs, .int k n :: ds, 0, hf => ⟨fun s r h => by simp at h, fun h => by cases qs <;> simp [YM, Yp] at h⟩
 | qs, .bool b :: ds, 0, hf => ⟨fun s r h => by simp at h, fun h => by cases qs <;> simp [YM, Yp] at h⟩
 | qs, .str s :: ds, 0, hf => ⟨fun s r h => by simp at h, fun h => by cases qs <;> simp [YM, Yp] at h⟩
 | qs, .unk :: ds, 0, hf => ⟨fun s r h => by simp at h, fun h => by cases qs <;> simp [YM, Yp] at h⟩
 | q :: qs, .sl size rows :: ds, k + 1, hf => by
  have := JT qs ds k hf.2
  simpa [YM, Yp] using this
 | [], .sl size rows :: ds, k + 1, hf => by
  have := JT [] ds k hf
  simpa [YM, Yp] using this
 | qs, .int _ _ :: ds, k + 1, hf => by
  have := JT qs.tail ds k (by cases qs <;> exact hf)
  cases qs <;> simpa [YM, Yp] using this
 | qs, .bool _ :: ds, k + 1, hf => by
  have := JT qs.tail ds k (by cases qs <;> exact hf)
  cases qs <;> simpa [YM, Yp] using this
 | qs, .str _ :: ds, k + 1, hf => by
  have := JT qs.tail ds k (by cases qs <;> exact hf)
  cases qs <;> simpa [YM, Yp] using this
 | qs, .unk :: ds, k + 1, hf => by
  have := JT qs.tail ds k (by cases qs <;> exact hf)
  cases qs <;> simpa [YM, Yp] using this
section
variable {P : Program} {T0 : CS} {B : Nat -> Prop} {σ : St} {a : Act} {w w' : World} {X X' : Nat -> Prop} {h : Nat -> Nat -> Hd}
theorem wQ (r : Rel T0 B σ a w X h) {o : Oper} {c : Call} {f : FuncId} {d : Nat} {rows res : List (List D)} (qs : List Bool) (iS : o.op = .call c) (hc : c.callee = .value (.func f)) (hd : o.dst = some d) (fP : σ.fresh d = true)
  (iY : Qs P σ c.args.toList c.argTypes.toList rows) (hs : Yv P f rows res) (hq : Tu qs res.flatten)
  {K : Act -> World -> Prop} {Q : Exit -> Act -> World -> Prop} (hK : ∀ a' w', K6 T0 B (σ.new d (Vg d res) (YM qs res.flatten)) a' w' -> XB B w w' -> K a' w') : o.wp P a w K Q := by
 have ij := St.yx fP
 unfold Oper.wp
 rw [UH iS hc hs.1, Oper.upon_enter]
 have bH := r.Qs false iY (fun hh => by cases hh)
 simp only [Bool.false_eq_true, if_false] at bH
 refine (hs.2 (Ot T0 X h σ) w _ (fun b k hb => r.B3 hb) bH).mono ?_
 rintro e w' ⟨vs, gA, rfl, fb, gM, hlen, ⟨_, Sk, h1, h2, h3⟩⟩
 rw [hd]
 have hex : ∀ j, ∃ hd : Hd, (∀ c, gA.flatten[j]? = some c -> hd.v = c) /\ (∀ size rows, res.flatten[j]? = some (.sl size rows) -> (∀ b, hd.u b -> Sk j b) /\ (∀ b, blk hd.v = some b -> hd.u b) /\ ∀ T h ob, zV T h ob w' hd (.arr true size rows) /\ ((∀ r ∈ rows, ∀ x ∈ r, x.scalar = true) -> zV T h ob w' hd (.arr false size rows))) := by
  intro j
  have g5 : gA.flatten.length = res.flatten.length := by
   have := WS (R := fun _ _ => True) hlen (fun _ _ _ _ _ => trivial)
   exact (j8 this).length
  cases hj : res.flatten[j]? with
  | none => exact ⟨Hd.of ((gA.flatten[j]?).getD undef), fun c gB => by simp [Hd.of, gB], fun size rows hh => by cases hh⟩
  | some dd =>
   have dg : j < gA.flatten.length := by rw [g5]; exact (List.getElem?_eq_some_iff.1 hj).1
   have cM : gA.flatten[j]? = some gA.flatten[j] := List.getElem?_eq_getElem dg
   cases dd with
   | int k n => exact ⟨Hd.of gA.flatten[j], fun c gB => by rw [cM] at gB; cases gB; rfl, fun size rows hh => by cases hh⟩
   | bool k => exact ⟨Hd.of gA.flatten[j], fun c gB => by rw [cM] at gB; cases gB; rfl, fun size rows hh => by cases hh⟩
   | str k => exact ⟨Hd.of gA.flatten[j], fun c gB => by rw [cM] at gB; cases gB; rfl, fun size rows hh => by cases hh⟩
   | unk => exact ⟨Hd.of gA.flatten[j], fun c gB => by rw [cM] at gB; cases gB; rfl, fun size rows hh => by cases hh⟩
   | sl size rows =>
    have ho := h1 j _ _ cM hj
    generalize hv : gA.flatten[j] = v at ho
    cases ho with
    | sl v size rows S e xs ba ho hz hb hl hk eA ir =>
     refine ⟨⟨v, fun k => (xs[k]?).getD undef, Sk j⟩, fun c gB => by rw [cM, hv] at gB; cases gB; rfl, fun hJ iW hh => ?_⟩
     cases hh
     refine ⟨fun b hb => hb, hb, fun T h ob => ⟨⟨e, xs, ho, hz, ⟨hl, ba, hk, fun k b hb => eA k b hb, ir⟩, fun k x d hx _ _ => by simp [hx]⟩, fun gb => ⟨e, xs, ho, hz, Z6.kA hl (fun k x d hx hd => ?_)⟩⟩⟩
     obtain ⟨r0, eo, hdr⟩ := List.mem_flatten.1 (List.mem_of_getElem? hd)
     have gn := gb r0 eo d hdr
     have := hk k x d hx hd
     cases this with
     | int k n => exact .int _ _
     | bool b => exact .bool _
     | str s => exact .str _
     | unk v h => exact .unk _ h
     | sl => cases gn
 obtain ⟨hf, cS⟩ := Classical.axiomOfChoice hex
 refine hK _ _ ⟨X, fun t j => if t = d then hf j else h t j, ?_⟩ (XB.Fo fb r.hB)
 have hH : ∀ j, (σ.new d (Vg d res) (YM qs res.flatten)).ob d j = Yp (YM qs res.flatten) j := fun j => by rw [St.zF]; simp [ij]
 have fw : Z6 (fun cs row => Z6 (VG (Tof T0 X) w') cs row) gA res := by
  refine WS hlen (fun k x d hx hd => ?_)
  have ho := h1 k x d hx hd
  cases ho with
  | int k n => exact Rd.int _ _
  | bool b => exact Rd.bool _
  | str s => exact Rd.str _
  | unk v h => exact Rd.unk _ h
  | sl v size rows S e xs ba ho hz hb hl hk eA ir => exact ⟨e, xs, ho⟩
 refine r.new fP (Below.grownBy fb) (fun b hb => hb) (fun b hb => .inl hb) (Vg d res) (L8 vs) (YM qs res.flatten) hf ?_ (fun j => ?_) (fun j b iU hb => ?_) (fun j b iU hb => ?_) (fun j j' b iU hZ hb ig => ?_)
 ·exact wx (h := fun t j => if t = d then hf j else h t j) (ob := (σ.new d (Vg d res) (YM qs res.flatten)).ob) (t := d) gM fw (fun i size rows hi => by
   obtain ⟨q, ej, _⟩ := (JT qs res.flatten i hq).1 size rows hi
   exact ⟨q, by rw [hH]; exact ej⟩) (fun i c hi => by simp only [if_true]; exact (cS i).1 c hi)
 ·by_cases iU : Yp (YM qs res.flatten) j = .none
  ·rw [iU]; trivial
  ·obtain ⟨size, rows, hj⟩ := (JT qs res.flatten j hq).2 iU
   obtain ⟨q, ej, hqf⟩ := (JT qs res.flatten j hq).1 size rows hj
   rw [ej]
   have := ((cS j).2 size rows hj).2.2 (Tof T0 X) (fun t j => if t = d then hf j else h t j) (σ.new d (Vg d res) (YM qs res.flatten)).ob
   cases q with
   | true => exact this.1
   | false => exact this.2 (hqf rfl)
 ·obtain ⟨size, rows, hj⟩ := (JT qs res.flatten j hq).2 iU
  exact ((cS j).2 size rows hj).2.1 b hb
 ·obtain ⟨size, rows, hj⟩ := (JT qs res.flatten j hq).2 iU
  have := h2 j b (((cS j).2 size rows hj).1 b hb)
  exact ⟨this.1, fun hx => by have := (r.hX b hx).2; omega, this.2⟩
 ·obtain ⟨size, rows, hj⟩ := (JT qs res.flatten j hq).2 iU
  obtain ⟨hJ, iW, eT⟩ := (JT qs res.flatten j' hq).2 hZ
  exact h3 j j' b (((cS j).2 size rows hj).1 b hb) (((cS j').2 hJ iW eT).1 b ig)
end
end Go.Vm
