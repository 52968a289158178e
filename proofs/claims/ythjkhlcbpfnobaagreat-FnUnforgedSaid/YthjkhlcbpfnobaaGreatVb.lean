/- An abstract machine Mj the model of Go, by value, and that it is sound: part Vb. No condition. -/
import Derived.Test.YthjkhlcbpfnobaaGreatVa
set_option linter.unusedVariables false
set_option linter.unusedSimpArgs false
namespace Go.Vm
open Go.RowKit
variable {Q : Exit -> Act -> World -> Prop} {K : Act -> World -> Prop} {h h' : Nat -> Nat -> Hd} {rows news s lB res rs : List (List D)} {B X' X S S' N : Nat -> Prop} {o : Oper} {P : Program} {σ σ' σ1 : St} {x y : Operand} {p : At -> Bool} {T0 T T' : CS} {a : Act} {v val : Value} {n d size j t lo c g len i u : Nat} {w' w : World} {gS : Nat -> Nat -> Ob} {ys vs : List Value} {k : IntKind} {f : FuncId} {q : Bool} {cur : Array Value} {hd : Hd}
theorem YF.sL {ob : Nat -> Nat -> Ob} (hT : ∀ b k v, T b k -> w.cell? ⟨b, k, none⟩ = some v -> w'.cell? ⟨b, k, none⟩ = some v /\ T' b k) (hc : ∀ t j, Cpt h h' ob gS t j)
  {x : At} (r : YF T h ob w x v) : YF T' h' gS w' x v := by
 obtain ⟨d, hd⟩ : ∃ d, x.ref d = false := by
  cases x with
  | sref t j lo len => exact ⟨t + 1, by simp [At.ref]⟩
  | ptr t j i c => exact ⟨t + 1, by simp [At.ref]⟩
  | bptr t c => exact ⟨t + 1, by simp [At.ref]⟩
  | fn f t => exact ⟨t + 1, by simp [At.ref]⟩
  | tref t j i c o => exact ⟨t + 1, by simp [At.ref]⟩
  | any => exact ⟨0, rfl⟩
  | d x => exact ⟨0, rfl⟩
  | nil s => exact ⟨0, rfl⟩
  | rptr r c => exact ⟨0, rfl⟩
 exact YF.carry hT (d := d) (fun t j _ => hc t j) hd r
def TZ (p : At -> Bool) : List At -> Bool
 | [] => false
 | x :: xs => p x || TZ p xs
def V.B1 (p : At -> Bool) : V -> Bool
 | .one x => p x
 | .agg xs => TZ p xs
 | _ => false
def DJ (p : At -> Bool) : List V -> Bool
 | [] => false
 | x :: xs => x.B1 p || DJ p xs
def V.yS (p : At -> Bool) : V -> Bool
 | .tup xs => DJ p xs
 | .cnd _ x => x.B1 p
 | .fix _ x => x.B1 p
 | .one x => p x
 | .agg xs => TZ p xs
 | .any => false
def xE (p : At -> Bool) : List Ob -> Bool
 | [] => false
 | .box cells :: os => TZ p cells || xE p os
 | .lit _ rows :: os => TZ p rows.flatten || xE p os
 | _ :: os => xE p os
def St.yS (p : At -> Bool) : St -> Bool
 | [] => false
 | e :: σ => e.1.yS p || xE p e.2 || St.yS p σ
def At.isT (t : Nat) : At -> Bool
 | .tref u _ _ _ _ => u == t
 | _ => false
theorem kZ : ∀ (xs : List At), TZ (fun _ => false) xs = false
 | [] => rfl
 | _ :: xs => by simp [TZ, kZ xs]
theorem Ln : ∀ (xs : List V), DJ (fun _ => false) xs = false
 | [] => rfl
 | x :: xs => by cases x <;> simp [DJ, V.B1, kZ, Ln xs]
theorem Ax (x : V) : x.B1 (fun _ => false) = false := by cases x <;> simp [V.B1, kZ]
theorem qH (x : V) : x.yS (fun _ => false) = false := by cases x <;> simp [V.yS, kZ, Ln, Ax]
theorem VR : ∀ (os : List Ob), xE (fun _ => false) os = false
 | [] => rfl
 | o :: os => by cases o <;> simp [xE, kZ, VR os]
theorem St.qH : ∀ (σ : St), St.yS (fun _ => false) σ = false
 | [] => rfl
 | e :: σ => by simp [St.yS, Go.Vm.qH, Go.Vm.VR, St.qH σ]
theorem St.NH {p : At -> Bool} : ∀ {σ : St}, σ.yS p = false -> ∀ t, (σ.get t).yS p = false
 | [], _, t => by simp [St.get, V.yS]
 | e :: σ, h, 0 => by simp only [St.yS, Bool.or_eq_false_iff] at h; exact h.1.1
 | e :: σ, h, t + 1 => by
  simp only [St.yS, Bool.or_eq_false_iff] at h
  have := St.NH h.2 t
  simpa [St.get] using this
theorem EX {p : At -> Bool} : ∀ {os : List Ob}, xE p os = false -> ∀ j, xE p [Yj os j] = false
 | [], _, j => by simp [Yj, xE]
 | o :: os, h, 0 => by cases o <;> simp_all [Yj, xE]
 | o :: os, h, j + 1 => by
  have h2 : xE p os = false := by cases o <;> simp_all [xE]
  have := EX h2 j
  simpa [Yj] using this
theorem St.HH {p : At -> Bool} : ∀ {σ : St}, σ.yS p = false -> ∀ t j, xE p [σ.ob t j] = false
 | [], _, t, j => by simp [St.ob, xE]
 | e :: σ, h, 0, j => by simp only [St.yS, Bool.or_eq_false_iff] at h; exact EX h.1.2 j
 | e :: σ, h, t + 1, j => by
  simp only [St.yS, Bool.or_eq_false_iff] at h
  have := St.HH h.2 t j
  simpa [St.ob] using this
theorem HL {ob : Nat -> Nat -> Ob} (f : ∀ {x : At} {v : Value}, p x = false -> YF T h ob w x v -> YF T' h' gS w' x v) {xs : List At} (hx : TZ p xs = false)
  (r : Z9 (YF T h ob w) xs vs) : Z9 (YF T' h' gS w') xs vs := by
 induction r with
 | nil => exact .nil
 | cons r _ ih =>
  simp only [TZ, Bool.or_eq_false_iff] at hx
  exact .cons (f hx.1 r) (ih hx.2)
theorem zK.map {ob : Nat -> Nat -> Ob} (f : ∀ {x : At} {v : Value}, p x = false -> YF T h ob w x v -> YF T' h' gS w' x v) {x : V} (hx : x.B1 p = false)
  (r : zK T h ob w x v) : zK T' h' gS w' x v := by
 cases x with
 | any => exact r
 | one x => exact f hx r
 | agg xs => obtain ⟨cs, e, r⟩ := r; exact ⟨cs, e, HL f hx r⟩
 | tup xs => exact r.elim
 | cnd g x => exact r.elim
 | fix u x => exact r.elim
theorem JP.map {ob : Nat -> Nat -> Ob} (f : ∀ {x : At} {v : Value}, p x = false -> YF T h ob w x v -> YF T' h' gS w' x v) {x : V} (hx : x.yS p = false)
  (r : JP T h ob w x v) : JP T' h' gS w' x v := by
 cases x with
 | any => exact r
 | one x => exact f hx r
 | agg xs => obtain ⟨cs, e, r⟩ := r; exact ⟨cs, e, HL f hx r⟩
 | tup xs =>
  obtain ⟨vs, e, r⟩ := r
  refine ⟨vs, e, ?_⟩
  clear e
  generalize vs.toList = vl at r
  simp only [V.yS] at hx
  induction r with
  | nil => exact .nil
  | cons r _ ih =>
   simp only [DJ, Bool.or_eq_false_iff] at hx
   exact .cons (zK.map f hx.1 r) (ih hx.2)
 | cnd g x => exact ⟨fun hg => zK.map f hx (r.1 hg), r.2⟩
 | fix u x => exact ⟨r.1, zK.map f hx r.2⟩
theorem J0.map {ob : Nat -> Nat -> Ob} (f : ∀ {x : At} {v : Value}, p x = false -> YF T h ob w x v -> YF T' h' gS w' x v)
  (hT : ∀ b k v, T b k -> w.cell? ⟨b, k, none⟩ = some v -> w'.cell? ⟨b, k, none⟩ = some v /\ T' b k) {o : Ob}
  (ir : o ≠ .none -> ∀ b, blk hd.v = some b -> hd.u b) (hb : o ≠ .none -> ∀ b, hd.u b -> w'.heap[b]? = w.heap[b]?) (hx : xE p [o] = false) (r : J0 T h ob w hd o) : J0 T' h' gS w' hd o := by
 cases o with
 | none => trivial
 | box cells =>
  obtain ⟨b, cs, e, hv, hh, lC⟩ := r
  simp only [xE, Bool.or_false] at hx
  exact ⟨b, cs, e, hv, by rw [hb zAF b (ir zAF b (by rw [hv]; rfl))]; exact hh, HL f hx lC⟩
 | arr q size rows =>
  have hk : ∀ {e : TypeId} {n : Nat} {xs : List Value}, w.ownsRow 0 e size hd.v n xs -> w'.ownsRow 0 e size hd.v n xs := fun ho => qc (fun b h => hb zAF b (ir zAF b h)) ho
  cases q with
  | false =>
   obtain ⟨e, xs, ho, hz, lC⟩ := r
   exact ⟨e, xs, hk ho, hz, lC.imp fun _ _ => Rd.mono hT⟩
  | true =>
   obtain ⟨e, xs, ho, hz, lC, hn⟩ := r
   exact ⟨e, xs, hk ho, hz, lC.Nd (fun b h => hb zAF b h.1), hn⟩
 | lit size rows =>
  obtain ⟨e, xs, ho, hz, lC⟩ := r
  simp only [xE, Bool.or_false] at hx
  exact ⟨e, xs, qc (fun b h => hb zAF b (ir zAF b h)) ho, hz, HL f hx lC⟩
def Ob.uo : Ob -> Ob -> Prop
 | .arr q s r, .arr q' s' r' => q = q' /\ s = s' /\ r.length = r'.length
 | .lit s r, .lit s' r' => s = s' /\ r.length = r'.length
 | .box _, .box _ => True
 | _, _ => False
theorem Rel.change (r : Rel T0 B σ a w X h) (lS : σ.ob t j ≠ .none) (iZ : w'.heap.size = w.heap.size) (hw : ∀ k, ¬ (h t j).u k -> w'.heap[k]? = w.heap[k]?) (M : Nat -> Prop)
  (hM : ∀ b, M b -> ¬ B b /\ ¬ X b /\ b < w.heap.size /\ ∀ u i, σ.ob u i ≠ .none -> ¬ (h u i).u b) (o' : Ob) (fL : (σ.ob t j).uo o') (lL : Hd) (hv : lL.v = (h t j).v) (hu : ∀ b, lL.u b -> (h t j).u b \/ M b) (ir : ∀ b, blk lL.v = some b -> lL.u b)
  (p : At -> Bool) (hp : σ.yS p = false) (hn : (∀ u i c o, p (.tref t u i c o) = true) \/ lL.n = (h t j).n)
  (eg : J0 (Tof T0 X) (fun u i => if u = t /\ i = j then lL else h u i) (σ.Zu t j o').ob w' lL o') : Rel T0 B (σ.Zu t j o') a w' X (fun u i => if u = t /\ i = j then lL else h u i) := by
 have iw : ∀ u i, ¬ (u = t /\ i = j) -> (σ.Zu t j o').ob u i = σ.ob u i := by
  intro u i lA
  rw [St.Xo σ t j o' u i lS, if_neg lA]
 have iq : (σ.Zu t j o').ob t j = o' := by rw [St.Xo σ t j o' t j lS]; simp
 have hT : ∀ b k v, Tof T0 X b k -> w.cell? ⟨b, k, none⟩ = some v -> w'.cell? ⟨b, k, none⟩ = some v /\ Tof T0 X b k := by
  intro b' k v lP lJ
  refine ⟨?_, lP⟩
  have lA : ¬ (h t j).u b' := by
   intro gr
   have lE := r.own t j b' lS gr
   rcases lP with lP | lP
   ·exact lE.1 (r.hT _ _ lP)
   ·exact lE.2.1 lP
  rw [World.cell?_of_block (hw b' lA)]; exact lJ
 have hhv : ∀ u i, ((fun u i => if u = t /\ i = j then lL else h u i) u i).v = (h u i).v := by
  intro u i
  by_cases hc : u = t /\ i = j
  ·simp only [hc, and_self, if_true]; exact hv
  ·simp only [hc, if_false]
 have aw : ∀ u i q size rows, (σ.Zu t j o').ob u i = .arr q size rows -> ∃ lO, σ.ob u i = .arr q size lO /\ lO.length = rows.length := by
  intro u i q size rows ho
  by_cases hc : u = t /\ i = j
  ·obtain ⟨rfl, rfl⟩ := hc
   rw [iq] at ho; subst ho
   cases ia : σ.ob u i with
   | arr q0 s0 r0 => rw [ia] at fL; obtain ⟨rfl, rfl, hl⟩ := fL; exact ⟨r0, rfl, hl⟩
   | none => rw [ia] at fL; exact fL.elim
   | box c => rw [ia] at fL; exact fL.elim
   | lit s r => rw [ia] at fL; exact fL.elim
  ·rw [iw u i hc] at ho; exact ⟨rows, ho, rfl⟩
 have hll : ∀ u i size rows, (σ.Zu t j o').ob u i = .lit size rows -> ∃ lO, σ.ob u i = .lit size lO /\ lO.length = rows.length := by
  intro u i size rows ho
  by_cases hc : u = t /\ i = j
  ·obtain ⟨rfl, rfl⟩ := hc
   rw [iq] at ho; subst ho
   cases ia : σ.ob u i with
   | arr q0 s0 r0 => rw [ia] at fL; exact fL.elim
   | none => rw [ia] at fL; exact fL.elim
   | box c => rw [ia] at fL; exact fL.elim
   | lit s r => rw [ia] at fL; obtain ⟨rfl, hl⟩ := fL; exact ⟨r, rfl, hl⟩
  ·rw [iw u i hc] at ho; exact ⟨rows, ho, rfl⟩
 have bm : ∀ u i cells, (σ.Zu t j o').ob u i = .box cells -> ∃ hH, σ.ob u i = .box hH := by
  intro u i cells ho
  by_cases hc : u = t /\ i = j
  ·obtain ⟨rfl, rfl⟩ := hc
   rw [iq] at ho; subst ho
   cases ia : σ.ob u i with
   | arr q0 s0 r0 => rw [ia] at fL; exact fL.elim
   | none => rw [ia] at fL; exact fL.elim
   | box c => exact ⟨c, rfl⟩
   | lit s r => rw [ia] at fL; exact fL.elim
  ·rw [iw u i hc] at ho; exact ⟨cells, ho⟩
 have at_ : ∀ {x : At} {v : Value}, p x = false -> YF (Tof T0 X) h σ.ob w x v -> YF (Tof T0 X) (fun u i => if u = t /\ i = j then lL else h u i) (σ.Zu t j o').ob w' x v := by
  intro x v bl rx
  cases x with
  | any => exact rx
  | d x => exact Rd.mono hT rx
  | nil s => exact rx
  | sref u i lo len =>
   refine ⟨rx.1, fun q size rows ho => ?_, fun size rows ho => ?_⟩
   ·obtain ⟨lO, ia, hl⟩ := aw u i q size rows ho
    rw [hhv, <- hl]; exact rx.2.1 q size lO ia
   ·obtain ⟨lO, ia, hl⟩ := hll u i size rows ho
    rw [hhv, <- hl]; exact rx.2.2 size lO ia
  | ptr u i k c =>
   refine ⟨rx.1, fun q size rows ho => ?_⟩
   obtain ⟨lO, ia, hl⟩ := aw u i q size rows ho
   rw [hhv]; exact rx.2 q size lO ia
  | bptr u c =>
   refine ⟨rx.1, fun cells ho => ?_⟩
   obtain ⟨hH, ia⟩ := bm u 0 cells ho
   rw [hhv]; exact rx.2 hH ia
  | fn f u =>
   refine ⟨rx.1, fun cells ho => ?_⟩
   obtain ⟨hH, ia⟩ := bm u 0 cells ho
   rw [hhv]; exact rx.2 hH ia
  | tref u i k c o =>
   refine ⟨rx.1, fun size rows ho => ?_⟩
   obtain ⟨lO, ia, hl⟩ := aw u i true size rows ho
   have h1 := rx.2 size lO ia
   by_cases hc : u = t /\ i = j
   ·obtain ⟨rfl, rfl⟩ := hc
    rcases hn with hn | hn
    ·rw [hn] at bl; cases bl
    ·simp only [and_self, if_true, hn]; exact h1
   ·simp only [hc, if_false]; exact h1
  | rptr rr c =>
   obtain ⟨b, off, g, e, hk⟩ := rx
   exact ⟨b, off, g, e, fun k d hd => ⟨(hT _ _ _ (hk k d hd).2.1 (hk k d hd).1).1, (hk k d hd).2.1, Rd.mono hT (hk k d hd).2.2⟩⟩
 have iz : ∀ u i, (σ.Zu t j o').ob u i ≠ .none -> σ.ob u i ≠ .none := by
  intro u i iE
  by_cases gr : u = t /\ i = j
  ·obtain ⟨rfl, rfl⟩ := gr; exact lS
  ·rw [iw u i gr] at iE; exact iE
 refine ⟨by rw [r.size, St.XW], r.defers, by rw [iZ]; exact r.hB, fun b hb => by rw [iZ]; exact r.hX b hb, r.hT, fun u gr => ?_, fun u i => ?_, fun u i b' lA lP => ?_, fun u i b' lA lP => ?_, fun u i u' i' b' lA l8 ig l0 => ?_⟩
 ·rw [St.XW] at gr
  rw [St.QI]; exact JP.map at_ (St.NH hp u) (r.slot u gr)
 ·by_cases hc : u = t /\ i = j
  ·obtain ⟨rfl, rfl⟩ := hc; rw [iq]; simp only [and_self, if_true]; exact eg
  ·rw [iw u i hc]
   simp only [hc, if_false]
   exact J0.map at_ hT (fun ho b => r.ub u i b ho) (fun ho b hb => hw b (fun hbt => hc (r.inj u i t j b ho lS hb hbt))) (St.HH hp u i) (r.obj u i)
 ·by_cases hc : u = t /\ i = j
  ·simp only [hc, and_self, if_true] at lP ⊢; exact ir b' lP
  ·simp only [hc, if_false] at lP ⊢; exact r.ub u i b' (iz u i lA) lP
 ·rw [iZ]
  by_cases hc : u = t /\ i = j
  ·simp only [hc, and_self, if_true] at lP
   rcases hu b' lP with h1 | h1
   ·exact r.own t j b' lS h1
   ·have := hM b' h1; exact ⟨this.1, this.2.1, this.2.2.1⟩
  ·simp only [hc, if_false] at lP; exact r.own u i b' (iz u i lA) lP
 ·by_cases hc : u = t /\ i = j
  ·by_cases l7 : u' = t /\ i' = j
   ·exact ⟨by rw [hc.1, l7.1], by rw [hc.2, l7.2]⟩
   ·simp only [hc, and_self, if_true] at ig
    simp only [l7, if_false] at l0
    rcases hu b' ig with h1 | h1
    ·have := r.inj t j u' i' b' lS (iz u' i' l8) h1 l0
     rw [hc.1, hc.2]; exact this
    ·exact absurd l0 ((hM b' h1).2.2.2 u' i' (iz u' i' l8))
  ·by_cases l7 : u' = t /\ i' = j
   ·simp only [l7, and_self, if_true] at l0
    simp only [hc, if_false] at ig
    rcases hu b' l0 with h1 | h1
    ·have := r.inj u i t j b' (iz u i lA) lS ig h1
     rw [l7.1, l7.2]; exact this
    ·exact absurd ig ((hM b' h1).2.2.2 u i (iz u i lA))
   ·simp only [hc, if_false] at ig
    simp only [l7, if_false] at l0
    exact r.inj u i u' i' b' (iz u i lA) (iz u' i' l8) ig l0
theorem Rel.vP (r : Rel T0 B σ a w X h) (lS : σ.ob t j ≠ .none) (iZ : w'.heap.size = w.heap.size) (hw : ∀ k, ¬ (h t j).u k -> w'.heap[k]? = w.heap[k]?)
  (o' : Ob) (fL : (σ.ob t j).uo o') (eg : J0 (Tof T0 X) h (σ.Zu t j o').ob w' (h t j) o') : Rel T0 B (σ.Zu t j o') a w' X h := by
 have hh : (fun u i => if u = t /\ i = j then h t j else h u i) = h := by
  funext u i
  by_cases hc : u = t /\ i = j
  ·simp [hc]
  ·simp [hc]
 have := r.change lS iZ hw (fun _ => False) (fun _ hh => hh.elim) o' fL (h t j) rfl (fun b hb => .inl hb) (fun b hb => r.ub t j b lS hb) (fun _ => false) (St.qH σ) (.inr rfl) (by rw [hh]; exact eg)
 rw [hh] at this; exact this
theorem run_store {T : TypeId} {ti : TypeInfo} (hi : P.info? T = some ti) {o : Nat} {e : TypeId} (hg : w.heap[g]? = some (.cells cur e (0, 0))) (iZ : val.cells.size = P.cellsOf T) (hle : o + P.cellsOf T <= cur.size) (h1 : ∀ u ∈ val.cells.toList, u.oneCell' = true) :
  (Instr.storeAt T (.pointer (some ⟨g, o, none⟩)) val).run P w = .ok () (w.setRow g (place cur.toList o val.cells.toList).toArray) := by
 have ld := run_storeCells_at P g o e val.cells.toList 0 cur w hg zAk h1
 have lA : ¬ val.cells.size ≠ P.cellsOf T := zAA
 simp only [Instr.storeAt, Instr.sureAddr, storeVar, Sem.run_bind, Sem.run_pure, Result.andThen_ok, Kb hi, if_neg lA]
 rw [ld]
 simp [place]
theorem Y8.setRow (hg : ¬ B g) (cs : Array Value) : Y8 B w (w.setRow g cs) :=
 ⟨rfl, rfl, rfl, by simp [World.setRow], fun k hk => setRow_other w g k cs (fun e => hg (e ▸ hk))⟩
theorem Hz (r : Rel T0 B σ a w X h) {T : TypeId} (my : o.op = .store T x y) (hd : o.dst = none) (ht : qT P T = true) (fx : gOf (look P σ 0 x) = true) (fy : gOf (look P σ T y) = true)
  (hx : unc (look P σ 0 x) = .one (.bptr t c)) {cells : List At} (ho : σ.ob t 0 = .box cells) (hE : (unc (look P σ T y)).flat = true) (hl : (unc (look P σ T y)).cells.length = P.cellsOf T) (hle : c + P.cellsOf T <= cells.length)
  (hK : ∀ a' w', Jz T0 B (σ.Zu t 0 (.box (place cells c (unc (look P σ T y)).cells))) a' w' -> Y8 B w w' -> K a' w') : o.wp P a w K Q := by
 obtain ⟨_, ti, _, hi, _, _⟩ := WK ht
 have hax := r.arg (P := P) 0 x hx fx
 obtain ⟨b, cs, e, hb, he, hh, lC⟩ := r.box ho hax
 have hy := Wf hE (r.arg (P := P) T y rfl fy)
 have gM := hy.length
 have lp := lC.length
 have e1 : cs.toList.length = cs.size := Array.length_toList
 have e2 : (a.eval y).cells.toList.length = (a.eval y).cells.size := Array.length_toList
 have lT := run_store (P := P) (w := w) hi (o := c) (val := a.eval y) hh zAA zAA (fun u hu => by obtain ⟨x', _, eR⟩ := hy.mem hu; exact YF.QL eR)
 have lS : σ.ob t 0 ≠ .none := zAr
 have lk : blk (h t 0).v = some b := by rw [hb]; rfl
 have hB := r.pd lS lk
 have ir := r.ub t 0 b lS lk
 unfold Oper.wp
 simp only [execOp, my, he, Sem.run_bind, lT, Result.andThen_ok, Sem.run_pure, Oper.upon_skip, hd]
 refine hK _ _ ⟨X, h, ?_⟩ (Y8.setRow hB.1 _)
 have hJ := setRow_heap w b cs (place cs.toList c (a.eval y).cells.toList).toArray e (0, 0) hh
 refine r.vP lS zBy (fun k hk => setRow_other w b k _ (fun e => hk (e ▸ ir))) _ (by rw [ho]; trivial) ?_
 have r2 : Rel T0 B (σ.Zu t 0 (.box (place cells c (unc (look P σ T y)).cells))) a (w.setRow b (place cs.toList c (a.eval y).cells.toList).toArray) X h -> True := fun _ => trivial
 have hT : ∀ b' k v, Tof T0 X b' k -> w.cell? ⟨b', k, none⟩ = some v -> (w.setRow b (place cs.toList c (a.eval y).cells.toList).toArray).cell? ⟨b', k, none⟩ = some v /\ Tof T0 X b' k := by
  intro b' k v lP lJ
  refine ⟨?_, lP⟩
  have lA : b' ≠ b := by
   rintro rfl
   rcases lP with lP | lP
   ·exact hB.1 (r.hT _ _ lP)
   ·exact hB.2.1 lP
  rw [World.cell?_of_block (setRow_other w b b' _ lA)]; exact lJ
 have iw : ∀ u i, ¬ (u = t /\ i = 0) -> (σ.Zu t 0 (.box (place cells c (unc (look P σ T y)).cells))).ob u i = σ.ob u i := by
  intro u i lA
  rw [St.Xo σ t 0 _ u i lS, if_neg lA]
 have iq : (σ.Zu t 0 (.box (place cells c (unc (look P σ T y)).cells))).ob t 0 = .box (place cells c (unc (look P σ T y)).cells) := by rw [St.Xo σ t 0 _ t 0 lS]; simp
 have hcp : ∀ u i, Cpt h h σ.ob (σ.Zu t 0 (.box (place cells c (unc (look P σ T y)).cells))).ob u i := by
  intro u i
  by_cases hu : u = t /\ i = 0
  ·obtain ⟨rfl, rfl⟩ := hu
   refine ⟨fun q size rows lb => ?_, fun size rows lb => ?_, fun lI lb => ⟨rfl, cells, ho⟩⟩
   ·rw [iq] at lb; cases lb
   ·rw [iq] at lb; cases lb
  ·exact Cpt.same rfl (iw u i hu)
 have at_ : ∀ {x : At} {v : Value}, YF (Tof T0 X) h σ.ob w x v -> YF (Tof T0 X) h (σ.Zu t 0 (.box (place cells c (unc (look P σ T y)).cells))).ob (w.setRow b (place cs.toList c (a.eval y).cells.toList).toArray) x v := fun rx => YF.sL hT hcp rx
 refine ⟨b, _, e, hb, hJ, ?_⟩
 have := (lC.place c hy).imp (fun _ _ => at_)
 simpa using this
open Go.RowKit
variable {ds zr es : List D} {l : List UInt8}
theorem xX {α : Type} (size c : Nat) (ds : List α) (hc : c + ds.length <= size) : ∀ (rows : List (List α)) (i : Nat) (row : List α), rows[i]? = some row -> (∀ r ∈ rows, r.length = size) ->
  (rows.set i (place row c ds)).flatten = place rows.flatten (i * size + c) ds
 | [], i, row, hr, _ => by simp at hr
 | r0 :: rows, 0, row, hr, hz => by
  simp at hr; subst hr
  have h0 : r0.length = size := hz r0 zAF
  simp only [List.set_cons_zero, List.flatten_cons, place, Nat.zero_mul, Nat.zero_add]
  rw [List.take_append_of_le_length zAA, List.drop_append_of_le_length zAA]
  simp
 | r0 :: rows, i + 1, row, hr, hz => by
  have h0 : r0.length = size := hz r0 zAF
  have ih := xX size c ds hc rows i row (by simpa using hr) (fun r hr => hz r zBx)
  rw [List.set_cons_succ, List.flatten_cons, ih, List.flatten_cons]
  unfold place
  have e1 : (i + 1) * size + c = r0.length + (i * size + c) := by rw [h0, Nat.add_mul]; omega
  have e2 : (i + 1) * size + c + ds.length = r0.length + (i * size + c + ds.length) := by rw [h0, Nat.add_mul]; omega
  rw [e2, e1, List.take_length_add_append, List.drop_length_add_append]
  simp
theorem OU {α : Type} (l : List α) (n off : Nat) (xs : List α) (hl : off + xs.length <= n) (hn : n <= l.length) : (place l off xs).take n = place (l.take n) off xs := by
 unfold place
 rw [List.take_take, Nat.min_eq_left zAA, List.drop_take]
 rw [List.take_append, List.take_append]
 simp only [List.length_append, List.length_take]
 rw [Nat.min_eq_left zAA, List.take_of_length_le (l := List.take off l) zAk, List.take_of_length_le (l := xs) zAA]
theorem kn {α : Type} (l : List α) (o : Nat) (xs : List α) (hl : o + xs.length <= l.length) (k : Nat) (v : α) (hv : (place l o xs)[k]? = some v) :
  (o <= k /\ k < o + xs.length /\ xs[k - o]? = some v) \/ (¬ (o <= k /\ k < o + xs.length) /\ l[k]? = some v) := by
 unfold place at hv
 have h1 : (l.take o).length = o := zAk
 rcases Nat.lt_or_ge k o with hk | hk
 ·rw [List.append_assoc, List.getElem?_append_left zAA, List.getElem?_take, if_pos hk] at hv
  exact .inr ⟨zAA, hv⟩
 ·rw [List.append_assoc, List.getElem?_append_right zAA, h1] at hv
  rcases Nat.lt_or_ge (k - o) xs.length with cO | cO
  ·rw [List.getElem?_append_left cO] at hv
   exact .inl ⟨hk, zAA, hv⟩
  ·rw [List.getElem?_append_right cO, List.getElem?_drop] at hv
   refine .inr ⟨zAA, ?_⟩
   rw [show o + xs.length + (k - o - xs.length) = k by omega] at hv; exact hv
theorem H6 (r : Rel T0 B σ a w X h) {T : TypeId} (my : o.op = .store T x y) (hd : o.dst = none) (ht : qT P T = true) (fx : gOf (look P σ 0 x) = true) (fy : gOf (look P σ T y) = true)
  (hx : unc (look P σ 0 x) = .one (.ptr t j i c)) (ho : σ.ob t j = .arr q size rows) (hi : i < rows.length) (hE : (unc (look P σ T y)).flat = true) (dQ : rowOf σ (unc (look P σ T y)).cells = some ds) (ld : zb (unc (look P σ T y)).cells = true)
  (hl : ds.length = P.cellsOf T) (hle : c + P.cellsOf T <= size) (hq : q = true -> (∀ d ∈ ds, d.scalar = true) /\ ∀ k d, k < P.cellsOf T -> (rows.getD i [])[c + k]? = some d -> d.scalar = true)
  (hK : ∀ a' w', Jz T0 B (σ.Zu t j (.arr q size (rows.set i (place (rows.getD i []) c ds)))) a' w' -> Y8 B w w' -> K a' w') : o.wp P a w K Q := by
 obtain ⟨_, ti, _, hti, _, _⟩ := WK ht
 have hax := r.arg (P := P) 0 x hx fx
 obtain ⟨b, cap, cur, e, xs, hb, he, hh, hQ, gb, ga, g6, hz, ei, lC, lE⟩ := r.arr ho hax
 have hy := Wf hE (r.arg (P := P) T y rfl fy)
 have aK := r.rowOf true dQ hy (fun _ => ld)
 simp only [if_true] at aK
 have gM := aK.length
 have e2 : (a.eval y).cells.toList.length = (a.eval y).cells.size := Array.length_toList
 have e3 : cur.toList.length = cur.size := Array.length_toList
 have lv : rows[i]? = some (rows.getD i []) := zAp
 have hmul : i * size + size <= rows.length * size := zBP
 have aL : rows.length * size <= cap * size := Nat.mul_le_mul_right _ hQ
 have lT := run_store (P := P) (w := w) hti (o := i * size + c) (val := a.eval y) hh zAA zAA (fun u hu => by obtain ⟨x', _, eR⟩ := hy.mem hu; exact YF.QL eR)
 have lS : σ.ob t j ≠ .none := zAr
 have lk : blk (h t j).v = some b := by rw [hb]; rfl
 have hB := r.pd lS lk
 have ir := r.ub t j b lS lk
 unfold Oper.wp
 simp only [execOp, my, he, Sem.run_bind, lT, Result.andThen_ok, Sem.run_pure, Oper.upon_skip, hd]
 refine hK _ _ ⟨X, h, ?_⟩ (Y8.setRow hB.1 _)
 refine r.vP lS zBy (fun k hk => setRow_other w b k _ (fun e => hk (e ▸ ir))) _ (by rw [ho]; simp [Ob.uo]) ?_
 have hJ := setRow_heap w b cur (place cur.toList (i * size + c) (a.eval y).cells.toList).toArray e (0, 0) hh
 have hT : ∀ b' k v, Tof T0 X b' k -> w.cell? ⟨b', k, none⟩ = some v -> (w.setRow b (place cur.toList (i * size + c) (a.eval y).cells.toList).toArray).cell? ⟨b', k, none⟩ = some v /\ Tof T0 X b' k := by
  intro b' k v lP lJ
  refine ⟨?_, lP⟩
  have lA : b' ≠ b := by
   rintro rfl
   rcases lP with lP | lP
   ·exact hB.1 (r.hT _ _ lP)
   ·exact hB.2.1 lP
  rw [World.cell?_of_block (setRow_other w b b' _ lA)]; exact lJ
 have dk : xs.length = rows.length * size := by rw [ei, YM rows size hz]
 have eE : (rows.getD i []).length = size := hz _ (List.mem_of_getElem? lv)
 have iK : (w.setRow b (place cur.toList (i * size + c) (a.eval y).cells.toList).toArray).ownsRow 0 e size (h t j).v (rows.set i (place (rows.getD i []) c ds)).length (place xs (i * size + c) (a.eval y).cells.toList) := by
  refine ⟨?_, .inr ⟨b, cap, _, by simpa using hb, Nat.zero_le _, hJ, by simpa using hQ, gb, ?_, ?_⟩⟩
  ·rw [X1 _ _ _ zAA, dk]; simp
  ·simp only [List.size_toArray]
   rw [X1 _ _ _ zAA, e3, ga]
  ·simp only [List.length_set]
   rw [OU _ _ _ _ zAA zAA, g6]
 have g8 : ∀ r ∈ rows.set i (place (rows.getD i []) c ds), r.length = size := by
  intro r' iu
  rcases List.mem_or_eq_of_mem_set iu with iu | iu
  ·exact hz r' iu
  ·rw [iu, X1 _ _ _ zAA, eE]
 cases q with
 | false =>
  refine ⟨e, _, iK, g8, ?_⟩
  rw [xX size c ds zAA rows i _ lv hz]
  exact ((lC rfl).imp fun _ _ => Rd.mono hT).place _ (aK.imp fun _ _ => Rd.mono hT)
 | true =>
  obtain ⟨⟨_, Sk, h1, h2, h3⟩, hn⟩ := lE rfl
  obtain ⟨hq1, hq2⟩ := hq rfl
  have lJ : ∀ k u, (place xs (i * size + c) (a.eval y).cells.toList)[k]? = some u -> (i * size + c <= k /\ k < i * size + c + ds.length /\ (a.eval y).cells.toList[k - (i * size + c)]? = some u) \/ (¬ (i * size + c <= k /\ k < i * size + c + ds.length) /\ xs[k]? = some u) := by
   intro k u hu
   exact kn xs _ _ zAA k u hu |>.imp (fun hh => ⟨hh.1, zAA, hh.2.2⟩) (fun hh => ⟨by rw [<- gM]; exact hh.1, hh.2⟩)
  have dL : ∀ k d, (rows.set i (place (rows.getD i []) c ds)).flatten[k]? = some d -> (i * size + c <= k /\ k < i * size + c + ds.length /\ ds[k - (i * size + c)]? = some d) \/ (¬ (i * size + c <= k /\ k < i * size + c + ds.length) /\ rows.flatten[k]? = some d) := by
   intro k d gY
   rw [xX size c ds zAA rows i _ lv hz] at gY
   exact kn _ _ _ (by rw [YM rows size hz]; omega) k d gY
  refine ⟨e, _, iK, g8, ⟨?_, Sk, fun k u d hu gY => ?_, h2, h3⟩, fun k u d hu gY ib => ?_⟩
  ·rw [X1 _ _ _ zAA, ei, YM rows size hz, YM _ size g8]; simp
  ·rcases lJ k u hu with ⟨p1, p2, p3⟩ | ⟨p1, p3⟩
   ·rcases dL k d gY with ⟨_, _, p4⟩ | ⟨p4, _⟩
    ·obtain ⟨d', lL, iu⟩ := aK.get _ _ p3
     rw [p4] at lL; cases lL
     have hs := hq1 d (List.mem_of_getElem? p4)
     cases iu with
     | int k n => exact .int _ _ _
     | bool b => exact .bool _ _
     | str s => exact .str _ _
     | unk v h => exact .unk _ h _
     | nil => simp [D.scalar] at hs
     | sl => simp [D.scalar] at hs
    ·exact absurd ⟨p1, p2⟩ p4
   ·rcases dL k d gY with ⟨p4, p5, _⟩ | ⟨_, p4⟩
    ·exact absurd ⟨p4, p5⟩ p1
    ·refine (h1 k u d p3 p4).Nd (fun b' lP => setRow_other w b b' _ ?_)
     rintro rfl
     exact (h2 k b' lP).2 lk
  ·rcases dL k d gY with ⟨p4, p5, p6⟩ | ⟨p4, p6⟩
   ·have := hq1 d (List.mem_of_getElem? p6)
    rw [ib] at this; cases this
   ·rcases lJ k u hu with ⟨p1, p2, _⟩ | ⟨_, p3⟩
    ·exact absurd ⟨p1, p2⟩ p4
    ·exact hn k u d p3 p6 ib
open Go.RowKit
variable {z : List At} {base : Option Addr}
theorem M7 (t ty e e0 : TypeId) (i : TypeInfo) (ht : P.underlying t = some (.slice e)) (hi : P.info? e = some i)
  (g dM ax : Nat) (cur : Array Value) (hg : w.heap[g]? = some (.cells cur e0 (0, 0)))
  (a : Addr) (m c : Nat) (news : List Value) (hl : news.length = m * i.size) (hU : ∀ j u, news[j]? = some u -> w.cell? (a.add j) = some u) (h1 : ∀ u ∈ news, u.oneCell' = true)
  (eh : dM + m <= ax) (ay : dM * i.size + news.length <= cur.size) :
  (Builtin.append_ #[t, t] ty #[.slice (some ⟨g, 0, none⟩) dM ax, .slice (some a) m c]).run P w =
   .ok (.slice (some ⟨g, 0, none⟩) (dM + m) ax) (w.setRow g (cur.toList.take (dM * i.size) ++ news ++ cur.toList.drop (dM * i.size + news.length)).toArray) := by
 have hf := run_firstCells_some (P := P) w i.size m a m c news hl hU
 have ld := run_storeCells_at P g (dM * i.size) e0 news 0 cur w hg (by simpa using ay) h1
 simp only [Nat.add_zero] at ld
 simp [Builtin.append_, run_underlying ht, sizeOf, typeInfo, hi, Builtin.lenOf, eh, hf, Addr.add_lit, ld]
theorem Rz (t ty e e0 : TypeId) (i : TypeInfo) (z : Value) (ht : P.underlying t = some (.slice e)) (hi : P.info? e = some i) (hz : i.zero = some z)
  (fk : z.cells.size = i.size) (iZ : 0 < i.size) (v : Value) (n : Nat) (xs : List Value) (lE : w.ownsRow 0 e0 i.size v n xs)
  (a : Addr) (m c : Nat) (news : List Value) (hl : news.length = m * i.size) (hU : ∀ j u, news[j]? = some u -> w.cell? (a.add j) = some u) (h1 : ∀ u ∈ news, u.oneCell' = true)
  (h63 : n + m <= maxLen) (iL : (n + m) * i.bytes <= 140737488355328) :
  ∃ v' w' e1, (Builtin.append_ #[t, t] ty #[v, .slice (some a) m c]).run P w = .ok v' w' /\ w'.ownsRow 0 e1 i.size v' (n + m) (xs ++ news) /\ w.grownBy w' (blk v) /\
   (∀ b, blk v' = some b -> (w.heap.size <= b /\ b < w'.heap.size) \/ blk v = some b) := by
 have hlen : (xs ++ news).length = (n + m) * i.size := by rw [List.length_append, lE.1, hl, Nat.add_mul]
 rcases lE.2 with ⟨rfl, rfl⟩ | ⟨g, cap, cur, rfl, _, hg, gh, bS, ga, htake⟩
 ·have hx : xs = [] := List.eq_nil_of_length_eq_zero (by simpa using lE.1)
  subst hx
  obtain ⟨v', w', hr, ho, fA, _⟩ := run_append_own (P := P) w w.heap.size t ty e i z i.size i.bytes ht hi hz rfl rfl fk iZ (.slice none 0 0) 0 [] (World.ownsRow_nil w _ e i.size) a m c news hl hU h1 h63 iL (Nat.le_refl _)
  refine ⟨v', w', e, hr, ?_, fA, fun b hb => .inl ?_⟩
  ·refine ⟨ho.1, ho.2.imp id ?_⟩
   rintro ⟨g, cap, cur, hv, _, rest⟩
   exact ⟨g, cap, cur, hv, Nat.zero_le _, rest⟩
  ·have lP : v'.ownBlock = some b := by
    cases v' with
    | slice o l c => cases o with
     | none => simp [blk] at hb
     | some ad => simpa [blk, Value.ownBlock] using hb
    | pointer o => rcases ho.2 with ⟨hv, _⟩ | ⟨g, cap, cur, hv, _⟩ <;> cases hv
    | _ => simp [blk] at hb
   exact ho.lt b lP
 ·by_cases eh : n + m <= cap
  ·have ay : n * i.size + news.length <= cur.size := by rw [hl, ga, <- Nat.add_mul]; exact Nat.mul_le_mul_right _ eh
   have hr := M7 (P := P) (w := w) t ty e e0 i ht hi g n cap cur hg a m c news hl hU h1 eh ay
   refine ⟨_, _, e0, hr, ⟨hlen, .inr ⟨g, cap, _, rfl, Nat.zero_le _, setRow_heap w g cur _ e0 _ hg, eh, bS, ?_, ?_⟩⟩, ⟨rfl, rfl, rfl, by simp [World.setRow], fun k _ hk => setRow_other w g k _ (fun e => hk (by simp [blk, e]))⟩, fun b hb => .inr (by simpa [blk] using hb)⟩
   ·simp only [List.size_toArray, List.length_append, List.length_take, List.length_drop, Array.length_toList]
    omega
   ·rw [htake, <- hlen]
    exact List.take_left
  ·have holds : ∀ j u, xs[j]? = some u -> w.cell? ((⟨g, 0, none⟩ : Addr).add j) = some u := lE.cells (g := g) rfl
   have hsmall : n + m <= 9223372036854775807 := by simp only [maxLen] at h63; omega
   have hr := run_append_grow (P := P) w t ty e i z ht hi hz ⟨g, 0, none⟩ n cap xs lE.1 holds a m c news hl hU zAA zAA (growslice_fits zAA iL)
   have fY := grownCap_ge w (n + m) cap e
   have hcm2 : grownCap w (n + m) cap e <= maxLen := grownCap_le_maxLen w (n + m) cap e h63
   refine ⟨_, _, e, hr, ⟨hlen, .inr ⟨w.heap.size, _, _, rfl, Nat.zero_le _, heap_alloc_new w.drew _, fY, hcm2, ?_, ?_⟩⟩, ⟨rfl, rfl, rfl, zAF, fun k hk _ => (World.grownBy_alloc w.drew _ none).block k hk zAF⟩, fun b hb => .inl ?_⟩
   ·simp only [Array.size_append, List.size_toArray, size_zeroCells, fk, lE.1, hl, <- Nat.add_mul]
    congr 1
    omega
   ·simp only [Array.toList_append, List.append_assoc]
    rw [<- List.append_assoc, <- hlen]
    exact List.take_left
   ·simp [blk] at hb; subst hb; simp
theorem V5 (t ty e : TypeId) (i : TypeInfo) (ht : P.underlying t = some (.slice e)) (hi : P.info? e = some i) (base : Option Addr) (n cap : Nat) (gh : n <= cap) (hb : base = none -> cap = 0) :
  (Builtin.append_ #[t, t] ty #[.slice base n cap, .slice none 0 0]).run P w = .ok (.slice base n cap) w := by
 cases base with
 | none =>
  have := hb rfl; subst this
  have : n = 0 := zAA
  subst this
  simp [Builtin.append_, run_underlying ht, sizeOf, typeInfo, hi, Builtin.lenOf, Builtin.firstCells]
 | some ad => simp [Builtin.append_, run_underlying ht, sizeOf, typeInfo, hi, Builtin.lenOf, Builtin.firstCells, gh, storeCells]
theorem Rel.less (r : Rel T0 B σ a w X h) (hl : σ'.length = σ.length) (ic : ∀ t, σ'.get t = σ.get t) (hk : ∀ t j, σ'.ob t j ≠ .none -> σ'.ob t j = σ.ob t j) : Rel T0 B σ' a w X h := by
 have back : ∀ t j o, σ'.ob t j = o -> o ≠ .none -> σ.ob t j = o := by
  intro t j o ho lA
  rw [<- hk t j (by rw [ho]; exact lA)]; exact ho
 have at_ : ∀ {x : At} {v : Value}, (fun _ : At => false) x = false -> YF (Tof T0 X) h σ.ob w x v -> YF (Tof T0 X) h σ'.ob w x v := by
  intro x v _ rx
  cases x with
  | any => exact rx
  | d x => exact rx
  | nil s => exact rx
  | sref u i lo len => exact ⟨rx.1, fun q size rows ho => rx.2.1 q size rows (back u i _ ho zAF), fun size rows ho => rx.2.2 size rows (back u i _ ho zAF)⟩
  | ptr u i k c => exact ⟨rx.1, fun q size rows ho => rx.2 q size rows (back u i _ ho zAF)⟩
  | bptr u c => exact ⟨rx.1, fun cells ho => rx.2 cells (back u 0 _ ho zAF)⟩
  | fn f u => exact ⟨rx.1, fun cells ho => rx.2 cells (back u 0 _ ho zAF)⟩
  | tref u i k c o => exact ⟨rx.1, fun size rows ho => rx.2 size rows (back u i _ ho zAF)⟩
  | rptr rr c => exact rx
 have iz : ∀ u i, σ'.ob u i ≠ .none -> σ.ob u i ≠ .none := fun u i hn => by rw [<- hk u i hn]; exact hn
 refine ⟨by rw [r.size, hl], r.defers, r.hB, r.hX, r.hT, fun u hu => ?_, fun u i => ?_, fun u i b hn => r.ub u i b (iz u i hn), fun u i b hn => r.own u i b (iz u i hn), fun u i u' i' b hn iE => r.inj u i u' i' b (iz u i hn) (iz u' i' iE)⟩
 ·rw [ic u]; exact JP.map at_ (qH _) (r.slot u zAA)
 ·by_cases hn : σ'.ob u i = .none
  ·rw [hn]; trivial
  ·rw [hk u i hn]
   exact J0.map at_ (fun b k v hb hc => ⟨hc, hb⟩) (fun ho b => r.ub u i b ho) (fun _ _ _ => rfl) (VR _) (r.obj u i)
theorem St.TE (σ : St) (t j u i : Nat) : (σ.Zu t j .none).ob u i = if u = t /\ i = j then .none else σ.ob u i := by
 by_cases lS : σ.ob t j = .none
 ·have key : ∀ (σ : St) (t u : Nat), σ.ob t j = .none -> (σ.Zu t j .none).ob u i = σ.ob u i := by
   intro σ
   induction σ with
   | nil => intro t u _; simp [St.Zu]
   | cons e σ ih =>
    intro t u ho
    cases t with
    | zero => cases u with
     | zero =>
      simp only [St.Zu, St.ob, List.getElem?_cons_zero, Bk] at ho ⊢
      split
      ·rename_i hh; rw [hh.1, ho]
      ·rfl
     | succ u => simp [St.Zu, St.ob]
    | succ t => cases u with
     | zero => simp [St.Zu, St.ob]
     | succ u =>
      have := ih t u (by simpa [St.ob] using ho)
      simp only [St.ob, St.Zu] at this ⊢; simpa using this
  rw [key σ t u lS]
  split
  ·rename_i hh; rw [hh.1, hh.2]; exact lS
  ·rfl
 ·exact St.Xo σ t j _ u i lS
theorem Rel.drop (r : Rel T0 B σ a w X h) (t j : Nat) : Rel T0 B (σ.Zu t j .none) a w X h := by
 refine r.less (St.XW _ _ _ _) (fun u => St.QI _ _ _ _ u) (fun u i hn => ?_)
 rw [St.TE] at hn ⊢
 split
 ·rename_i hh; rw [if_pos hh] at hn; exact absurd rfl hn
 ·rfl
def St.Zz : St -> List (Nat × Nat) -> St
 | σ, [] => σ
 | σ, p :: l => St.Zz (σ.Zu p.1 p.2 .none) l
theorem St.KS : ∀ (l : List (Nat × Nat)) (σ : St), (σ.Zz l).length = σ.length
 | [], σ => rfl
 | p :: l, σ => by rw [St.Zz, St.KS l, St.XW]
theorem St.yr : ∀ (l : List (Nat × Nat)) (σ : St) (t : Nat), (σ.Zz l).get t = σ.get t
 | [], σ, t => rfl
 | p :: l, σ, t => by rw [St.Zz, St.yr l, St.QI]
theorem St.Kn : ∀ (l : List (Nat × Nat)) (σ : St) (t j : Nat), (σ.Zz l).ob t j = if (t, j) ∈ l then .none else σ.ob t j
 | [], σ, t, j => by simp [St.Zz]
 | p :: l, σ, t, j => by
  rw [St.Zz, St.Kn l, St.TE]
  by_cases h1 : (t, j) ∈ l
  ·simp [h1]
  ·by_cases h2 : t = p.1 /\ j = p.2
   ·have : (t, j) = p := by rw [h2.1, h2.2]
    rw [if_neg h1, if_pos h2, if_pos (by rw [this]; simp)]
   ·have : ¬ (t, j) = p := fun e => h2 (by rw [<- e]; exact ⟨rfl, rfl⟩)
    simp [h1, h2, this]
theorem Rel.Zz (r : Rel T0 B σ a w X h) (l : List (Nat × Nat)) : Rel T0 B (σ.Zz l) a w X h := by
 refine r.less (St.KS l σ) (St.yr l σ) (fun u i hn => ?_)
 rw [St.Kn] at hn ⊢
 split
 ·rename_i hh; rw [if_pos hh] at hn; exact absurd rfl hn
 ·rfl
open Go.RowKit
theorem xO {T : TypeId} (hz : Qc P T = true) : ∃ i z row, P.info? T = some i /\ i.zero = some z /\ Wa P 12 T = some row /\ i.size = row.length /\ z.cells.size = i.size /\ i.size = P.cellsOf T /\ (∀ T' h ob w, Z9 (YF T' h ob w) row z.cells.toList) := by
 have gx : ∃ row, Wa P 12 T = some row := by
  unfold Qc at hz
  split at hz
  ·rename_i row i hr hi; exact ⟨row, hr⟩
  ·cases hz
 obtain ⟨row, hr⟩ := gx
 obtain ⟨i, z, hi, fU, iZ, lC⟩ := GF hz hr
 refine ⟨i, z, row, hi, fU, hr, iZ, ?_, by simp [Program.cellsOf, hi], lC⟩
 have := (lC (fun _ _ => True) (fun _ _ => Hd.of undef) (fun _ _ => .none) default).length
 have e1 : z.cells.toList.length = z.cells.size := Array.length_toList
 omega
def WS (σ : St) (x : V) (size : Nat) (news : List (List D)) : Prop :=
 match x with
 | .one (.d (.sl s rows)) => s = size /\ news = rows
 | .one (.nil _) => news = []
 | .one (.sref t j lo len) => ∃ rows, σ.ob t j = .arr false size rows /\ lo + len <= rows.length /\ news = cut rows lo len
 | _ => False
def SV (σ : St) (x : V) (size : Nat) (lB : List (List D)) (σ1 : St) : Prop :=
 match x with
 | .one (.nil _) => lB = [] /\ σ1 = σ
 | .one (.sref t j lo len) => ∃ rows, σ.ob t j = .arr false size rows /\ lo = 0 /\ len <= rows.length /\ lB = rows.take len /\ σ1 = σ.Zu t j .none
 | _ => False
theorem VZ (v : Value) (n : Nat) : blk (N9 v n) = blk v := by
 cases v with
 | slice o _ _ => cases o <;> rfl
 | _ => rfl
theorem Ks (rows : List (List D)) (size : Nat) (hz : ∀ r ∈ rows, r.length = size) (len : Nat) (hle : len <= rows.length) : (rows.take len).flatten = rows.flatten.take (len * size) := by
 induction rows generalizing len with
 | nil => simp
 | cons r rows ih =>
  cases len with
  | zero => simp
  | succ len =>
   have h1 := hz r zAF
   have h2 := ih (fun q hq => hz q (by simp [hq])) len (by simpa using hle)
   have h3 : (len + 1) * size = r.length + len * size := by rw [Nat.add_mul, h1]; omega
   rw [List.take_succ_cons, List.flatten_cons, List.flatten_cons, h2, h3, List.take_length_add_append]
theorem j7 {e : TypeId} {xs : List Value} (ho : w.ownsRow 0 e size v n xs) (hle : len <= n) : w.ownsRow 0 e size (N9 v len) len (xs.take (len * size)) := by
 have hm : len * size <= n * size := Nat.mul_le_mul_right _ hle
 refine ⟨by rw [List.length_take, ho.1]; omega, ?_⟩
 rcases ho.2 with ⟨rfl, rfl⟩ | ⟨g, cap, cur, rfl, hx, hg, gh, bS, ga, g6⟩
 ·have : len = 0 := zAA
  subst this
  exact .inl ⟨rfl, rfl⟩
 ·refine .inr ⟨g, cap, cur, rfl, hx, hg, zAA, bS, ga, ?_⟩
  rw [<- g6, List.take_take]
  congr 1
  omega
theorem Ex (r : Rel T0 B σ a w X h) {x : V} (hs : WS σ x size news) (hv : JP (Tof T0 X) h σ.ob w x v) :
  (∀ n ∈ news, n.length = size) /\ ((v = .slice none 0 0 /\ news = []) \/ ∃ ad c xs, v = .slice (some ad) news.length c /\ (∀ j u, xs[j]? = some u -> w.cell? (ad.add j) = some u) /\ Z9 (Rd (Tof T0 X) w) xs news.flatten) := by
 unfold WS at hs
 split at hs
 ·rename_i s rows
  obtain ⟨rfl, rfl⟩ := hs
  refine ⟨EK (show Rd _ _ _ _ from hv), ?_⟩
  cases (show Rd _ _ _ _ from hv) with
  | nil => exact .inl ⟨rfl, rfl⟩
  | sl ad len cap s rows g hl hc hm hz da hg hr =>
   refine .inr ⟨ad, cap, (List.range news.flatten.length).map g, by rw [hl], fun j u hu => ?_, ?_⟩
   ·rw [List.getElem?_map] at hu
    rcases Nat.lt_or_ge j news.flatten.length with hj | hj
    ·rw [List.getElem?_range hj] at hu
     cases hu
     have lA : news.flatten ≠ [] := by intro he; rw [he] at hj; simp at hj
     have := (hg j _ (List.getElem?_eq_getElem hj)).1
     obtain ⟨b, off, sp⟩ := ad
     have := da lA
     simp at this; subst this
     rw [xx]; assumption
    ·rw [List.getElem?_eq_none (by simpa using hj)] at hu; cases hu
   ·refine Z9.xk zAF (fun k u d hu hd => ?_)
    rw [List.getElem?_map] at hu
    have hk := (List.getElem?_eq_some_iff.1 hd).1
    rw [List.getElem?_range hk] at hu
    cases hu
    exact hr k d hd
 ·subst hs
  exact ⟨(by intro n hn; cases hn), .inl ⟨hv, rfl⟩⟩
 ·rename_i t j lo len
  obtain ⟨rows, ho, hle, rfl⟩ := hs
  have h0 := r.obj t j
  rw [ho] at h0
  obtain ⟨e, xs, ⟨hl, lE⟩, hz, lC⟩ := h0
  refine ⟨fun x hx => hz x (List.mem_of_mem_drop (List.mem_of_mem_take hx)), ?_⟩
  have fD : YF (Tof T0 X) h σ.ob w (.sref t j lo len) v := hv
  obtain ⟨_, _, _, base, cap, rfl, hQ, _, fz, hb⟩ := fD.2.1 _ size rows ho
  have lp : (cut rows lo len).length = len := XQ _ _ _ hle
  by_cases iS : 0 < len
  ·obtain ⟨b, fj, hh, rfl⟩ := hb iS
   rcases lE with ⟨hn, _⟩ | ⟨g, cA, cur, fD, _, aq, gh, gb, ga, g6⟩
   ·rw [hh] at hn; cases hn
   ·rw [hh] at fD; cases fD
    refine .inr ⟨_, cap, cut xs (lo * size) (len * size), by rw [lp], fun j u hu => ?_, ?_⟩
    ·have h1 := zq _ _ _ _ _ hu
     rw [xx]
     refine zc aq _ _ ?_
     rw [<- g6, List.getElem?_take] at h1
     split at h1
     ·exact h1
     ·cases h1
    ·have dk : xs.length = rows.length * size := by rw [lC.length, YM rows size hz]
     have hmul : lo * size + len * size <= rows.length * size := zBQ
     refine Z9.xk ?_ (fun k u d hu hd => ?_)
     ·rw [XQ _ _ _ zAA, YM (cut rows lo len) size (fun x hx => hz x (List.mem_of_mem_drop (List.mem_of_mem_take hx))), lp]
     ·have h1 := zq _ _ _ _ _ hu
      have h2 := jg rows size lo len hz k d hd
      obtain ⟨d', lL, hr⟩ := lC.get _ _ h1
      rw [h2] at lL; cases lL
      exact hr
  ·have : len = 0 := zAA
   subst this
   have fg : cut rows lo 0 = [] := by simp [cut]
   rw [fg]
   cases base with
   | none => have := fz rfl; subst this; exact .inl ⟨rfl, rfl⟩
   | some ad => exact .inr ⟨ad, cap, [], rfl, zAF, .nil⟩
 ·exact hs.elim
theorem Dz (r : Rel T0 B σ a w X h) {t : TypeId} (my : o.op = .call ⟨.builtin .append, #[x, y], #[t, t]⟩) (hd : o.dst = some d)
  (fx : gOf (look P σ t x) = true) (fy : gOf (look P σ t y) = true) (ht : XZ P t = true) (hz : Qc P (ZR P t) = true) (iS : 0 < P.cellsOf (ZR P t))
  (gA : SV σ (unc (look P σ t x)) (P.cellsOf (ZR P t)) lB σ1) (fp : WS σ (unc (look P σ t y)) (P.cellsOf (ZR P t)) news) (iJ : σ1.fresh d = true)
  (iL : (lB.length + news.length) * P.bytesOf (ZR P t) <= 140737488355328) (eS : lB.length + news.length <= 9223372036854775807)
  (hK : ∀ a' w', Jz T0 B (σ1.new d (.one (.sref d 0 0 (lB.length + news.length))) [.arr false (P.cellsOf (ZR P t)) (lB ++ news)]) a' w' -> Y8 B w w' -> K a' w') : o.wp P a w K Q := by
 obtain ⟨ti, hu, hi, fE⟩ := X6 ht
 obtain ⟨i, z, row, hG, fU, gx, fG, fk, gJ, gq⟩ := xO hz
 rw [hi] at hG; cases hG
 have bB : P.bytesOf (ZR P t) = ti.bytes := zBS
 rw [bB] at iL
 rw [<- gJ] at gA fp iS hK
 have ek := r.arg (P := P) t x rfl fx
 have bU := r.arg (P := P) t y rfl fy
 obtain ⟨az, ib⟩ := Ex r fp bU
 have gF : ∃ e0 xs, w.ownsRow 0 e0 ti.size (a.eval x) lB.length xs /\ (∀ q ∈ lB, q.length = ti.size) /\ Z9 (Rd (Tof T0 X) w) xs lB.flatten /\ Rel T0 B σ1 a w X h /\
   (∀ b, blk (a.eval x) = some b -> ¬ B b /\ ¬ X b /\ b < w.heap.size /\ ∀ u j, σ1.ob u j ≠ .none -> ¬ (h u j).u b) := by
  unfold SV at gA
  split at gA
  ·rename_i s heq
   obtain ⟨rfl, rfl⟩ := gA
   rw [heq] at ek
   have he : a.eval x = .slice none 0 0 := ek
   rw [he]
   exact ⟨0, [], World.ownsRow_nil w 0 0 _, zA4, .nil, r, (fun b hb => by cases hb)⟩
  ·rename_i u j lo len heq
   obtain ⟨rows, ho, rfl, hle, rfl, rfl⟩ := gA
   rw [heq] at ek
   have eo : YF (Tof T0 X) h σ.ob w (.sref u j 0 len) (a.eval x) := ek
   obtain ⟨_, _, gO, _⟩ := eo.2.1 _ _ _ ho
   have he : a.eval x = N9 (h u j).v len := gO rfl
   have h0 := r.obj u j
   rw [ho] at h0
   obtain ⟨e, xs, lE, hP, lC⟩ := h0
   have lS : σ.ob u j ≠ .none := zAr
   have cM : (rows.take len).length = len := zA0
   have hE : (rows.take len).flatten = rows.flatten.take (len * ti.size) := Ks rows ti.size hP len hle
   refine ⟨e, xs.take (len * ti.size), by rw [he, cM]; exact j7 lE hle, fun q hq => hP q (List.mem_of_mem_take hq), by rw [hE]; exact lC.take _, r.drop u j, fun b hb => ?_⟩
   rw [he, VZ] at hb
   have cT := r.ub u j b lS hb
   have iK := r.own u j b lS cT
   refine ⟨iK.1, iK.2.1, iK.2.2, fun u' j' lA lP => ?_⟩
   have dD : σ.ob u' j' ≠ .none := by
    intro hh
    rw [St.Xo σ u j _ u' j' lS] at lA
    split at lA
    ·exact lA rfl
    ·exact lA hh
   have := r.inj u j u' j' b lS dD cT lP
   obtain ⟨rfl, rfl⟩ := this
   rw [St.Xo σ u j _ u j lS] at lA
   simp at lA
  ·exact gA.elim
 obtain ⟨e0, xs, lE, hoz, bD, r1, lk⟩ := gF
 have hflr : ∀ q ∈ lB ++ news, q.length = ti.size := by
  intro q hq
  rcases List.mem_append.1 hq with hq | hq
  ·exact hoz q hq
  ·exact az q hq
 have key : ∀ (v' : Value) (w' : World) (e1 : TypeId) (ys : List Value), (Builtin.append_ #[t, t] o.type #[a.eval x, a.eval y]).run P w = .ok v' w' -> w'.ownsRow 0 e1 ti.size v' (lB.length + news.length) (xs ++ ys) ->
   Z9 (Rd (Tof T0 X) w) ys news.flatten -> w.grownBy w' (blk (a.eval x)) -> (∀ b, blk v' = some b -> (w.heap.size <= b /\ b < w'.heap.size) \/ blk (a.eval x) = some b) -> o.wp P a w K Q := by
  intro v' w' e1 ys lT lb bC fA aJ
  have lH := St.zO iJ
  have hT : ∀ b k v, Tof T0 X b k -> w.cell? ⟨b, k, none⟩ = some v -> w'.cell? ⟨b, k, none⟩ = some v /\ Tof T0 X b k := by
   intro b k v hb lJ
   refine ⟨?_, hb⟩
   have lA : some b ≠ blk (a.eval x) := by
    intro e
    have h1 := lk b e.symm
    rcases hb with hb | hb
    ·exact h1.1 (r.hT b k hb)
    ·exact h1.2.1 hb
   rw [World.cell?_of_block (fA.block b (r.Tlt hb) lA)]; exact lJ
  unfold Oper.wp
  have bF : (execOp a.eval o).run P w = .ok (.value v') w' := by
   simp only [execOp, my, resolve, invoke, builtin, Sem.run_bind, Sem.run_pure, Result.andThen_ok, List.map_toArray, List.map_cons, List.map_nil, lT]
  rw [bF, Oper.upon_value, hd]
  refine hK _ _ ⟨X, fun u j => if u = d then Hd.of v' else h u j, ?_⟩ ⟨fA.os, fA.tape, fA.output, fA.size, fun k hk => fA.block k (r.hB k hk) (fun e => (lk k e.symm).1 hk)⟩
  have iT : (σ1.new d (.one (.sref d 0 0 (lB.length + news.length))) [.arr false ti.size (lB ++ news)]).ob d 0 = .arr false ti.size (lB ++ news) := zA2
  have iY : w'.ownsRow 0 e1 ti.size v' (lB ++ news).length (xs ++ ys) := by rw [List.length_append]; exact lb
  have ej : Z9 (Rd (Tof T0 X) w') (xs ++ ys) (lB ++ news).flatten := by
   rw [List.flatten_append]
   exact (bD.imp fun _ _ => Rd.mono hT).append (bC.imp fun _ _ => Rd.mono hT)
  refine r1.wI iJ (fun b => blk (a.eval x) = some b) fA.size (fun k hk lA => fA.block k hk (fun e => lA e.symm)) (fun b hb => ⟨(lk b hb).1, (lk b hb).2.1, fun u j _ lA => (lk b hb).2.2.2 u j lA⟩) (fun _ hb => hb) (fun _ hb => .inl hb) _ _ [.arr false ti.size (lB ++ news)] (fun _ => Hd.of v') ?_ (fun j => ?_) (fun j b _ hb => hb) (fun j b lA lP => ?_) (fun j j' b lA l8 _ _ => ?_)
  ·refine ⟨KD lb, fun q' lU lM hh => ?_, fun lU lM hh => by rw [iT] at hh; cases hh⟩
   rw [iT] at hh; cases hh
   simp only [if_true, List.length_append]
   have := VC iY
   rwa [List.length_append] at this
  ·cases j with
   | zero => exact ⟨e1, xs ++ ys, iY, hflr, ej⟩
   | succ j => simp [Yj, J0]
  ·rcases aJ b lP with h1 | h1
   ·exact ⟨.inl h1.1, fun hx => by have := (r.hX b hx).2; omega, h1.2⟩
   ·have h2 := lk b h1
    exact ⟨.inr h1, h2.2.1, by have := fA.size; omega⟩
  ·have : ∀ j, Yj [Ob.arr false ti.size (lB ++ news)] j ≠ .none -> j = 0 := by
    intro j hj
    cases j with
    | zero => rfl
    | succ j => simp [Yj] at hj
   rw [this j lA, this j' l8]
 rcases ib with ⟨cS, rfl⟩ | ⟨ad, c, ys, cS, lJ, bC⟩
 ·have l4 : ∃ base cap, a.eval x = .slice base lB.length cap /\ lB.length <= cap /\ (base = none -> cap = 0) := by
   rcases lE.2 with ⟨h1, h2⟩ | ⟨g, cap, cur, h1, _, _, gh, _⟩
   ·exact ⟨none, 0, by rw [h1, h2], zAA, fun _ => rfl⟩
   ·exact ⟨_, cap, h1, gh, (fun hh => by cases hh)⟩
  obtain ⟨base, cap, hex, gh, hb0⟩ := l4
  refine key (a.eval x) w e0 [] ?_ (by simpa using lE) .nil ⟨rfl, rfl, rfl, Nat.le_refl _, fun _ _ _ => rfl⟩ (fun b hb => .inr hb)
  rw [hex, cS]
  exact V5 t o.type _ ti hu hi base lB.length cap gh hb0
 ·have gM : ys.length = news.length * ti.size := by rw [bC.length, YM news ti.size az]
  obtain ⟨v', w', e1, lT, lb, fA, aJ⟩ := Rz (P := P) (w := w) t o.type _ e0 ti z hu hi fU fk zAA (a.eval x) lB.length xs lE ad news.length c ys gM lJ
   (fun u gr => by
    obtain ⟨k, hk⟩ := List.mem_iff_getElem?.1 gr
    obtain ⟨d', _, iu⟩ := bC.get k u hk
    exact Rd.QL iu) (by simp only [maxLen]; omega) iL
  refine key v' w' e1 ys ?_ lb bC fA aJ
  rw [cS]; exact lT
open Go.RowKit
variable {parts : Array (Nat × Operand)}
def NA (P : Program) (σ : St) (T : TypeId) (size : Nat) : List (Nat × Operand) -> Nat -> List (List D) -> Prop
 | [], _, rs => rs = []
 | (i, x) :: ps, k, rs => i = k /\ gOf (look P σ T x) = true /\ (unc (look P σ T x)).flat = true /\ zb (unc (look P σ T x)).cells = true /\
   ∃ r rest, rowOf σ (unc (look P σ T x)).cells = some r /\ r.length = size /\ NA P σ T size ps (k + 1) rest /\ rs = r :: rest
theorem La {α : Type} (l : List α) (o : Nat) (xs ys : List α) (hl : o + (xs ++ ys).length <= l.length) : place (place l o xs) (o + xs.length) ys = place l o (xs ++ ys) := by
 simp only [List.length_append] at hl
 unfold place
 have h1 : (l.take o ++ xs).length = o + xs.length := zAk
 have h2 : (l.take o ++ xs ++ l.drop (o + xs.length)).take (o + xs.length) = l.take o ++ xs := by
  rw [List.take_append_of_le_length zAA, List.take_of_length_le zAA]
 have h3 : (l.take o ++ xs ++ l.drop (o + xs.length)).drop (o + xs.length + ys.length) = l.drop (o + (xs ++ ys).length) := by
  rw [show o + xs.length + ys.length = (l.take o ++ xs).length + ys.length by omega, List.drop_length_add_append, List.drop_drop]
  congr 1; simp; omega
 rw [h2, h3]; simp
theorem Mw (r : Rel T0 B σ a w X h) (T : TypeId) (size : Nat) : ∀ (ps : List (Nat × Operand)) (k : Nat) (rs : List (List D)) (cells : Array Value), NA P σ T size ps k rs -> (k + ps.length) * size <= cells.size ->
   ∃ lI ys, Instr.fill (fun i => some (i * size, size)) cells (ps.map fun x => (x.1, a.eval x.2)) = some lI /\ lI.toList = place cells.toList (k * size) ys /\ Z9 (Rd (Tof T0 X) w) ys rs.flatten /\ (∀ q ∈ rs, q.length = size) /\ rs.length = ps.length
 | [], k, rs, cells, hb, _ => zBL
 | (i, x) :: ps, k, rs, cells, hb, hl => by
  obtain ⟨rfl, hg, hf, ld, r0, rest, fb, hlen, hb, rfl⟩ := hb
  have hx := Wf hf (r.arg (P := P) T x rfl hg)
  have aK := r.rowOf true fb hx (fun _ => ld)
  simp only [if_true] at aK
  have bA := aK.length
  have e1 : cells.toList.length = cells.size := Array.length_toList
  have e2 : (a.eval x).cells.toList.length = (a.eval x).cells.size := Array.length_toList
  have hmul : (i + (ps.length + 1)) * size = i * size + size + ps.length * size := zBY
  simp only [List.length_cons] at hl
  have heq := SM (i * size) (a.eval x).cells cells zAA
  have fG : ((a.eval x).cells.zipIdx.foldl (fun cs x => cs.setIfInBounds (i * size + x.2) x.1) cells).size = cells.size := by
   rw [<- Array.length_toList, heq, X1 _ _ _ zAA, e1]
  have hmul2 : (i + 1 + ps.length) * size = i * size + size + ps.length * size := zBY
  obtain ⟨lI, ys, h1, h2, h3, h4, h5⟩ := Mw r T size ps (i + 1) rest _ hb (by rw [fG]; omega)
  have gM : ys.length = ps.length * size := by rw [h3.length, YM rest size h4, h5]
  refine ⟨lI, (a.eval x).cells.toList ++ ys, ?_, ?_, ?_, ?_, by simp [h5]⟩
  ·simp only [List.map_cons, Instr.fill]
   rw [if_neg zAk]
   exact h1
  ·rw [h2, heq]
   rw [show (i + 1) * size = i * size + (a.eval x).cells.toList.length by rw [Nat.add_mul]; omega]
   exact La _ _ _ _ zAk
  ·rw [List.flatten_cons]; exact aK.append h3
  ·intro q hq
   rcases List.mem_cons.1 hq with rfl | hq
   ·exact hlen
   ·exact h4 q hq
theorem MX (r : Rel T0 B σ a w X h) {T : TypeId} (my : o.op = .buildSlice T n parts) (hd : o.dst = some d) (iJ : σ.fresh d = true)
  (ht : XZ P T = true) (hz : Qc P (ZR P T) = true) (iS : 0 < P.cellsOf (ZR P T)) (hn : parts.toList.length = n) (hsm : n * P.cellsOf (ZR P T) <= 16777216) (hb : NA P σ (ZR P T) (P.cellsOf (ZR P T)) parts.toList 0 rows)
  (hK : ∀ a' w', Jz T0 B (σ.new d (.one (.sref d 0 0 rows.length)) [.arr false (P.cellsOf (ZR P T)) rows]) a' w' -> Y8 B w w' -> K a' w') : o.wp P a w K Q := by
 obtain ⟨ti, hu, hi, fE⟩ := X6 ht
 obtain ⟨i, z, row, hG, fU, gx, fG, fk, gJ, gq⟩ := xO hz
 rw [hi] at hG; cases hG
 have g9 : (zeroValue (ZR P T)).run P w = .ok z w := by simp [zeroValue, typeInfo, hi, fU]
 obtain ⟨zero, hzero⟩ : ∃ zero : Array Value, (n * P.cellsOf (ZR P T) = 0 -> zero = #[]) /\ (¬ n * P.cellsOf (ZR P T) = 0 -> zero = z.cells) := by
  by_cases h0 : n * P.cellsOf (ZR P T) = 0
  ·exact ⟨#[], fun _ => rfl, fun hh => absurd h0 hh⟩
  ·exact ⟨z.cells, fun hh => absurd hh h0, fun _ => rfl⟩
 obtain ⟨lI, ys, h1, h2, h3, h4, h5⟩ := Mw r (ZR P T) (P.cellsOf (ZR P T)) parts.toList 0 rows ((Array.range (n * P.cellsOf (ZR P T))).map (zero[· % zero.size]!)) hb (by simp [hn])
 have gM : ys.length = n * P.cellsOf (ZR P T) := by rw [h3.length, YM rows _ h4, h5, hn]
 have lp : lI.toList = ys := by
  rw [h2]
  unfold place
  simp [gM]
 have fV : (parts.map fun (x : Nat × Operand) => (x.1, a.eval x.2)).toList = parts.toList.map fun x => (x.1, a.eval x.2) := zAF
 have lT : (execOp a.eval o).run P w = .ok (.value (.slice (some ⟨w.heap.size, 0, none⟩) n n)) (w.alloc (.cells lI (ZR P T))) := by
  have ff : ¬ (n * P.cellsOf (ZR P T) > 2 ^ 24) := zAA
  by_cases h0 : n * P.cellsOf (ZR P T) = 0
  ·have e8 := hzero.1 h0
   subst e8
   simp only [execOp, my, Instr.buildSlice, Sem.run_bind, run_underlying hu, Result.andThen_ok, Kb hi, if_neg ff, if_pos h0, fV, h1, newRow, Sem.run_pure, run_newObj_alloc]
  ·have e8 := hzero.2 h0
   subst e8
   simp only [execOp, my, Instr.buildSlice, Sem.run_bind, run_underlying hu, Result.andThen_ok, Kb hi, if_neg ff, if_neg h0, g9, fV, h1, newRow, Sem.run_pure, run_newObj_alloc]
 unfold Oper.wp
 rw [lT, Oper.upon_value, hd]
 have hlen : rows.length = n := by rw [h5, hn]
 have hT : ∀ b k v, Tof T0 X b k -> w.cell? ⟨b, k, none⟩ = some v -> (w.alloc (.cells lI (ZR P T))).cell? ⟨b, k, none⟩ = some v /\ Tof T0 X b k := by
  intro b k v hb lJ
  refine ⟨?_, hb⟩
  rw [World.cell?_of_block ((World.grownBy_alloc w (.cells lI (ZR P T)) none).block b (r.Tlt hb) zAF)]; exact lJ
 have bG : lI.size = n * P.cellsOf (ZR P T) := by rw [<- Array.length_toList, lp, gM]
 have gb : n <= maxLen := by
  have : n <= n * P.cellsOf (ZR P T) := Nat.le_mul_of_pos_right _ iS
  simp only [maxLen]; omega
 have := r.tT iJ (World.grownBy_alloc w (.cells lI (ZR P T)) none) (.slice (some ⟨w.heap.size, 0, none⟩) n n) (size := P.cellsOf (ZR P T)) (rows := rows)
  ⟨ZR P T, ys, ⟨by rw [gM, hlen], .inr ⟨w.heap.size, n, lI, by rw [hlen], Nat.zero_le _, heap_alloc_new w _, zAA, gb, bG, by rw [lp, hlen, List.take_of_length_le zAA]⟩⟩, h4, h3.imp fun _ _ => Rd.mono hT⟩
  (fun b hb => by simp [blk] at hb; subst hb; exact ⟨Nat.le_refl _, zAF⟩)
 exact hK _ _ this.1 this.2
theorem CF (r : Rel T0 B σ a w X h) {T : TypeId} (my : o.op = .buildSlice T n parts) (hd : o.dst = some d)
  (ht : XZ P T = true) (hz : Qc P (ZR P T) = true) (iS : 0 < P.cellsOf (ZR P T)) (hn : parts.toList.length = n) (hsm : n * P.cellsOf (ZR P T) <= 16777216) (hb : NA P σ (ZR P T) (P.cellsOf (ZR P T)) parts.toList 0 rows)
  (hK : ∀ a' w', Jz T0 B (σ.put d (.one (.d (.sl (P.cellsOf (ZR P T)) rows)))) a' w' -> Y8 B w w' -> K a' w') : o.wp P a w K Q := by
 obtain ⟨ti, hu, hi, fE⟩ := X6 ht
 obtain ⟨i, z, row, hG, fU, gx, fG, fk, gJ, gq⟩ := xO hz
 rw [hi] at hG; cases hG
 have g9 : (zeroValue (ZR P T)).run P w = .ok z w := by simp [zeroValue, typeInfo, hi, fU]
 obtain ⟨zero, hzero⟩ : ∃ zero : Array Value, (n * P.cellsOf (ZR P T) = 0 -> zero = #[]) /\ (¬ n * P.cellsOf (ZR P T) = 0 -> zero = z.cells) := by
  by_cases h0 : n * P.cellsOf (ZR P T) = 0
  ·exact ⟨#[], fun _ => rfl, fun hh => absurd h0 hh⟩
  ·exact ⟨z.cells, fun hh => absurd hh h0, fun _ => rfl⟩
 obtain ⟨lI, ys, h1, h2, h3, h4, h5⟩ := Mw r (ZR P T) (P.cellsOf (ZR P T)) parts.toList 0 rows ((Array.range (n * P.cellsOf (ZR P T))).map (zero[· % zero.size]!)) hb (by simp [hn])
 have gM : ys.length = n * P.cellsOf (ZR P T) := by rw [h3.length, YM rows _ h4, h5, hn]
 have lp : lI.toList = ys := by
  rw [h2]
  unfold place
  simp [gM]
 have fV : (parts.map fun (x : Nat × Operand) => (x.1, a.eval x.2)).toList = parts.toList.map fun x => (x.1, a.eval x.2) := zAF
 have lT : (execOp a.eval o).run P w = .ok (.value (.slice (some ⟨w.heap.size, 0, none⟩) n n)) (w.alloc (.cells lI (ZR P T))) := by
  have ff : ¬ (n * P.cellsOf (ZR P T) > 2 ^ 24) := zAA
  by_cases h0 : n * P.cellsOf (ZR P T) = 0
  ·have e8 := hzero.1 h0
   subst e8
   simp only [execOp, my, Instr.buildSlice, Sem.run_bind, run_underlying hu, Result.andThen_ok, Kb hi, if_neg ff, if_pos h0, fV, h1, newRow, Sem.run_pure, run_newObj_alloc]
  ·have e8 := hzero.2 h0
   subst e8
   simp only [execOp, my, Instr.buildSlice, Sem.run_bind, run_underlying hu, Result.andThen_ok, Kb hi, if_neg ff, if_neg h0, g9, fV, h1, newRow, Sem.run_pure, run_newObj_alloc]
 unfold Oper.wp
 rw [lT, Oper.upon_value, hd]
 have hlen : rows.length = n := by rw [h5, hn]
 have cP := World.grownBy_alloc w (.cells lI (ZR P T)) none
 have r2 := r.grow (X' := fun b => X b \/ b = w.heap.size) cP (fun b hb => .inl hb) (fun b hb => hb.imp id (fun hh => by subst hh; exact ⟨Nat.le_refl _, zAF⟩))
 have hT : ∀ b k v, Tof T0 X b k -> w.cell? ⟨b, k, none⟩ = some v -> (w.alloc (.cells lI (ZR P T))).cell? ⟨b, k, none⟩ = some v /\ Tof T0 (fun b => X b \/ b = w.heap.size) b k := by
  intro b k v hb lJ
  refine ⟨?_, hb.imp id .inl⟩
  rw [World.cell?_of_block (cP.block b (r.Tlt hb) zAF)]; exact lJ
 have bG : lI.size = n * P.cellsOf (ZR P T) := by rw [<- Array.length_toList, lp, gM]
 have gb : n <= maxLen := by
  have : n <= n * P.cellsOf (ZR P T) := Nat.le_mul_of_pos_right _ iS
  simp only [maxLen]; omega
 refine hK _ _ ⟨_, _, r2.put d _ _ ?_⟩ (Y8.Tm cP r.hB)
 exact vG (e := ZR P T) (xs := ys) ⟨by rw [gM, hlen], .inr ⟨w.heap.size, n, lI, by rw [hlen], Nat.zero_le _, heap_alloc_new w _, zAA, gb, bG, by rw [lp, hlen, List.take_of_length_le zAA]⟩⟩ h4 (fun b k hb => by simp [blk] at hb; subst hb; exact .inr (.inr rfl)) (h3.imp fun _ _ => Rd.mono hT)
def zD : List At -> Option (List D)
 | [] => some []
 | .d x :: xs => (zD xs).map (x :: ·)
 | .nil s :: xs => (zD xs).map (.sl s [] :: ·)
 | _ => none
theorem Dj {T : CS} {ob : Nat -> Nat -> Ob} : ∀ {xs : List At} {ds : List D} {vs : List Value}, zD xs = some ds -> Z9 (YF T h ob w) xs vs -> Z9 (Rd T w) vs ds
 | [], ds, vs, hz, lC => by cases lC; simp [zD] at hz; subst hz; exact .nil
 | x :: xs, ds, vs, hz, lC => by
  cases lC with
  | cons hx lC =>
   cases x with
   | d x =>
    simp only [zD, Option.map_eq_some_iff] at hz
    obtain ⟨dh, g8, rfl⟩ := hz
    exact .cons hx (Dj g8 lC)
   | nil s =>
    simp only [zD, Option.map_eq_some_iff] at hz
    obtain ⟨dh, g8, rfl⟩ := hz
    cases hx
    exact .cons (.nil _) (Dj g8 lC)
   | any => simp [zD] at hz
   | sref => simp [zD] at hz
   | ptr => simp [zD] at hz
   | bptr => simp [zD] at hz
   | fn => simp [zD] at hz
   | rptr => simp [zD] at hz
   | tref => simp [zD] at hz
theorem ke {α : Type} (z : List α) (n k : Nat) (hk : k < n * z.length) : (List.replicate n z).flatten[k]? = z[k % z.length]? := by
 induction n generalizing k with
 | zero => simp at hk
 | succ n ih =>
  rw [List.replicate_succ, List.flatten_cons]
  rcases Nat.lt_or_ge k z.length with lH | fY
  ·rw [List.getElem?_append_left lH, Nat.mod_eq_of_lt lH]
  ·rw [List.getElem?_append_right fY, ih (k - z.length) (by rw [Nat.add_mul] at hk; omega)]
   congr 1
   rw [Nat.mod_eq_sub_mod fY]
theorem HB (r : Rel T0 B σ a w X h) {T : TypeId} (my : o.op = .makeSlice T x x) (hd : o.dst = some d) (iJ : σ.fresh d = true)
  (ht : XZ P T = true) (hz : Qc P (ZR P T) = true) (gx : Wa P 12 (ZR P T) = some z) (hzd : zD z = some zr) (iS : 0 < P.cellsOf (ZR P T)) (hx : Vq P σ x k (n : Int)) (bB : P.bytesOf (ZR P T) * n <= 281474976710656) (eS : n <= 9223372036854775807)
  (hK : ∀ a' w', Jz T0 B (σ.new d (.one (.sref d 0 0 n)) [.arr false (P.cellsOf (ZR P T)) (List.replicate n zr)]) a' w' -> Y8 B w w' -> K a' w') : o.wp P a w K Q := by
 obtain ⟨ti, hu, hi, fE⟩ := X6 ht
 obtain ⟨i, zv, row, hG, fU, bE, fG, fk, gJ, gq⟩ := xO hz
 rw [hi] at hG; cases hG
 rw [gx] at bE; cases bE
 have hex := qP r hx
 have hby' : (ti.bytes : Int) * (n : Int) <= 281474976710656 := by
  have : P.bytesOf (ZR P T) = ti.bytes := zBS
  rw [this] at bB
  have h : ((ti.bytes * n : Nat) : Int) <= 281474976710656 := zAA
  rwa [Int.natCast_mul] at h
 have lT := run_make (P := P) w T (ZR P T) ti zv hu hi fU k k n n zAA (Int.le_refl _) hby' zAA
 simp only [Int.toNat_natCast] at lT
 unfold Oper.wp
 simp only [execOp, my, hex, Sem.run_bind, lT, Result.andThen_ok, Sem.run_pure, Oper.upon_value, hd]
 have bn := Dj hzd (gq (Tof T0 X) h σ.ob w)
 have hzl := bn.length
 have e1 : zv.cells.toList.length = zv.cells.size := Array.length_toList
 have dN : zr.length = ti.size := zAA
 have hT : ∀ b k v, Tof T0 X b k -> w.cell? ⟨b, k, none⟩ = some v -> (w.alloc (.cells (madeCells zv.cells (n * ti.size)) (ZR P T))).cell? ⟨b, k, none⟩ = some v /\ Tof T0 X b k := by
  intro b k v hb lJ
  refine ⟨?_, hb⟩
  rw [World.cell?_of_block ((World.grownBy_alloc w (.cells (madeCells zv.cells (n * ti.size)) (ZR P T)) none).block b (r.Tlt hb) zAF)]; exact lJ
 have fX : (madeCells zv.cells (n * ti.size)).toList.length = n * ti.size := by rw [Array.length_toList, size_madeCells]
 have bH : ∀ q u, (madeCells zv.cells (n * ti.size)).toList[q]? = some u -> zv.cells.toList[q % ti.size]? = some u := by
  intro q u hq
  have lH : q < n * ti.size := zBD
  have hmod : q % ti.size < zv.cells.size := by rw [fk]; exact Nat.mod_lt _ zAA
  have : (madeCells zv.cells (n * ti.size)).toList[q]? = some (zv.cells[q % zv.cells.size]!) := by
   simp [madeCells, lH]
  rw [this] at hq
  cases hq
  rw [fk]
  simp [hmod]
 have ej : Z9 (Rd (Tof T0 X) w) (madeCells zv.cells (n * ti.size)).toList (List.replicate n zr).flatten := by
  refine Z9.xk (by rw [fX, YM _ ti.size (by intro q hq; rw [List.eq_of_mem_replicate hq]; exact dN)]; simp) (fun q u dd hq gY => ?_)
  have lH : q < n * ti.size := zBD
  rw [ke zr n q (by rw [dN]; exact lH), dN] at gY
  obtain ⟨d', lL, iu⟩ := bn.get _ _ (bH q u hq)
  rw [gY] at lL; cases lL
  exact iu
 have := r.tT iJ (World.grownBy_alloc w (.cells (madeCells zv.cells (n * ti.size)) (ZR P T)) none) (.slice (some ⟨w.heap.size, 0, none⟩) n n) (size := P.cellsOf (ZR P T)) (rows := List.replicate n zr)
  ⟨ZR P T, (madeCells zv.cells (n * ti.size)).toList, ⟨by rw [fX, gJ]; simp, .inr ⟨w.heap.size, n, _, zAF, Nat.zero_le _, heap_alloc_new w _, zAF, by simp only [maxLen]; omega, by rw [size_madeCells, gJ], by rw [List.take_of_length_le (by rw [fX, gJ]; simp)]⟩⟩,
   (by intro q hq; rw [List.eq_of_mem_replicate hq]; omega), ej.imp fun _ _ => Rd.mono hT⟩
  (fun b hb => by simp [blk] at hb; subst hb; exact ⟨Nat.le_refl _, zAF⟩)
 rw [List.length_replicate] at this
 exact hK _ _ this.1 this.2
open Go.RowKit
def zy (l : List UInt8) : List (List D) := l.map fun b => [D.int .u8 (b.toNat : Int)]
def Np (P : Program) (t : TypeId) : Bool := match P.underlying t with
 | some (.slice e) => (match P.underlying e with | some (.int .u8) => true | _ => false)
 | _ => false
theorem L3 {t : TypeId} (ht : Np P t = true) : ∃ e, P.underlying t = some (.slice e) /\ P.underlying e = some (.int .u8) := by
 unfold Np at ht
 split at ht
 ·rename_i e he
  split at ht
  ·rename_i h2; exact ⟨e, he, h2⟩
  ·cases ht
 ·cases ht
theorem Tl (l : List UInt8) : (zy l).flatten = l.map fun b => D.int .u8 (b.toNat : Int) := by
 induction l with
 | nil => rfl
 | cons b l ih => simp only [zy, List.map_cons, List.flatten_cons] at ih ⊢; rw [ih]; rfl
theorem Pq (r : Rel T0 B σ a w X h) {S T : TypeId} (my : o.op = .convert S T x) (hg : gOf (look P σ S x) = true) (hS : Np P S = true) (hT : SB P T = true)
  (fp : WS σ (unc (look P σ S x)) 1 (zy l)) : ∃ val, (execOp a.eval o).run P w = .ok (.value val) w /\ JP (Tof T0 X) h σ.ob w (.one (.d (.str ⟨l.toArray⟩))) val := by
 obtain ⟨e, hs, he⟩ := L3 hS
 have hv := r.arg (P := P) S x rfl hg
 obtain ⟨_, ib⟩ := Ex r fp hv
 refine ⟨.string ⟨l.toArray⟩, ?_, .str _⟩
 rcases ib with ⟨hex, fg⟩ | ⟨ad, c, xs, hex, lJ, lC⟩
 ·have hl : l = [] := by cases l with
   | nil => rfl
   | cons b l => simp [zy] at fg
  subst hl
  have hr : (convert S T (.slice none 0 0)).run P w = .ok (.string ⟨#[]⟩) w := by
   rw [run_convert_bytes_string w S T e none 0 0 hs he (jQ hT)]
   rfl
  simp only [execOp, my, hex, Sem.run_bind, hr, Result.andThen_ok, Sem.run_pure, List.toArray]
 ·have hlen : (zy l).length = l.length := by simp [zy]
  rw [hlen] at hex
  have hr := run_convert_bytes_back (P := P) w S T e ad c l hs he (jQ hT) (fun j hj => by
   rw [Tl] at lC
   obtain ⟨u, hu, hr⟩ := lC.get' j (D.int .u8 (l[j].toNat : Int)) (by simp [hj])
   have := SU hr
   subst this
   exact lJ j _ hu)
  simp only [execOp, my, hex, Sem.run_bind, hr, Result.andThen_ok, Sem.run_pure]
theorem Pn (r : Rel T0 B σ a w X h) {S T : TypeId} {s : ByteArray} (my : o.op = .convert S T x) (hd : o.dst = some d) (hg : gOf (look P σ S x) = true) (hS : SB P S = true) (hT : Np P T = true)
  (hx : unc (look P σ S x) = .one (.d (.str s))) (iZ : s.size <= 9223372036854775807)
  (hK : ∀ a' w', Jz T0 B (σ.put d (.one (.d (.sl 1 (zy s.data.toList))))) a' w' -> Y8 B w w' -> K a' w') : o.wp P a w K Q := by
 obtain ⟨e, gY, he⟩ := L3 hT
 have hex := RD (r.arg (P := P) S x hx hg)
 have lT := run_bytes_of_string (P := P) w S T e s (jQ hS) gY he
 unfold Oper.wp
 simp only [execOp, my, hex, Sem.run_bind, lT, Result.andThen_ok, Sem.run_pure, Oper.upon_value, hd]
 generalize hQ : grownCap w s.size 0 e = cap at *
 have fY : s.size <= cap := by rw [<- hQ]; exact grownCap_ge w s.size 0 e
 have gb : cap <= maxLen := by rw [<- hQ]; exact grownCap_le_maxLen w s.size 0 e (by simp only [maxLen]; omega)
 generalize hw' : w.drew.alloc (.cells (bytesRow s cap) e ((bytesRow s cap).size, (bytesRow s cap).size + 1)) = w'
 have cP : w.grownBy w' none := by
  rw [<- hw']
  exact ⟨rfl, rfl, rfl, zAF, fun k hk _ => (World.grownBy_alloc w.drew _ none).block k hk zAF⟩
 have eg : w'.heap[w.heap.size]? = some (.cells (bytesRow s cap) e ((bytesRow s cap).size, (bytesRow s cap).size + 1)) := by rw [<- hw']; exact heap_alloc_new w.drew _
 have hsize : w.heap.size < w'.heap.size := (Array.getElem?_eq_some_iff.1 eg).1
 have r2 := r.grow (X' := fun b => X b \/ b = w.heap.size) cP (fun b hb => .inl hb) (fun b hb => hb.imp id (fun hh => by subst hh; exact ⟨Nat.le_refl _, hsize⟩))
 refine hK _ _ ⟨_, _, r2.put d _ _ ?_⟩ (Y8.Tm cP r.hB)
 have hE := Tl s.data.toList
 refine Rd.sl ⟨w.heap.size, 0, none⟩ s.size cap 1 _ (fun k => .int .u8 ((s.data.toList.getD k 0).toNat : Int)) (by simp [zy]) fY gb (by intro q hq; simp [zy] at hq; obtain ⟨b, _, rfl⟩ := hq; rfl) (fun _ => rfl) (fun k dd hk => ?_) (fun k dd hk => ?_)
 ·rw [hE, List.getElem?_map] at hk
  cases hb : s.data.toList[k]? with
  | none => rw [hb] at hk; cases hk
  | some b =>
   refine ⟨?_, .inr (.inr rfl)⟩
   simp only [Nat.zero_add]
   refine zc eg _ _ ?_
   have hklt : k < s.data.size := by have := (List.getElem?_eq_some_iff.1 hb).1; simpa using this
   simp only [bytesRow]
   rw [Array.toList_append, List.getElem?_append_left (by simpa using hklt)]
   simp [hb]
 ·rw [hE, List.getElem?_map] at hk
  cases hb : s.data.toList[k]? with
  | none => rw [hb] at hk; cases hk
  | some b =>
   rw [hb] at hk; cases hk
   rw [List.getD_eq_getElem?_getD, hb]
   exact .int _ _
open Go.RowKit
variable {l1 l2 : List (Nat × Nat)}
def XH : List At -> List (Nat × Nat)
 | [] => []
 | .sref t j _ _ :: xs => (t, j) :: XH xs
 | _ :: xs => XH xs
def mvD (σ : St) : At -> Option D
 | .d (.sl _ _) => none
 | .d x => some x
 | .nil s => some (.sl s [])
 | .sref t j lo len => (match σ.ob t j with | .arr _ size rows => if lo = 0 /\ len = rows.length then some (.sl size rows) else none | _ => none)
 | _ => none
def ED (σ : St) : At -> Prop
 | .sref t j _ _ => (match σ.ob t j with | .arr false _ rows => ∀ r ∈ rows, ∀ x ∈ r, x.scalar = true | _ => True)
 | _ => True
def J5 (σ : St) : List At -> Option (List D)
 | [] => some []
 | x :: xs => (match mvD σ x, J5 σ xs with | some d, some ds => some (d :: ds) | _, _ => none)
def Qe (σ : St) : List At -> Prop
 | [] => True
 | x :: xs => ED σ x /\ Qe σ xs
def Ku (σ : St) : List (List At) -> Option (List (List D))
 | [] => some []
 | xs :: rest => (match J5 σ xs, Ku σ rest with | some r, some rs => some (r :: rs) | _, _ => none)
def KV (σ : St) : List (List At) -> Prop
 | [] => True
 | x :: xs => Qe σ x /\ KV σ xs
theorem Ld : ∀ (xs : List At) (i j : Nat) (t u lo len db fh : Nat), (XH xs).Nodup -> xs[i]? = some (.sref t u lo len) -> xs[j]? = some (.sref t u db fh) -> i = j := by
 intro xs
 induction xs with
 | nil => intro i j t u lo len db fh _ hi; simp at hi
 | cons x xs ih =>
  intro i j t u lo len db fh iV hi hj
  have mem : ∀ (k lo len : Nat), xs[k]? = some (At.sref t u lo len) -> (t, u) ∈ XH xs := by
   intro k lo len hk
   clear ih iV hi hj
   induction xs generalizing k with
   | nil => simp at hk
   | cons y ys bW =>
    cases k with
    | zero => simp at hk; subst hk; simp [XH]
    | succ k =>
     have := bW k (by simpa using hk)
     cases y <;> simp [XH, this]
  have nd' : (XH xs).Nodup := by
   cases x <;> simp only [XH] at iV <;> first | exact iV | exact (List.nodup_cons.1 iV).2
  cases i with
  | zero =>
   simp at hi; subst hi
   cases j with
   | zero => rfl
   | succ j =>
    simp only [XH] at iV
    exact absurd (mem j db fh (by simpa using hj)) (List.nodup_cons.1 iV).1
  | succ i =>
   cases j with
   | zero =>
    simp at hj; subst hj
    simp only [XH] at iV
    exact absurd (mem i lo len (by simpa using hi)) (List.nodup_cons.1 iV).1
   | succ j => rw [ih i j t u lo len db fh nd' (by simpa using hi) (by simpa using hj)]
theorem EZ : ∀ {xs : List At} {k t j lo len : Nat}, xs[k]? = some (At.sref t j lo len) -> (t, j) ∈ XH xs
 | [], k, t, j, lo, len, h => by simp at h
 | x :: xs, 0, t, j, lo, len, h => by simp at h; subst h; simp [XH]
 | x :: xs, k + 1, t, j, lo, len, h => by
  have := EZ (xs := xs) (k := k) zBd
  cases x <;> simp [XH, this]
theorem qY {σ : St} : ∀ {xs : List At} {ds : List D}, J5 σ xs = some ds -> xs.length = ds.length /\ ∀ (k : Nat) (x : At) (d : D), xs[k]? = some x -> ds[k]? = some d -> mvD σ x = some d
 | [], ds, h => by simp [J5] at h; subst h; exact ⟨rfl, fun k x d hx => by simp at hx⟩
 | x :: xs, ds, h => by
  simp only [J5] at h
  split at h
  ·rename_i d dh h1 h2
   cases h
   obtain ⟨hl, ih⟩ := qY h2
   refine ⟨by simp [hl], fun k y e hy he => ?_⟩
   cases k with
   | zero => simp at hy he; subst hy; subst he; exact h1
   | succ k => exact ih k y e (by simpa using hy) (by simpa using he)
  ·cases h
theorem N2 {σ : St} : ∀ {xs ys : List At} {ds es : List D}, J5 σ xs = some ds -> J5 σ ys = some es -> J5 σ (xs ++ ys) = some (ds ++ es)
 | [], ys, ds, es, h1, h2 => by simp [J5] at h1; subst h1; simpa using h2
 | x :: xs, ys, ds, es, h1, h2 => by
  simp only [J5] at h1
  split at h1
  ·rename_i d dh h3 h4
   cases h1
   simp [J5, h3, N2 h4 h2]
  ·cases h1
theorem xq {σ : St} : ∀ {hC : List (List At)} {rs : List (List D)}, Ku σ hC = some rs -> J5 σ hC.flatten = some rs.flatten /\ hC.length = rs.length /\ ∀ n, (∀ x ∈ hC, x.length = n) -> ∀ r ∈ rs, r.length = n
 | [], rs, h => by simp [Ku] at h; subst h; exact ⟨rfl, rfl, fun n _ r hr => by cases hr⟩
 | xs :: hC, rs, h => by
  simp only [Ku] at h
  split at h
  ·rename_i r rs' h1 h2
   cases h
   obtain ⟨i1, i2, i3⟩ := xq h2
   refine ⟨by rw [List.flatten_cons, List.flatten_cons]; exact N2 h1 i1, by simp [i2], fun n hn q hq => ?_⟩
   rcases List.mem_cons.1 hq with rfl | hq
   ·rw [<- (qY h1).1]; exact hn xs zAF
   ·exact i3 n (fun x hx => hn x (by simp [hx])) q hq
  ·cases h
theorem RK {σ : St} : ∀ {xs : List At}, Qe σ xs -> ∀ (k : Nat) (x : At), xs[k]? = some x -> ED σ x
 | [], _, k, x, hx => by simp at hx
 | y :: xs, h, 0, x, hx => by simp at hx; subst hx; exact h.1
 | y :: xs, h, k + 1, x, hx => RK h.2 k x (by simpa using hx)
theorem PJ {σ : St} : ∀ {xs ys : List At}, Qe σ xs -> Qe σ ys -> Qe σ (xs ++ ys)
 | [], _, _, h => h
 | _ :: _, _, h1, h2 => ⟨h1.1, PJ h1.2 h2⟩
theorem xe {σ : St} : ∀ {hC : List (List At)}, KV σ hC -> Qe σ hC.flatten
 | [], _ => trivial
 | xs :: hC, h => by rw [List.flatten_cons]; exact PJ h.1 (xe h.2)
theorem Rd.own {d : D} (hs : d.scalar = true) (hr : Rd T w v d) : Own w v d S := by
 cases hr with
 | int k n => exact .int _ _ _
 | bool b => exact .bool _ _
 | str s => exact .str _ _
 | unk v h => exact .unk _ h _
 | nil => cases hs
 | sl => cases hs
theorem Rel.oz (r : Rel T0 B σ a w X h) (ho : σ.ob t j = .arr q size rows) (hq : q = false -> ∀ r ∈ rows, ∀ x ∈ r, x.scalar = true) : Own w (h t j).v (.sl size rows) (h t j).u := by
 have h0 := r.obj t j
 have ir := r.ub t j
 rw [ho] at h0 ir
 cases q with
 | false =>
  obtain ⟨e, xs, gf, hz, lC⟩ := h0
  refine .sl _ size rows _ e xs (fun _ _ => False) gf hz (fun b hb => ir b zAF hb) lC.length (fun k x d hx hd => ?_) (fun k b hb => hb.elim) (fun i j b hb => hb.elim)
  obtain ⟨d', lL, hr⟩ := lC.get k x hx
  rw [hd] at lL; cases lL
  obtain ⟨r0, fb, hdr⟩ := List.mem_flatten.1 (List.mem_of_getElem? hd)
  exact Rd.own (hq rfl r0 fb d hdr) hr
 | true =>
  obtain ⟨e, xs, gf, hz, ⟨hl, Sk, h1, h2, h3⟩, hn⟩ := h0
  exact .sl _ size rows _ e xs Sk gf hz (fun b hb => ir b zAF hb) hl h1 (fun k b hb => h2 k b hb) h3
def zV (σ : St) (h : Nat -> Nat -> Hd) (l : List (Nat × Nat)) (b : Nat) : Prop := ∃ p ∈ l, σ.ob p.1 p.2 ≠ .none /\ (h p.1 p.2).u b
theorem RL (r : Rel T0 B σ a w X h) {xs : List At} (lC : Z9 (YF (Tof T0 X) h σ.ob w) xs vs) (gT : J5 σ xs = some ds) (lW : Qe σ xs) (iV : (XH xs).Nodup) : KT w vs ds (zV σ h (XH xs)) := by
 obtain ⟨hl, gT⟩ := qY gT
 refine ⟨by rw [<- lC.length, hl], fun k b => ∃ t j lo len, xs[k]? = some (.sref t j lo len) /\ σ.ob t j ≠ .none /\ (h t j).u b, fun k v d hv hd => ?_, ?_, ?_⟩
 ·obtain ⟨x, hx, hr⟩ := lC.get' k v hv
  have hm := gT k x d hx hd
  have ho := RK lW k x hx
  cases x with
  | d x =>
   cases x with
   | sl s rows => simp [mvD] at hm
   | int k n => simp [mvD] at hm; subst hm; exact Rd.own rfl hr
   | bool b => simp [mvD] at hm; subst hm; exact Rd.own rfl hr
   | str s => simp [mvD] at hm; subst hm; exact Rd.own rfl hr
   | unk => simp [mvD] at hm; subst hm; exact Rd.own rfl hr
  | nil s =>
   simp [mvD] at hm; subst hm
   cases hr
   exact .sl _ s [] _ 0 [] (fun _ _ => False) (World.ownsRow_nil w 0 0 s) zA4 (fun b hb => by cases hb) rfl (fun k x d hx => by simp at hx) (fun k b hb => hb.elim) (fun i j b hb => hb.elim)
  | sref t j lo len =>
   simp only [mvD] at hm
   split at hm
   ·rename_i q size rows lS
    split at hm
    ·rename_i hc
     obtain ⟨rfl, rfl⟩ := hc
     cases hm
     obtain ⟨_, hZ, _⟩ := hr.2.1 q size rows lS
     rw [hZ rfl rfl]
     refine (r.oz lS (fun hq => ?_)).mono (fun b hb => ⟨t, j, 0, rows.length, hx, by rw [lS]; simp, hb⟩)
     subst hq
     simp only [ED, lS] at ho; exact ho
    ·cases hm
   ·cases hm
  | any => simp [mvD] at hm
  | ptr => simp [mvD] at hm
  | bptr => simp [mvD] at hm
  | fn => simp [mvD] at hm
  | rptr => simp [mvD] at hm
  | tref => simp [mvD] at hm
 ·rintro k b ⟨t, j, lo, len, hx, lA, hu⟩
  exact ⟨(t, j), EZ hx, lA, hu⟩
 ·rintro i k b ⟨t, j, lo, len, hx, lA, hu⟩ ⟨t', j', db, fh, eR, l8, gr⟩
  obtain ⟨rfl, rfl⟩ := r.inj t j t' j' b lA l8 hu gr
  exact Ld xs i k t j lo len db fh iV hx eR
theorem KT.append {xs : List Value} (h1 : KT w xs ds S) (h2 : KT w ys es S') (hd : ∀ b, S b -> S' b -> False) : KT w (xs ++ ys) (ds ++ es) (fun b => S b \/ S' b) := by
 obtain ⟨l1, Sk, a1, a2, a3⟩ := h1
 obtain ⟨l2, bM, b1, b2, b3⟩ := h2
 refine ⟨by simp [l1, l2], fun k => if k < xs.length then Sk k else bM (k - xs.length), fun k x d hx lL => ?_, fun k b hb => ?_, fun i j b hi hj => ?_⟩
 ·by_cases hk : k < xs.length
  ·simp only [hk, if_true]
   rw [List.getElem?_append_left hk] at hx
   rw [List.getElem?_append_left zAA] at lL
   exact a1 k x d hx lL
  ·simp only [hk, if_false]
   rw [List.getElem?_append_right zAA] at hx
   rw [List.getElem?_append_right zAA, <- l1] at lL
   exact b1 _ x d hx lL
 ·by_cases hk : k < xs.length
  ·simp only [hk, if_true] at hb; exact .inl (a2 k b hb)
  ·simp only [hk, if_false] at hb; exact .inr (b2 _ b hb)
 ·by_cases hG : i < xs.length
  ·simp only [hG, if_true] at hi
   by_cases fP : j < xs.length
   ·simp only [fP, if_true] at hj; exact a3 i j b hi hj
   ·simp only [fP, if_false] at hj; exact (hd b (a2 i b hi) (b2 _ b hj)).elim
  ·simp only [hG, if_false] at hi
   by_cases fP : j < xs.length
   ·simp only [fP, if_true] at hj; exact (hd b (a2 j b hj) (b2 _ b hi)).elim
   ·simp only [fP, if_false] at hj
    have := b3 _ _ b hi hj; omega
theorem KT.mono {xs : List Value} (hS : ∀ b, S b -> S' b) (h1 : KT w xs ds S) : KT w xs ds S' := by
 obtain ⟨l1, Sk, a1, a2, a3⟩ := h1
 exact ⟨l1, Sk, a1, fun k b hb => hS b (a2 k b hb), a3⟩
theorem KT.nil (S : Nat -> Prop) : KT w [] [] S := ⟨rfl, fun _ _ => False, fun k x d hx => by simp at hx, fun _ _ hb => hb.elim, fun _ _ _ hb => hb.elim⟩
theorem Rel.z8 (r : Rel T0 B σ a w X h) (l : List (Nat × Nat)) (b : Nat) (hb : zV σ h l b) : ¬ B b /\ ¬ X b /\ b < w.heap.size /\ ∀ u i, (σ.Zz l).ob u i ≠ .none -> ¬ (h u i).u b := by
 obtain ⟨p, hp, lA, hu⟩ := hb
 have ho := r.own p.1 p.2 b lA hu
 refine ⟨ho.1, ho.2.1, ho.2.2, fun u i hn gr => ?_⟩
 rw [St.Kn] at hn
 split at hn
 ·exact hn rfl
 ·rename_i bV
  obtain ⟨h1, h2⟩ := r.inj p.1 p.2 u i b lA hn hu gr
  exact bV (by rw [<- h1, <- h2]; exact hp)
open Go.RowKit
def N3 (P : Program) (σ : St) (T : TypeId) (size : Nat) : List (Nat × Operand) -> Nat -> List (List At) -> Prop
 | [], _, rs => rs = []
 | (i, x) :: ps, k, rs => i = k /\ gOf (look P σ T x) = true /\ (unc (look P σ T x)).flat = true /\ (unc (look P σ T x)).cells.length = size /\
   ∃ rest, N3 P σ T size ps (k + 1) rest /\ rs = (unc (look P σ T x)).cells :: rest
theorem By (r : Rel T0 B σ a w X h) (T : TypeId) (size : Nat) : ∀ (ps : List (Nat × Operand)) (k : Nat) (rs : List (List At)) (cells : Array Value), N3 P σ T size ps k rs -> (k + ps.length) * size <= cells.size ->
   ∃ lI ys, Instr.fill (fun i => some (i * size, size)) cells (ps.map fun x => (x.1, a.eval x.2)) = some lI /\ lI.toList = place cells.toList (k * size) ys /\ Z9 (YF (Tof T0 X) h σ.ob w) rs.flatten ys /\ (∀ q ∈ rs, q.length = size) /\ rs.length = ps.length
 | [], k, rs, cells, hb, _ => zBL
 | (i, x) :: ps, k, rs, cells, hb, hl => by
  obtain ⟨rfl, hg, hf, hlen, rest, hb, rfl⟩ := hb
  have hx := Wf hf (r.arg (P := P) T x rfl hg)
  have bA := hx.length
  have e1 : cells.toList.length = cells.size := Array.length_toList
  have e2 : (a.eval x).cells.toList.length = (a.eval x).cells.size := Array.length_toList
  have hmul : (i + (ps.length + 1)) * size = i * size + size + ps.length * size := zBY
  simp only [List.length_cons] at hl
  have heq := SM (i * size) (a.eval x).cells cells zAA
  have fG : ((a.eval x).cells.zipIdx.foldl (fun cs x => cs.setIfInBounds (i * size + x.2) x.1) cells).size = cells.size := by
   rw [<- Array.length_toList, heq, X1 _ _ _ zAA, e1]
  have hmul2 : (i + 1 + ps.length) * size = i * size + size + ps.length * size := zBY
  obtain ⟨lI, ys, h1, h2, h3, h4, h5⟩ := By r T size ps (i + 1) rest _ hb (by rw [fG]; omega)
  have gM : ys.length = ps.length * size := by rw [<- h3.length, YM rest size h4, h5]
  refine ⟨lI, (a.eval x).cells.toList ++ ys, ?_, ?_, ?_, ?_, by simp [h5]⟩
  ·simp only [List.map_cons, Instr.fill]
   rw [if_neg zAk]
   exact h1
  ·rw [h2, heq]
   rw [show (i + 1) * size = i * size + (a.eval x).cells.toList.length by rw [Nat.add_mul]; omega]
   exact La _ _ _ _ zAk
  ·rw [List.flatten_cons]; exact hx.append h3
  ·intro q hq
   rcases List.mem_cons.1 hq with rfl | hq
   ·exact hlen
   ·exact h4 q hq
theorem R5 (r : Rel T0 B σ a w X h) {T : TypeId} {rows : List (List At)} (my : o.op = .buildSlice T n parts) (hd : o.dst = some d) (iJ : σ.fresh d = true)
  (ht : XZ P T = true) (hz : Qc P (ZR P T) = true) (iS : 0 < P.cellsOf (ZR P T)) (hn : parts.toList.length = n) (hsm : n * P.cellsOf (ZR P T) <= 16777216) (hb : N3 P σ (ZR P T) (P.cellsOf (ZR P T)) parts.toList 0 rows) (hrf : YW d rows.flatten = false)
  (hK : ∀ a' w', Jz T0 B (σ.new d (.one (.sref d 0 0 rows.length)) [.lit (P.cellsOf (ZR P T)) rows]) a' w' -> Y8 B w w' -> K a' w') : o.wp P a w K Q := by
 obtain ⟨ti, hu, hi, fE⟩ := X6 ht
 obtain ⟨i, z, row, hG, fU, gx, fG, fk, gJ, gq⟩ := xO hz
 rw [hi] at hG; cases hG
 have g9 : (zeroValue (ZR P T)).run P w = .ok z w := by simp [zeroValue, typeInfo, hi, fU]
 obtain ⟨zero, hzero⟩ : ∃ zero : Array Value, (n * P.cellsOf (ZR P T) = 0 -> zero = #[]) /\ (¬ n * P.cellsOf (ZR P T) = 0 -> zero = z.cells) := by
  by_cases h0 : n * P.cellsOf (ZR P T) = 0
  ·exact ⟨#[], fun _ => rfl, fun hh => absurd h0 hh⟩
  ·exact ⟨z.cells, fun hh => absurd hh h0, fun _ => rfl⟩
 obtain ⟨lI, ys, h1, h2, h3, h4, h5⟩ := By r (ZR P T) (P.cellsOf (ZR P T)) parts.toList 0 rows ((Array.range (n * P.cellsOf (ZR P T))).map (zero[· % zero.size]!)) hb (by simp [hn])
 have gM : ys.length = n * P.cellsOf (ZR P T) := by rw [<- h3.length, YM rows _ h4, h5, hn]
 have lp : lI.toList = ys := by
  rw [h2]
  unfold place
  simp [gM]
 have fV : (parts.map fun (x : Nat × Operand) => (x.1, a.eval x.2)).toList = parts.toList.map fun x => (x.1, a.eval x.2) := zAF
 have lT : (execOp a.eval o).run P w = .ok (.value (.slice (some ⟨w.heap.size, 0, none⟩) n n)) (w.alloc (.cells lI (ZR P T))) := by
  have ff : ¬ (n * P.cellsOf (ZR P T) > 2 ^ 24) := zAA
  by_cases h0 : n * P.cellsOf (ZR P T) = 0
  ·have e8 := hzero.1 h0
   subst e8
   simp only [execOp, my, Instr.buildSlice, Sem.run_bind, run_underlying hu, Result.andThen_ok, Kb hi, if_neg ff, if_pos h0, fV, h1, newRow, Sem.run_pure, run_newObj_alloc]
  ·have e8 := hzero.2 h0
   subst e8
   simp only [execOp, my, Instr.buildSlice, Sem.run_bind, run_underlying hu, Result.andThen_ok, Kb hi, if_neg ff, if_neg h0, g9, fV, h1, newRow, Sem.run_pure, run_newObj_alloc]
 unfold Oper.wp
 rw [lT, Oper.upon_value, hd]
 have hlen : rows.length = n := by rw [h5, hn]
 have hg := World.grownBy_alloc w (.cells lI (ZR P T)) none
 have lH := St.zO iJ
 have hT : ∀ b k v, Tof T0 X b k -> w.cell? ⟨b, k, none⟩ = some v -> (w.alloc (.cells lI (ZR P T))).cell? ⟨b, k, none⟩ = some v /\ Tof T0 X b k := by
  intro b k v hb lJ
  refine ⟨?_, hb⟩
  rw [World.cell?_of_block (hg.block b (r.Tlt hb) zAF)]; exact lJ
 have bG : lI.size = n * P.cellsOf (ZR P T) := by rw [<- Array.length_toList, lp, gM]
 have gb : n <= maxLen := by
  have : n <= n * P.cellsOf (ZR P T) := Nat.le_mul_of_pos_right _ iS
  simp only [maxLen]; omega
 have lE : (w.alloc (.cells lI (ZR P T))).ownsRow 0 (ZR P T) (P.cellsOf (ZR P T)) (.slice (some ⟨w.heap.size, 0, none⟩) n n) rows.length ys :=
  ⟨by rw [gM, hlen], .inr ⟨w.heap.size, n, lI, by rw [hlen], Nat.zero_le _, heap_alloc_new w _, zAA, gb, bG, by rw [lp, hlen, List.take_of_length_le zAA]⟩⟩
 refine hK _ _ ⟨X, fun t j => if t = d then Hd.of (.slice (some ⟨w.heap.size, 0, none⟩) n n) else h t j, ?_⟩ (Y8.Tm hg r.hB)
 have iT : (σ.new d (.one (.sref d 0 0 rows.length)) [.lit (P.cellsOf (ZR P T)) rows]).ob d 0 = .lit (P.cellsOf (ZR P T)) rows := zA2
 have hc : ∀ t j, t ≠ d -> Cpt h (fun t j => if t = d then Hd.of (.slice (some ⟨w.heap.size, 0, none⟩) n n) else h t j) σ.ob (σ.new d (.one (.sref d 0 0 rows.length)) [.lit (P.cellsOf (ZR P T)) rows]).ob t j := by
  intro t j lA
  have he : (σ.new d (.one (.sref d 0 0 rows.length)) [.lit (P.cellsOf (ZR P T)) rows]).ob t j = σ.ob t j := zBj
  exact Cpt.same (by simp [lA]) he
 refine r.new iJ hg (fun _ hb => hb) (fun _ hb => .inl hb) _ _ [.lit (P.cellsOf (ZR P T)) rows] (fun _ => Hd.of (.slice (some ⟨w.heap.size, 0, none⟩) n n)) ?_ (fun j => ?_) (fun j b _ hb => hb) (fun j b _ lP => ?_) (fun j j' b lA l8 _ _ => ?_)
 ·refine ⟨KD lE, fun q' lU lM lb => (by rw [iT] at lb; cases lb), fun lU lM lb => ?_⟩
  rw [iT] at lb; cases lb
  simp only [if_true]
  exact VC lE
 ·cases j with
  | zero => exact ⟨ZR P T, ys, lE, h4, Vi hT hc hrf h3⟩
  | succ j => simp [Yj, J0]
 ·simp [Hd.of, blk] at lP; subst lP
  refine ⟨Nat.le_refl _, fun eR => ?_, zAF⟩
  have := (r.hX _ eR).2; omega
 ·have : ∀ j, Yj [Ob.lit (P.cellsOf (ZR P T)) rows] j ≠ .none -> j = 0 := by
   intro j hj
   cases j with
   | zero => rfl
   | succ j => simp [Yj] at hj
  rw [this j lA, this j' l8]
theorem Aa {T : CS} {ob : Nat -> Nat -> Ob} : ∀ {xs : List At} {ds : List D} {vs : List Value}, zD xs = some ds -> Z9 (YF T h ob w) xs vs -> (∀ x ∈ xs, ∀ s r, x ≠ .d (.sl s r)) -> ∀ (w' : World) (S : Nat -> Prop) (k : Nat) (v : Value) (d : D), vs[k]? = some v -> ds[k]? = some d -> Own w' v d S
 | [], ds, vs, hz, lC, _, w', S, k, v, d, hv, _ => by cases lC; simp at hv
 | x :: xs, ds, vs, hz, lC, eu, w', S, k, v, d, hv, hd => by
  cases lC with
  | cons hx lC =>
   cases x with
   | d x =>
    simp only [zD, Option.map_eq_some_iff] at hz
    obtain ⟨dh, g8, rfl⟩ := hz
    cases k with
    | zero =>
     simp at hv hd; subst hv; subst hd
     cases x with
     | sl s r => exact absurd rfl (eu _ zAF s r)
     | int k n => cases (show Rd _ _ _ _ from hx); exact .int _ _ _
     | bool b => cases (show Rd _ _ _ _ from hx); exact .bool _ _
     | str s => cases (show Rd _ _ _ _ from hx); exact .str _ _
     | unk => exact .unk _ (Rd.QL hx) _
    | succ k => exact Aa g8 lC (fun x hx => eu x (by simp [hx])) w' S k v d (by simpa using hv) (by simpa using hd)
   | nil s =>
    simp only [zD, Option.map_eq_some_iff] at hz
    obtain ⟨dh, g8, rfl⟩ := hz
    cases k with
    | zero =>
     simp at hv hd; subst hv; subst hd
     cases hx
     exact .sl _ s [] _ 0 [] (fun _ _ => False) (World.ownsRow_nil w' 0 0 s) zA4 (fun b hb => by cases hb) rfl (fun k x d hx => by simp at hx) (fun k b hb => hb.elim) (fun i j b hb => hb.elim)
    | succ k => exact Aa g8 lC (fun x hx => eu x (by simp [hx])) w' S k v d (by simpa using hv) (by simpa using hd)
   | any => simp [zD] at hz
   | sref => simp [zD] at hz
   | ptr => simp [zD] at hz
   | bptr => simp [zD] at hz
   | fn => simp [zD] at hz
   | rptr => simp [zD] at hz
   | tref => simp [zD] at hz
def vz (σ : St) (x : V) (size : Nat) (lB : List (List D)) (l : List (Nat × Nat)) : Prop :=
 match x with
 | .one (.nil _) => lB = [] /\ l = []
 | .one (.sref t j lo len) => σ.ob t j = .arr true size lB /\ lo = 0 /\ len = lB.length /\ l = [(t, j)]
 | _ => False
def v3 (σ : St) (x : V) (size : Nat) (news : List (List D)) (l : List (Nat × Nat)) : Prop :=
 match x with
 | .one (.sref t j lo len) => ∃ rows, σ.ob t j = .lit size rows /\ lo = 0 /\ len = rows.length /\ Ku σ rows = some news /\ KV σ rows /\ l = XH rows.flatten
 | _ => False
theorem GK (r : Rel T0 B σ a w X h) {t e0 : TypeId} {m cap : Nat} {ti : TypeInfo} {z : Value} {xs : List Value} (my : o.op = .call ⟨.builtin .append, #[x, y], #[t, t]⟩) (hd : o.dst = some d)
  (hu : P.underlying t = some (.slice (ZR P t))) (hi : P.info? (ZR P t) = some ti) (fU : ti.zero = some z) (fk : z.cells.size = ti.size) (iS : 0 < ti.size) (iJ : σ.fresh d = true) (iL : (m + n) * ti.bytes <= 140737488355328) (eS : m + n <= 9223372036854775807)
  (lE : w.ownsRow 0 e0 ti.size (a.eval x) m xs) (gG : ∀ b, blk (a.eval x) = some b -> N b) (hN : ∀ b, N b -> ¬ B b /\ ¬ X b /\ b < w.heap.size /\ ∀ u j, σ.ob u j ≠ .none -> ¬ (h u j).u b)
  (cS : a.eval y = .slice base n cap) (fz : base = none -> cap = 0 /\ n = 0) (gM : ys.length = n * ti.size) (lJ : ∀ ad, base = some ad -> ∀ k v, ys[k]? = some v -> w.cell? (ad.add k) = some v) (h1c : ∀ v ∈ ys, v.oneCell' = true)
  (eE : rs.length = m + n) (hrz : ∀ q ∈ rs, q.length = ti.size) (hOw : KT w (xs ++ ys) rs.flatten (fun b => N b /\ blk (a.eval x) ≠ some b))
  (hK : ∀ a' w', Jz T0 B (σ.new d (.one (.sref d 0 0 (m + n))) [.arr true ti.size rs]) a' w' -> Y8 B w w' -> K a' w') : o.wp P a w K Q := by
 have lH := St.zO iJ
 have key : ∀ (v' : Value) (w' : World) (e1 : TypeId), (Builtin.append_ #[t, t] o.type #[a.eval x, a.eval y]).run P w = .ok v' w' -> w'.ownsRow 0 e1 ti.size v' (m + n) (xs ++ ys) ->
   w.grownBy w' (blk (a.eval x)) -> (∀ b, blk v' = some b -> (w.heap.size <= b /\ b < w'.heap.size) \/ blk (a.eval x) = some b) -> o.wp P a w K Q := by
  intro v' w' e1 lT lb fA aJ
  unfold Oper.wp
  have bF : (execOp a.eval o).run P w = .ok (.value v') w' := by
   simp only [execOp, my, resolve, invoke, builtin, Sem.run_bind, Sem.run_pure, Result.andThen_ok, List.map_toArray, List.map_cons, List.map_nil, lT]
  rw [bF, Oper.upon_value, hd]
  refine hK _ _ ⟨X, fun u j => if u = d then ⟨v', fun k => ((xs ++ ys)[k]?).getD undef, fun b => blk v' = some b \/ (N b /\ blk (a.eval x) ≠ some b)⟩ else h u j, ?_⟩
   ⟨fA.os, fA.tape, fA.output, fA.size, fun k hk => fA.block k (r.hB k hk) (fun e => (hN k (gG k e.symm)).1 hk)⟩
  have iT : (σ.new d (.one (.sref d 0 0 (m + n))) [.arr true ti.size rs]).ob d 0 = .arr true ti.size rs := zA2
  have iY : w'.ownsRow 0 e1 ti.size v' rs.length (xs ++ ys) := by rw [eE]; exact lb
  have hOw2 : KT w' (xs ++ ys) rs.flatten (fun b => (blk v' = some b \/ (N b /\ blk (a.eval x) ≠ some b)) /\ blk v' ≠ some b) := by
   refine (hOw.Nd (fun b hb => fA.block b (hN b hb.1).2.2.1 (fun e => hb.2 e.symm))).mono (fun b hb => ⟨.inr hb, fun e => ?_⟩)
   rcases aJ b e with hl | hl
   ·have := (hN b hb.1).2.2.1; omega
   ·exact hb.2 hl
  refine r.wI iJ N fA.size (fun k hk lA => fA.block k hk (fun e => lA (gG k e.symm))) (fun b hb => ⟨(hN b hb).1, (hN b hb).2.1, fun u j _ lA => (hN b hb).2.2.2 u j lA⟩) (fun _ hb => hb) (fun _ hb => .inl hb) _ _ [.arr true ti.size rs]
   (fun _ => ⟨v', fun k => ((xs ++ ys)[k]?).getD undef, fun b => blk v' = some b \/ (N b /\ blk (a.eval x) ≠ some b)⟩) ?_ (fun j => ?_) (fun j b _ hb => .inl hb) (fun j b lA lP => ?_) (fun j j' b lA l8 _ _ => ?_)
  ·refine ⟨KD lb, fun q' lU lM hh => ?_, fun lU lM hh => by rw [iT] at hh; cases hh⟩
   rw [iT] at hh; cases hh
   simp only [if_true]
   rw [<- eE]
   exact VC iY
  ·cases j with
   | zero => exact ⟨e1, xs ++ ys, iY, hrz, hOw2, fun k x d hx _ _ => by simp [hx]⟩
   | succ j => simp [Yj, J0]
  ·rcases lP with lP | lP
   ·rcases aJ b lP with h1 | h1
    ·exact ⟨.inl h1.1, fun hx => by have := (r.hX b hx).2; omega, h1.2⟩
    ·have h2 := hN b (gG b h1)
     exact ⟨.inr (gG b h1), h2.2.1, by have := fA.size; omega⟩
   ·have h2 := hN b lP.1
    exact ⟨.inr lP.1, h2.2.1, by have := fA.size; omega⟩
  ·have : ∀ j, Yj [Ob.arr true ti.size rs] j ≠ .none -> j = 0 := by
    intro j hj
    cases j with
    | zero => rfl
    | succ j => simp [Yj] at hj
   rw [this j lA, this j' l8]
 cases base with
 | none =>
  obtain ⟨rfl, rfl⟩ := fz rfl
  have hys : ys = [] := List.eq_nil_of_length_eq_zero (by rw [gM]; simp)
  have l4 : ∃ base cap, a.eval x = .slice base m cap /\ m <= cap /\ (base = none -> cap = 0) := by
   rcases lE.2 with ⟨h1, h2⟩ | ⟨g, cap, cur, h1, _, _, gh, _⟩
   ·exact ⟨none, 0, by rw [h1, h2], zAA, fun _ => rfl⟩
   ·exact ⟨_, cap, h1, gh, (fun hh => by cases hh)⟩
  obtain ⟨base, cap, hex, gh, hb0⟩ := l4
  refine key (a.eval x) w e0 ?_ (by rw [hys]; simpa using lE) ⟨rfl, rfl, rfl, Nat.le_refl _, fun _ _ _ => rfl⟩ (fun b hb => .inr hb)
  rw [cS, hex]
  exact V5 t o.type _ ti hu hi base m cap gh hb0
 | some ad =>
  obtain ⟨v', w', e1, lT, lb, fA, aJ⟩ := Rz (P := P) (w := w) t o.type _ e0 ti z hu hi fU fk iS (a.eval x) m xs lE ad n cap ys gM (lJ ad rfl) h1c (by simp only [maxLen]; omega) iL
  refine key v' w' e1 ?_ lb fA aJ
  rw [cS]; exact lT
theorem F3 (r : Rel T0 B σ a w X h) {t : TypeId} (my : o.op = .call ⟨.builtin .append, #[x, y], #[t, t]⟩) (hd : o.dst = some d)
  (fx : gOf (look P σ t x) = true) (fy : gOf (look P σ t y) = true) (ht : XZ P t = true) (hz : Qc P (ZR P t) = true) (iS : 0 < P.cellsOf (ZR P t))
  (gA : vz σ (unc (look P σ t x)) (P.cellsOf (ZR P t)) lB l1) (fp : v3 σ (unc (look P σ t y)) (P.cellsOf (ZR P t)) news l2) (iV : (l1 ++ l2).Nodup) (iJ : (σ.Zz (l1 ++ l2)).fresh d = true)
  (iL : (lB.length + news.length) * P.bytesOf (ZR P t) <= 140737488355328) (eS : lB.length + news.length <= 9223372036854775807)
  (hK : ∀ a' w', Jz T0 B ((σ.Zz (l1 ++ l2)).new d (.one (.sref d 0 0 (lB.length + news.length))) [.arr true (P.cellsOf (ZR P t)) (lB ++ news)]) a' w' -> Y8 B w w' -> K a' w') : o.wp P a w K Q := by
 obtain ⟨ti, hu, hi, fE⟩ := X6 ht
 obtain ⟨i, z, row, hG, fU, gx, fG, fk, gJ, gq⟩ := xO hz
 rw [hi] at hG; cases hG
 have bB : P.bytesOf (ZR P t) = ti.bytes := zBS
 rw [bB] at iL
 rw [<- gJ] at gA fp iS hK
 have ek := r.arg (P := P) t x rfl fx
 have bU := r.arg (P := P) t y rfl fy
 obtain ⟨t2, j2, rows, hsy, cb, gT, gk, bA⟩ : ∃ t2 j2 rows, unc (look P σ t y) = .one (.sref t2 j2 0 rows.length) /\ σ.ob t2 j2 = .lit ti.size rows /\ Ku σ rows = some news /\ KV σ rows /\ l2 = XH rows.flatten := by
  unfold v3 at fp
  split at fp
  ·rename_i t2 j2 lo len heq
   obtain ⟨rows, ho, rfl, rfl, hm, hk, rfl⟩ := fp
   exact ⟨t2, j2, rows, heq, ho, hm, hk, rfl⟩
  ·exact fp.elim
 subst bA
 obtain ⟨hmv1, hmv2, hmv3⟩ := xq gT
 have hmok' := xe gk
 rw [hsy] at bU
 have h0 := r.obj t2 j2
 rw [cb] at h0
 obtain ⟨e2, ys, iY, hz2, ej⟩ := h0
 obtain ⟨_, hfull2, _⟩ := bU.2.2 _ _ cb
 have hey0 : a.eval y = (h t2 j2).v := hfull2 rfl rfl
 have az : ∀ q ∈ news, q.length = ti.size := hmv3 _ hz2
 have gZ := RL r ej hmv1 hmok' (List.nodup_append.1 iV).2.1
 have gF : ∃ e0 xs, w.ownsRow 0 e0 ti.size (a.eval x) lB.length xs /\ (∀ q ∈ lB, q.length = ti.size) /\ KT w xs lB.flatten (fun b => zV σ h l1 b /\ blk (a.eval x) ≠ some b) /\ (∀ b, blk (a.eval x) = some b -> zV σ h l1 b) := by
  unfold vz at gA
  split at gA
  ·rename_i s heq
   obtain ⟨rfl, rfl⟩ := gA
   rw [heq] at ek
   have he : a.eval x = .slice none 0 0 := ek
   rw [he]
   exact ⟨0, [], World.ownsRow_nil w 0 0 _, zA4, KT.nil _, (fun b hb => by cases hb)⟩
  ·rename_i u j lo len heq
   obtain ⟨ho, rfl, rfl, rfl⟩ := gA
   rw [heq] at ek
   have eo : YF (Tof T0 X) h σ.ob w (.sref u j 0 lB.length) (a.eval x) := ek
   obtain ⟨_, hZ, _⟩ := eo.2.1 _ _ _ ho
   have he : a.eval x = (h u j).v := hZ rfl rfl
   have h0 := r.obj u j
   rw [ho] at h0
   obtain ⟨e, xs, lE, hP, lC, hn⟩ := h0
   have lS : σ.ob u j ≠ .none := zAr
   rw [he]
   exact ⟨e, xs, lE, hP, lC.mono (fun b hb => ⟨⟨(u, j), zAF, lS, hb.1⟩, hb.2⟩), fun b hb => ⟨(u, j), zAF, lS, r.ub u j b lS hb⟩⟩
  ·exact gA.elim
 obtain ⟨e0, xs, lE, hoz, bD, gG⟩ := gF
 have gM : ys.length = news.length * ti.size := by rw [gZ.1, YM news ti.size az]
 have gW : ∀ b, zV σ h l1 b -> zV σ h (XH rows.flatten) b -> False := by
  rintro b ⟨p, hp, lA, hu⟩ ⟨p', cI, l8, gr⟩
  obtain ⟨e1, e2⟩ := r.inj p.1 p.2 p'.1 p'.2 b lA l8 hu gr
  have gz : p = p' := Prod.ext e1 e2
  subst gz
  exact (List.nodup_append.1 iV).2.2 p hp p cI rfl
 have cB : ∀ b, zV σ h (l1 ++ XH rows.flatten) b ↔ zV σ h l1 b \/ zV σ h (XH rows.flatten) b := by
  intro b
  constructor
  ·rintro ⟨p, hp, hr⟩
   rcases List.mem_append.1 hp with hp | hp
   ·exact .inl ⟨p, hp, hr⟩
   ·exact .inr ⟨p, hp, hr⟩
  ·rintro (⟨p, hp, hr⟩ | ⟨p, hp, hr⟩)
   ·exact ⟨p, by simp [hp], hr⟩
   ·exact ⟨p, by simp [hp], hr⟩
 have cU : ∀ b, zV σ h (XH rows.flatten) b -> blk (a.eval x) ≠ some b := fun b hb e => gW b (gG b e) hb
 have hv : ∃ base cap, a.eval y = .slice base news.length cap /\ (base = none -> cap = 0 /\ news.length = 0) /\ ∀ ad, base = some ad -> ∀ k v, ys[k]? = some v -> w.cell? (ad.add k) = some v := by
  rw [hey0]
  rcases iY.2 with ⟨hn1, hn2⟩ | ⟨g2, cap2, cur2, iW, _, fJ, hnc2, hmx2, hcs2, htk2⟩
  ·have hnl : news.length = 0 := by rw [<- hmv2]; exact hn2
   exact ⟨none, 0, by rw [hn1, hnl], fun _ => ⟨rfl, hnl⟩, fun ad hh => by cases hh⟩
  ·refine ⟨_, cap2, by rw [iW, hmv2], fun hh => (by cases hh), fun ad hh k v hk => ?_⟩
   cases hh
   rw [xx]
   refine zc fJ _ _ ?_
   rw [<- htk2, List.getElem?_take] at hk
   split at hk
   ·simpa using hk
   ·cases hk
 obtain ⟨base, cap, cS, fz, lJ⟩ := hv
 refine GK (r.Zz (l1 ++ XH rows.flatten)) my hd hu hi fU fk iS iJ iL eS lE (fun b hb => (cB b).2 (.inl (gG b hb))) (r.z8 (l1 ++ XH rows.flatten)) cS fz gM lJ
  (fun u gr => by
   obtain ⟨x', _, eR⟩ := ej.mem gr
   exact YF.QL eR) (List.length_append ..) (fun q hq => (List.mem_append.1 hq).elim (hoz q) (az q)) ?_ hK
 rw [List.flatten_append]
 exact (bD.append gZ (fun b ig l0 => gW b ig.1 l0)).mono (fun b hb => hb.elim (fun hb => ⟨(cB b).2 (.inl hb.1), hb.2⟩) (fun hb => ⟨(cB b).2 (.inr hb), cU b hb⟩))
theorem KT.pick {xs : List Value} (h1 : KT w xs ds S) {p q : Nat} (hp : p <= q) (hq : q + n <= xs.length) : KT w (xs.take p ++ cut xs q n) (ds.take p ++ cut ds q n) S := by
 obtain ⟨hl, Sk, hk, hs, hd⟩ := h1
 have dH : (xs.take p).length = p := zA0
 have dw : (ds.take p).length = p := zA0
 refine ⟨by rw [List.length_append, List.length_append, dH, dw, XQ _ _ _ hq, XQ _ _ _ zAA], fun k => if k < p then Sk k else Sk (q + (k - p)), fun k x d hx lL => ?_, fun k b hb => ?_, fun i j b hi hj => ?_⟩
 ·by_cases hkp : k < p
  ·rw [List.getElem?_append_left zAA] at hx lL
   rw [List.getElem?_take, if_pos hkp] at hx lL
   simp only [if_pos hkp]
   exact hk k x d hx lL
  ·rw [List.getElem?_append_right zAA, dH] at hx
   rw [List.getElem?_append_right zAA, dw] at lL
   simp only [if_neg hkp]
   exact hk _ x d (zq _ _ _ _ _ hx) (zq _ _ _ _ _ lL)
 ·dsimp only at hb
  split at hb <;> exact hs _ b hb
 ·dsimp only at hi hj
  split at hi <;> split at hj
  ·exact hd _ _ b hi hj
  ·have := hd _ _ b hi hj; omega
  ·have := hd _ _ b hi hj; omega
  ·have := hd _ _ b hi hj; omega
theorem Rj (rows : List (List D)) (size : Nat) (hz : ∀ r ∈ rows, r.length = size) (lo n : Nat) (hle : lo + n <= rows.length) : (cut rows lo n).flatten = cut rows.flatten (lo * size) (n * size) := by
 have hdz : ∀ r ∈ rows.drop lo, r.length = size := fun r hr => hz r (List.mem_of_mem_drop hr)
 have e1 : (rows.drop lo).flatten = rows.flatten.drop (lo * size) := by
  have h1 := Ks rows size hz lo zAA
  have h2 : (rows.take lo).flatten ++ (rows.drop lo).flatten = rows.flatten := zBU
  have h3 : (rows.take lo).flatten.length = lo * size := by rw [YM _ size (fun r hr => hz r (List.mem_of_mem_take hr)), List.length_take]; congr 1; omega
  rw [<- h2, <- h3, List.drop_left]
 unfold cut
 rw [Ks (rows.drop lo) size hdz n (by rw [List.length_drop]; omega), e1]
theorem EF (r : Rel T0 B σ a w X h) {t : TypeId} (my : o.op = .call ⟨.builtin .append, #[x, y], #[t, t]⟩) (hd : o.dst = some d)
  (fx : gOf (look P σ t x) = true) (fy : gOf (look P σ t y) = true) (ht : XZ P t = true) (hz : Qc P (ZR P t) = true) (iS : 0 < P.cellsOf (ZR P t))
  (hx : unc (look P σ t x) = .one (.sref u j 0 len)) (hy : unc (look P σ t y) = .one (.sref u j lo n)) (ho : σ.ob u j = .arr true (P.cellsOf (ZR P t)) rows) (hle : len <= lo) (eH : lo + n <= rows.length) (iJ : (σ.Zz [(u, j)]).fresh d = true)
  (iL : (len + n) * P.bytesOf (ZR P t) <= 140737488355328) (eS : len + n <= 9223372036854775807)
  (hK : ∀ a' w', Jz T0 B ((σ.Zz [(u, j)]).new d (.one (.sref d 0 0 (len + n))) [.arr true (P.cellsOf (ZR P t)) (rows.take len ++ cut rows lo n)]) a' w' -> Y8 B w w' -> K a' w') : o.wp P a w K Q := by
 obtain ⟨ti, hu, hi, fE⟩ := X6 ht
 obtain ⟨i, z, row, hG, fU, gx, fG, fk, gJ, gq⟩ := xO hz
 rw [hi] at hG; cases hG
 have bB : P.bytesOf (ZR P t) = ti.bytes := zBS
 rw [bB] at iL
 rw [<- gJ] at ho iS hK
 have ek := r.arg (P := P) t x rfl fx
 have bU := r.arg (P := P) t y rfl fy
 rw [hx] at ek
 rw [hy] at bU
 have eo : YF (Tof T0 X) h σ.ob w (.sref u j 0 len) (a.eval x) := ek
 have hvy' : YF (Tof T0 X) h σ.ob w (.sref u j lo n) (a.eval y) := bU
 obtain ⟨_, _, gO, _⟩ := eo.2.1 _ _ _ ho
 have he : a.eval x = N9 (h u j).v len := gO rfl
 obtain ⟨_, _, _, base, cap, cS, hQ, bS, fz, hb⟩ := hvy'.2.1 _ _ _ ho
 have h0 := r.obj u j
 rw [ho] at h0
 obtain ⟨e0, zs, eF, hP, lC, hn⟩ := h0
 have lS : σ.ob u j ≠ .none := zAr
 have hzl : zs.length = rows.length * ti.size := eF.1
 have hm1 : len * ti.size <= lo * ti.size := Nat.mul_le_mul_right _ hle
 have hm2 : lo * ti.size + n * ti.size <= zs.length := by rw [hzl, <- Nat.add_mul]; exact Nat.mul_le_mul_right _ eH
 let xs := zs.take (len * ti.size)
 let ys := cut zs (lo * ti.size) (n * ti.size)
 have lE : w.ownsRow 0 e0 ti.size (a.eval x) len xs := by rw [he]; exact j7 eF zAA
 have gM : ys.length = n * ti.size := XQ _ _ _ hm2
 have hblx : blk (a.eval x) = blk (h u j).v := by rw [he, VZ]
 have hD : (rows.take len ++ cut rows lo n).flatten = rows.flatten.take (len * ti.size) ++ cut rows.flatten (lo * ti.size) (n * ti.size) := by
  rw [List.flatten_append, Ks rows ti.size hP len zAA, Rj rows ti.size hP lo n eH]
 have hflr : ∀ q ∈ rows.take len ++ cut rows lo n, q.length = ti.size := by
  intro q hq
  rcases List.mem_append.1 hq with hq | hq
  ·exact hP q (List.mem_of_mem_take hq)
  ·exact hP q (List.mem_of_mem_drop (List.mem_of_mem_take hq))
 have hlen : (rows.take len ++ cut rows lo n).length = len + n := by rw [List.length_append, List.length_take, XQ _ _ _ eH]; omega
 have bq : ∀ b, (h u j).u b -> zV σ h [(u, j)] b := fun b hb => ⟨(u, j), zAF, lS, hb⟩
 have gG : ∀ b, blk (a.eval x) = some b -> zV σ h [(u, j)] b := fun b hb => bq b (r.ub u j b lS (by rw [<- hblx]; exact hb))
 refine GK (r.Zz [(u, j)]) (xs := xs) (ys := ys) my hd hu hi fU fk zAA iJ iL eS lE gG (r.z8 [(u, j)]) cS (fun hh => ⟨fz hh, by have := fz hh; omega⟩) gM (fun ad had k v hv => ?_) (fun v hv => ?_) hlen hflr ?_ hK
 ·have gU : 0 < n := by
   rcases Nat.eq_zero_or_pos n with h0 | h0
   ·have hk := (List.getElem?_eq_some_iff.1 hv).1
    rw [gM, h0] at hk
    simp at hk
   ·exact h0
  obtain ⟨b, fj, hh, gp⟩ := hb gU
  rw [had] at gp
  cases gp
  rcases eF.2 with ⟨hn1, _⟩ | ⟨g, cA, cur, fD, _, aq, gh, gb, ga, g6⟩
  ·rw [hh] at hn1; cases hn1
  ·rw [hh] at fD; cases fD
   have h1 := zq _ _ _ _ _ hv
   rw [xx]
   refine zc aq _ _ ?_
   rw [<- g6, List.getElem?_take] at h1
   split at h1
   ·exact h1
   ·cases h1
 ·have iW : v ∈ zs := List.mem_of_mem_drop (List.mem_of_mem_take hv)
  obtain ⟨hl, Sk, hk, _⟩ := lC
  obtain ⟨k, gB⟩ := List.mem_iff_getElem?.1 iW
  have dE : k < rows.flatten.length := by rw [<- hl]; exact (List.getElem?_eq_some_iff.1 gB).1
  exact (hk k v _ gB (List.getElem?_eq_getElem dE)).QL
 ·rw [hD]
  exact (lC.pick hm1 hm2).mono (fun b hb => ⟨bq b hb.1, by rw [hblx]; exact hb.2⟩)
open Go.RowKit
def Ed : List At -> Bool
 | [] => true
 | .d (.sl _ _) :: _ => false
 | _ :: xs => Ed xs
theorem Bl : ∀ {xs : List At}, Ed xs = true -> ∀ x ∈ xs, ∀ s r, x ≠ .d (.sl s r)
 | [], _, x, hx, _, _ => zBp
 | y :: xs, h, x, hx, s, r => by
  have h2 : Ed xs = true /\ ∀ s r, y ≠ .d (.sl s r) := by
   cases y with
   | d z => cases z with
    | sl s r => cases h
    | _ => exact ⟨h, fun s r e => by cases e⟩
   | _ => exact ⟨h, fun s r e => by cases e⟩
  rcases List.mem_cons.1 hx with rfl | hx
  ·exact h2.2 s r
  ·exact Bl h2.1 x hx s r
theorem HR (r : Rel T0 B σ a w X h) {T : TypeId} (my : o.op = .makeSlice T x x) (hd : o.dst = some d) (iJ : σ.fresh d = true)
  (ht : XZ P T = true) (hz : Qc P (ZR P T) = true) (gx : Wa P 12 (ZR P T) = some z) (hzd : zD z = some zr) (hzf : Ed z = true) (iS : 0 < P.cellsOf (ZR P T)) (hx : Vq P σ x k (n : Int)) (bB : P.bytesOf (ZR P T) * n <= 281474976710656) (eS : n <= 9223372036854775807)
  (hK : ∀ a' w', Jz T0 B (σ.new d (.one (.sref d 0 0 n)) [.arr true (P.cellsOf (ZR P T)) (List.replicate n zr)]) a' w' -> Y8 B w w' -> K a' w') : o.wp P a w K Q := by
 obtain ⟨ti, hu, hi, fE⟩ := X6 ht
 obtain ⟨i, zv, row, hG, fU, bE, fG, fk, gJ, gq⟩ := xO hz
 rw [hi] at hG; cases hG
 rw [gx] at bE; cases bE
 have hex := qP r hx
 have hby' : (ti.bytes : Int) * (n : Int) <= 281474976710656 := by
  have : P.bytesOf (ZR P T) = ti.bytes := zBS
  rw [this] at bB
  have h : ((ti.bytes * n : Nat) : Int) <= 281474976710656 := zAA
  rwa [Int.natCast_mul] at h
 have lT := run_make (P := P) w T (ZR P T) ti zv hu hi fU k k n n zAA (Int.le_refl _) hby' zAA
 simp only [Int.toNat_natCast] at lT
 unfold Oper.wp
 simp only [execOp, my, hex, Sem.run_bind, lT, Result.andThen_ok, Sem.run_pure, Oper.upon_value, hd]
 have bn := Dj hzd (gq (Tof T0 X) h σ.ob w)
 have hzl := bn.length
 have e1 : zv.cells.toList.length = zv.cells.size := Array.length_toList
 have dN : zr.length = ti.size := zAA
 have fX : (madeCells zv.cells (n * ti.size)).toList.length = n * ti.size := by rw [Array.length_toList, size_madeCells]
 have bH : ∀ q u, (madeCells zv.cells (n * ti.size)).toList[q]? = some u -> zv.cells.toList[q % ti.size]? = some u := by
  intro q u hq
  have lH : q < n * ti.size := zBD
  have hmod : q % ti.size < zv.cells.size := by rw [fk]; exact Nat.mod_lt _ zAA
  have : (madeCells zv.cells (n * ti.size)).toList[q]? = some (zv.cells[q % zv.cells.size]!) := by
   simp [madeCells, lH]
  rw [this] at hq
  cases hq
  rw [fk]
  simp [hmod]
 have ej : KT (w.alloc (.cells (madeCells zv.cells (n * ti.size)) (ZR P T))) (madeCells zv.cells (n * ti.size)).toList (List.replicate n zr).flatten (fun _ => False) := by
  refine ⟨by rw [fX, YM _ ti.size (by intro q hq; rw [List.eq_of_mem_replicate hq]; exact dN)]; simp, fun _ _ => False, fun q u dd hq gY => ?_, fun _ _ hb => hb, fun _ _ _ hb => hb.elim⟩
  have lH : q < n * ti.size := zBD
  rw [ke zr n q (by rw [dN]; exact lH), dN] at gY
  exact Aa hzd (gq (Tof T0 X) h σ.ob w) (Bl hzf) _ _ _ u dd (bH q u hq) gY
 have := r.rU iJ (World.grownBy_alloc w (.cells (madeCells zv.cells (n * ti.size)) (ZR P T)) none) (.slice (some ⟨w.heap.size, 0, none⟩) n n) (e := ZR P T) (size := P.cellsOf (ZR P T)) (rows := List.replicate n zr) (xs := (madeCells zv.cells (n * ti.size)).toList)
  ⟨by rw [fX, gJ]; simp, .inr ⟨w.heap.size, n, _, zAF, Nat.zero_le _, heap_alloc_new w _, zAF, by simp only [maxLen]; omega, by rw [size_madeCells, gJ], by rw [List.take_of_length_le (by rw [fX, gJ]; simp)]⟩⟩
  (by intro q hq; rw [List.eq_of_mem_replicate hq]; omega) ej
  (fun b hb => by simp [blk] at hb; subst hb; exact ⟨Nat.le_refl _, zAF⟩)
 rw [List.length_replicate] at this
 exact hK _ _ this.1 this.2
theorem KT.place {xs : List Value} (h1 : KT w xs ds S) (h2 : KT w ys es S') (hd : ∀ b, S b -> S' b -> False) (o : Nat) (ho : o + ys.length <= xs.length) : KT w (Vm.place xs o ys) (Vm.place ds o es) (fun b => S b \/ S' b) := by
 obtain ⟨l1, Sk, a1, a2, a3⟩ := h1
 obtain ⟨l2, bM, b1, b2, b3⟩ := h2
 refine ⟨by rw [X1 _ _ _ ho, X1 _ _ _ zAA, l1], fun k => if o <= k /\ k < o + ys.length then bM (k - o) else Sk k, fun k x d hx lL => ?_, fun k b hb => ?_, fun i j b hi hj => ?_⟩
 ·rcases kn xs o ys ho k x hx with ⟨p1, p2, p3⟩ | ⟨p1, p3⟩
  ·rcases kn ds o es zAA k d lL with ⟨_, _, p4⟩ | ⟨p4, _⟩
   ·simp only [p1, p2, and_self, if_true]; exact b1 _ x d p3 p4
   ·exact absurd ⟨p1, zAA⟩ p4
  ·rcases kn ds o es zAA k d lL with ⟨p4, p5, _⟩ | ⟨_, p4⟩
   ·exact absurd ⟨p4, zAA⟩ p1
   ·simp only [p1, if_false]; exact a1 k x d p3 p4
 ·by_cases hk : o <= k /\ k < o + ys.length
  ·simp only [hk, and_self, if_true] at hb; exact .inr (b2 _ b hb)
  ·simp only [hk, if_false] at hb; exact .inl (a2 k b hb)
 ·by_cases hG : o <= i /\ i < o + ys.length
  ·simp only [hG, and_self, if_true] at hi
   by_cases fP : o <= j /\ j < o + ys.length
   ·simp only [fP, and_self, if_true] at hj
    have := b3 _ _ b hi hj; omega
   ·simp only [fP, if_false] at hj; exact (hd b (a2 j b hj) (b2 _ b hi)).elim
  ·simp only [hG, if_false] at hi
   by_cases fP : o <= j /\ j < o + ys.length
   ·simp only [fP, and_self, if_true] at hj; exact (hd b (a2 i b hi) (b2 _ b hj)).elim
   ·simp only [fP, if_false] at hj; exact a3 i j b hi hj
theorem IV (r : Rel T0 B σ a w X h) {T : TypeId} (my : o.op = .store T x y) (hd : o.dst = none) (ht : qT P T = true) (fx : gOf (look P σ 0 x) = true) (fy : gOf (look P σ T y) = true)
  (hx : unc (look P σ 0 x) = .one (.ptr t j i c)) (ho : σ.ob t j = .arr true size rows) (hi : i < rows.length) (hE : (unc (look P σ T y)).flat = true) (dQ : J5 σ (unc (look P σ T y)).cells = some ds) (lW : Qe σ (unc (look P σ T y)).cells)
  (iV : (XH (unc (look P σ T y)).cells).Nodup) (aI : (t, j) ∉ XH (unc (look P σ T y)).cells) (htr : (σ.Zz (XH (unc (look P σ T y)).cells)).yS (At.isT t) = false) (hl : ds.length = P.cellsOf T) (hle : c + P.cellsOf T <= size)
  (hK : ∀ a' w', Jz T0 B ((σ.Zz (XH (unc (look P σ T y)).cells)).Zu t j (.arr true size (rows.set i (place (rows.getD i []) c ds)))) a' w' -> Y8 B w w' -> K a' w') : o.wp P a w K Q := by
 obtain ⟨_, ti, _, hti, _, _⟩ := WK ht
 have hax := r.arg (P := P) 0 x hx fx
 obtain ⟨b, cap, cur, e, xs, hb, he, hh, hQ, gb, ga, g6, hz, ei, _, lE⟩ := r.arr ho hax
 obtain ⟨lE, hn⟩ := lE rfl
 have hy := Wf hE (r.arg (P := P) T y rfl fy)
 have gZ := RL r hy dQ lW iV
 have gM := gZ.1
 have e2 : (a.eval y).cells.toList.length = (a.eval y).cells.size := Array.length_toList
 have e3 : cur.toList.length = cur.size := Array.length_toList
 have lv : rows[i]? = some (rows.getD i []) := zAp
 have hmul : i * size + size <= rows.length * size := zBP
 have aL : rows.length * size <= cap * size := Nat.mul_le_mul_right _ hQ
 have lT := run_store (P := P) (w := w) hti (o := i * size + c) (val := a.eval y) hh zAA zAA (fun u hu => by obtain ⟨x', _, eR⟩ := hy.mem hu; exact YF.QL eR)
 have lS : σ.ob t j ≠ .none := zAr
 have lk : blk (h t j).v = some b := by rw [hb]; rfl
 have hB := r.pd lS lk
 have ir := r.ub t j b lS lk
 have dk : xs.length = rows.length * size := by rw [ei, YM rows size hz]
 have eE : (rows.getD i []).length = size := hz _ (List.mem_of_getElem? lv)
 generalize hL : XH (unc (look P σ T y)).cells = L at *
 have r1 := r.Zz L
 have fH : (σ.Zz L).ob t j = .arr true size rows := by rw [St.Kn, if_neg aI, ho]
 have iI := r.z8 L
 have gW : ∀ b', (h t j).u b' -> zV σ h L b' -> False := by
  rintro b' gr ⟨p, hp, lA, hup⟩
  obtain ⟨q1, q2⟩ := r.inj t j p.1 p.2 b' lS lA gr hup
  exact aI (by rw [q1, q2]; exact hp)
 unfold Oper.wp
 simp only [execOp, my, he, Sem.run_bind, lT, Result.andThen_ok, Sem.run_pure, Oper.upon_skip, hd]
 refine hK _ _ ⟨X, _, r1.change (by rw [fH]; simp) zBy (fun k hk => setRow_other w b k _ (fun e => hk (e ▸ ir))) (zV σ h L) (fun b' lP => iI b' lP) _ (by rw [fH]; simp [Ob.uo])
  ⟨(h t j).v, fun k => ((place xs (i * size + c) (a.eval y).cells.toList)[k]?).getD undef, fun b' => (h t j).u b' \/ zV σ h L b'⟩ rfl (fun b' lP => lP) (fun b' lP => .inl (r.ub t j b' lS lP)) (At.isT t) htr (.inl (fun u i c => by simp [At.isT])) ?_⟩ (Y8.setRow hB.1 _)
 have hJ := setRow_heap w b cur (place cur.toList (i * size + c) (a.eval y).cells.toList).toArray e (0, 0) hh
 have lQ : ∀ b', b' ≠ b -> (w.setRow b (place cur.toList (i * size + c) (a.eval y).cells.toList).toArray).heap[b']? = w.heap[b']? := fun b' lA => setRow_other w b b' _ lA
 have g8 : ∀ r ∈ rows.set i (place (rows.getD i []) c ds), r.length = size := by
  intro r' iu
  rcases List.mem_or_eq_of_mem_set iu with iu | iu
  ·exact hz r' iu
  ·rw [iu, X1 _ _ _ zAA, eE]
 refine ⟨e, place xs (i * size + c) (a.eval y).cells.toList, ⟨?_, .inr ⟨b, cap, _, by simpa using hb, Nat.zero_le _, hJ, by simpa using hQ, gb, ?_, ?_⟩⟩, g8, ?_, fun k u d hu _ _ => by simp [hu]⟩
 ·rw [X1 _ _ _ zAA, dk]; simp
 ·simp only [List.size_toArray]
  rw [X1 _ _ _ zAA, e3, ga]
 ·simp only [List.length_set]
  rw [OU _ _ _ _ zAA zAA, g6]
 ·rw [xX size c ds zAA rows i _ lv hz]
  have k1 : KT (w.setRow b (place cur.toList (i * size + c) (a.eval y).cells.toList).toArray) xs rows.flatten (fun b => (h t j).u b /\ blk (h t j).v ≠ some b) := lE.Nd (fun b' lP => lQ b' (fun e => lP.2 (by rw [e]; exact lk)))
  have k2 : KT (w.setRow b (place cur.toList (i * size + c) (a.eval y).cells.toList).toArray) (a.eval y).cells.toList ds (zV σ h L) := gZ.Nd (fun b' lP => lQ b' (fun e => gW b' (by rw [e]; exact ir) lP))
  refine (k1.place k2 (fun b' h1 h2 => gW b' h1.1 h2) _ zAA).mono (fun b' lP => ?_)
  rcases lP with lP | lP
  ·exact ⟨.inl lP.1, lP.2⟩
  ·exact ⟨.inr lP, fun e => gW b' (r.ub t j b' lS e) lP⟩
theorem Own.tw {S2 : Nat -> Prop} (gf : Own w v (.sl n s) S) {k q : Nat} (hk : k < s.length) (hy : KT w ys ds S2) (hle : q + ds.length <= n) (hd : ∀ b, S b -> S2 b -> False) :
  ∃ g cap cur e, v = .slice (some ⟨g, 0, none⟩) s.length cap /\ S g /\ w.heap[g]? = some (.cells cur e (0, 0)) /\ k * n + q + ys.length <= cur.size /\ Own (w.setRow g (place cur.toList (k * n + q) ys).toArray) v (.sl n (s.set k (place (s.getD k []) q ds))) (fun b => S b \/ S2 b) := by
 cases gf with
 | sl v size rows S e xs Sk ho hz hb hl gB hs lL =>
  have gM := hy.1
  obtain ⟨ei, ⟨_, h0⟩ | ⟨g, cap, cur, hv, fY, hh, hQ, gb, ga, g6⟩⟩ := ho
  ·omega
  have hSg : S g := hb g (by rw [hv]; rfl)
  have lv : s[k]? = some (s.getD k []) := by simp [List.getD_eq_getElem?_getD, List.getElem?_eq_getElem hk]
  have hmul : k * n + n <= s.length * n := by rw [<- Nat.succ_mul]; exact Nat.mul_le_mul_right _ hk
  have aL : s.length * n <= cap * n := Nat.mul_le_mul_right _ hQ
  have e3 : cur.toList.length = cur.size := Array.length_toList
  have eE : (s.getD k []).length = n := hz _ (List.mem_of_getElem? lv)
  refine ⟨g, cap, cur, e, hv, hSg, hh, zAA, ?_⟩
  have hJ := setRow_heap w g cur (place cur.toList (k * n + q) ys).toArray e (0, 0) hh
  have lQ : ∀ b', b' ≠ g -> (w.setRow g (place cur.toList (k * n + q) ys).toArray).heap[b']? = w.heap[b']? := fun b' lA => setRow_other w g b' _ lA
  have g8 : ∀ r ∈ s.set k (place (s.getD k []) q ds), r.length = n := by
   intro r' iu
   rcases List.mem_or_eq_of_mem_set iu with iu | iu
   ·exact hz r' iu
   ·rw [iu, X1 _ _ _ zAA, eE]
  have lk : blk v = some g := by rw [hv]; rfl
  have k1 : KT (w.setRow g (place cur.toList (k * n + q) ys).toArray) xs s.flatten (fun b => S b /\ blk v ≠ some b) :=
   KT.Nd (fun b' lP => lQ b' (fun e => lP.2 (by rw [e]; exact lk))) (show KT w xs s.flatten (fun b => S b /\ blk v ≠ some b) from ⟨hl, Sk, gB, fun k b hb => hs k b hb, lL⟩)
  have k2 : KT (w.setRow g (place cur.toList (k * n + q) ys).toArray) ys ds S2 := hy.Nd (fun b' lP => lQ b' (fun e => hd b' (by rw [e]; exact hSg) lP))
  have k3 := k1.place k2 (fun b' h1 h2 => hd b' h1.1 h2) (k * n + q) (by rw [ei]; omega)
  rw [<- xX n q ds zAA s k _ lv hz] at k3
  obtain ⟨hl3, Sk3, a1, a2, a3⟩ := k3
  refine .sl v n _ _ e (place xs (k * n + q) ys) Sk3 ⟨?_, .inr ⟨g, cap, _, by simpa using hv, fY, hJ, by simpa using hQ, gb, ?_, ?_⟩⟩ g8 (fun b' lP => .inl (hb b' lP)) hl3 a1 (fun k b lP => ?_) a3
  ·rw [X1 _ _ _ (by rw [ei]; omega), ei]; simp
  ·simp only [List.size_toArray]
   rw [X1 _ _ _ zAA, e3, ga]
  ·simp only [List.length_set]
   rw [OU _ _ _ _ zAA zAA, g6]
  ·rcases a2 k b lP with h1 | h1
   ·exact ⟨.inl h1.1, h1.2⟩
   ·exact ⟨.inr h1, fun e => hd b (hb b e) h1⟩
theorem Ib (r : Rel T0 B σ a w X h) {T : TypeId} (my : o.op = .store T x y) (hd : o.dst = none) (ht : qT P T = true) (fx : gOf (look P σ 0 x) = true) (fy : gOf (look P σ T y) = true)
  {k q : Nat} (hx : unc (look P σ 0 x) = .one (.tref t j i c (some (k * n + q)))) (ho : σ.ob t j = .arr true size rows) (hi : i < rows.length) (lJ : (rows.getD i [])[c]? = some (.sl n s)) (hk : k < s.length)
  (hE : (unc (look P σ T y)).flat = true) (dQ : J5 σ (unc (look P σ T y)).cells = some ds) (lW : Qe σ (unc (look P σ T y)).cells)
  (iV : (XH (unc (look P σ T y)).cells).Nodup) (aI : (t, j) ∉ XH (unc (look P σ T y)).cells) (hl : ds.length = P.cellsOf T) (hle : q + P.cellsOf T <= n)
  (hK : ∀ a' w', Jz T0 B ((σ.Zz (XH (unc (look P σ T y)).cells)).Zu t j (.arr true size (rows.set i (place (rows.getD i []) c [.sl n (s.set k (place (s.getD k []) q ds))])))) a' w' -> Y8 B w w' -> K a' w') : o.wp P a w K Q := by
 obtain ⟨_, ti, _, hti, _, _⟩ := WK ht
 have lS : σ.ob t j ≠ .none := zAr
 have h0 := r.obj t j
 rw [ho] at h0
 obtain ⟨e, vs, gf, hz, ⟨aH, Sk, o1, o2, o3⟩, hn⟩ := h0
 have lv : rows[i]? = some (rows.getD i []) := zAp
 have hD : rows.flatten[i * size + c]? = some (.sl n s) := jd rows size hz i _ lv c _ lJ
 have lH : i * size + c < vs.length := by rw [aH]; exact (List.getElem?_eq_some_iff.1 hD).1
 have bk : vs[i * size + c]? = some vs[i * size + c] := List.getElem?_eq_getElem lH
 have hnv := hn _ _ _ bk hD rfl
 have lE := o1 _ _ _ bk hD
 have hy := Wf hE (r.arg (P := P) T y rfl fy)
 have gZ := RL r hy dQ lW iV
 have gM := gZ.1
 have e2 : (a.eval y).cells.toList.length = (a.eval y).cells.size := Array.length_toList
 generalize hL : XH (unc (look P σ T y)).cells = L at *
 have gW : ∀ b', (h t j).u b' -> zV σ h L b' -> False := by
  rintro b' gr ⟨p, hp, lA, hup⟩
  obtain ⟨q1, q2⟩ := r.inj t j p.1 p.2 b' lS lA gr hup
  exact aI (by rw [q1, q2]; exact hp)
 have hSu : ∀ b, Sk (i * size + c) b -> (h t j).u b := fun b hb => (o2 _ b hb).1
 obtain ⟨g, cap, cur, e1, hv, hSg, hh, iZ, iK⟩ := lE.tw (q := q) hk gZ zAA (fun b h1 h2 => gW b (hSu b h1) h2)
 have hax := r.arg (P := P) 0 x hx fx
 have he : a.eval x = .pointer (some ⟨g, k * n + q, none⟩) := by
  obtain ⟨b, n', cA, h1, h2⟩ := hax.2 size rows ho
  rw [hnv, hv] at h1
  cases h1; exact h2
 have lT := run_store (P := P) (w := w) hti (o := k * n + q) (val := a.eval y) hh zAA zAA (fun u hu => by obtain ⟨x', _, eR⟩ := hy.mem hu; exact YF.QL eR)
 have hgB := r.own t j g lS (hSu g hSg)
 have r1 := r.Zz L
 have fH : (σ.Zz L).ob t j = .arr true size rows := by rw [St.Kn, if_neg aI, ho]
 have iI := r.z8 L
 have ga : c + 1 <= size := by
  have h1 := (List.getElem?_eq_some_iff.1 lJ).1
  have h2 := hz _ (List.mem_of_getElem? lv)
  omega
 have hfp := xX size c [D.sl n (s.set k (place (s.getD k []) q ds))] (by simpa using ga) rows i _ lv hz
 have hml : i * size + c + [D.sl n (s.set k (place (s.getD k []) q ds))].length <= rows.flatten.length := by rw [<- aH]; simp; omega
 have eE : (rows.getD i []).length = size := hz _ (List.mem_of_getElem? lv)
 have g8 : ∀ r ∈ rows.set i (place (rows.getD i []) c [D.sl n (s.set k (place (s.getD k []) q ds))]), r.length = size := by
  intro r' iu
  rcases List.mem_or_eq_of_mem_set iu with iu | iu
  ·exact hz r' iu
  ·rw [iu, X1 _ _ _ (by rw [eE]; simpa using ga), eE]
 have lQ : ∀ b', b' ≠ g -> (w.setRow g (place cur.toList (k * n + q) (a.eval y).cells.toList).toArray).heap[b']? = w.heap[b']? := fun b' lA => setRow_other w g b' _ lA
 have lk : ∀ b, blk (h t j).v = some b -> (w.setRow g (place cur.toList (k * n + q) (a.eval y).cells.toList).toArray).heap[b]? = w.heap[b]? := fun b hb => lQ b (fun e => (o2 _ g hSg).2 (by rw [<- e]; exact hb))
 unfold Oper.wp
 simp only [execOp, my, he, Sem.run_bind, lT, Result.andThen_ok, Sem.run_pure, Oper.upon_skip, hd]
 refine hK _ _ ⟨X, _, r1.change (by rw [fH]; simp) zBy (fun k' gB => lQ k' (fun e => gB (e ▸ hSu g hSg))) (zV σ h L) (fun b' lP => iI b' lP) _ (by rw [fH]; simp [Ob.uo])
  ⟨(h t j).v, (h t j).n, fun b' => (h t j).u b' \/ zV σ h L b'⟩ rfl (fun b' lP => lP) (fun b' lP => .inl (r.ub t j b' lS lP)) (fun _ => false) (St.qH _) (.inr rfl) ?_⟩ (Y8.setRow hgB.1 _)
 refine ⟨e, vs, by rw [List.length_set]; exact qc lk gf, g8, ⟨?_, fun k' => if k' = i * size + c then (fun b => Sk (i * size + c) b \/ zV σ h L b) else Sk k', fun k' x dd hx gY => ?_, fun k' b hb => ?_, fun p' q' b hp hq => ?_⟩, fun k' x dd hx gY ib => ?_⟩
 ·rw [hfp, X1 _ _ _ hml, aH]
 ·rw [hfp] at gY
  rcases kn _ _ _ hml k' dd gY with ⟨k1, k2, k3⟩ | ⟨k1, k3⟩
  ·have gB : k' = i * size + c := by simp at k2; omega
   subst gB
   rw [bk] at hx; cases hx
   simp at k3; subst k3
   simp only [if_true]; exact iK
  ·have gB : ¬ k' = i * size + c := fun gB => k1 ⟨zAA, by simp; omega⟩
   simp only [gB, if_false]
   exact (o1 k' x dd hx k3).Nd (fun b hb => lQ b (fun e => gB (o3 k' _ b hb (by rw [e]; exact hSg))))
 ·by_cases gB : k' = i * size + c
  ·simp only [gB, if_true] at hb
   rcases hb with hb | hb
   ·exact ⟨.inl (o2 _ b hb).1, (o2 _ b hb).2⟩
   ·exact ⟨.inr hb, fun e => gW b (r.ub t j b lS e) hb⟩
  ·simp only [gB, if_false] at hb; exact ⟨.inl (o2 k' b hb).1, (o2 k' b hb).2⟩
 ·by_cases cI : p' = i * size + c
  ·by_cases gj : q' = i * size + c
   ·rw [cI, gj]
   ·simp only [cI, if_true] at hp
    simp only [gj, if_false] at hq
    rcases hp with hp | hp
    ·rw [cI]; exact (o3 _ _ b hp hq)
    ·exact (gW b (o2 q' b hq).1 hp).elim
  ·simp only [cI, if_false] at hp
   by_cases gj : q' = i * size + c
   ·simp only [gj, if_true] at hq
    rcases hq with hq | hq
    ·rw [gj]; exact (o3 _ _ b hp hq)
    ·exact (gW b (o2 p' b hp).1 hq).elim
   ·simp only [gj, if_false] at hq; exact o3 p' q' b hp hq
 ·rw [hfp] at gY
  rcases kn _ _ _ hml k' dd gY with ⟨k1, k2, k3⟩ | ⟨k1, k3⟩
  ·have gB : k' = i * size + c := by simp at k2; omega
   subst gB
   rw [bk] at hx; cases hx; exact hnv
  ·exact hn k' x dd hx k3 ib
theorem RC {α β : Type} (f : α -> β) (l : List α) (k : Nat) : cut (l.map f) k (l.length - k) = (l.drop k).map f := by
 unfold cut
 rw [<- List.map_drop, <- List.map_take, List.take_of_length_le (by rw [List.length_drop]; exact Nat.le_refl _)]
def hol : D -> D
 | .sl _ _ => .unk
 | d => d
def Jw (rows : List (List D)) (lo n : Nat) : List (List D) := rows.take lo ++ (cut rows lo n).map (fun r => r.map hol) ++ rows.drop (lo + n)
theorem xz (h : lo + n <= rows.length) : (Jw rows lo n).length = rows.length := by
 simp only [Jw, List.length_append, List.length_map, List.length_take, List.length_drop, XQ _ _ _ h]; omega
theorem Lm {db n' : Nat} (h : lo + n <= rows.length) (h' : lo + n <= db) : cut (Jw rows lo n) db n' = cut rows db n' := by
 unfold cut
 congr 1
 have hl : (rows.take lo ++ (cut rows lo n).map (fun r => r.map hol)).length = lo + n := by
  simp only [List.length_append, List.length_map, List.length_take, XQ _ _ _ h]; omega
 unfold Jw
 rw [List.drop_append, List.drop_eq_nil_of_le zAA, hl, List.drop_drop, List.nil_append]
 congr 1
 omega
theorem Own.r9 {d : D} (hs : d.scalar = true) (ho : Own w v d S) : Own w v d S' := by
 cases ho with
 | int k n => exact .int _ _ _
 | bool b => exact .bool _ _
 | str s => exact .str _ _
 | unk v h => exact .unk _ h _
 | sl => cases hs
theorem Own.hol {d : D} (ho : Own w v d S) : Own w v (Vm.hol d) S' := by
 cases d with
 | sl s r => exact .unk _ ho.QL _
 | int k n => exact ho.r9 rfl
 | bool b => exact ho.r9 rfl
 | str s => exact ho.r9 rfl
 | unk => exact ho.r9 rfl
theorem AN (d : D) : (hol d).scalar = true := by cases d <;> rfl
theorem Lx (hz : ∀ r ∈ rows, r.length = size) (hle : lo + n <= rows.length) {k : Nat} {d : D} (hd : (Jw rows lo n).flatten[k]? = some d) :
  (lo * size <= k /\ k < lo * size + n * size /\ ∃ d', rows.flatten[k]? = some d' /\ d = hol d') \/ (¬ (lo * size <= k /\ k < lo * size + n * size) /\ rows.flatten[k]? = some d) := by
 have hE : rows.flatten.length = rows.length * size := YM rows size hz
 have hm : lo * size + n * size <= rows.length * size := zBQ
 have e1 : (rows.take lo).flatten = rows.flatten.take (lo * size) := Ks rows size hz lo zAA
 have e2 : ((cut rows lo n).map (fun r => r.map hol)).flatten = (cut rows.flatten (lo * size) (n * size)).map hol := by
  rw [<- Rj rows size hz lo n hle, List.map_flatten]
 have l1 : ((rows.take lo).flatten).length = lo * size := by rw [e1, List.length_take]; omega
 have l2 : (((cut rows lo n).map (fun r => r.map hol)).flatten).length = n * size := by rw [e2, List.length_map, XQ _ _ _ zAA]
 unfold Jw at hd
 rw [List.flatten_append, List.flatten_append] at hd
 by_cases h1 : k < lo * size + n * size
 ·rw [List.getElem?_append_left (by rw [List.length_append, l1, l2]; exact h1)] at hd
  by_cases h0 : k < lo * size
  ·rw [List.getElem?_append_left (by rw [l1]; exact h0), e1, List.getElem?_take, if_pos h0] at hd
   exact .inr ⟨zAA, hd⟩
  ·rw [List.getElem?_append_right (by rw [l1]; omega), l1, e2, List.getElem?_map] at hd
   cases hc : (cut rows.flatten (lo * size) (n * size))[k - lo * size]? with
   | none => rw [hc] at hd; cases hd
   | some d' =>
    rw [hc] at hd
    have := zq _ _ _ _ _ hc
    rw [show lo * size + (k - lo * size) = k by omega] at this
    exact .inl ⟨zAA, h1, d', this, (by cases hd; rfl)⟩
 ·rw [List.getElem?_append_right (by rw [List.length_append, l1, l2]; omega), List.length_append, l1, l2] at hd
  have e3 : (rows.drop (lo + n)).flatten = rows.flatten.drop (lo * size + n * size) := by
   have h2 : (rows.take (lo + n)).flatten ++ (rows.drop (lo + n)).flatten = rows.flatten := zBU
   have h3 : (rows.take (lo + n)).flatten.length = lo * size + n * size := by rw [Ks rows size hz (lo + n) hle, List.length_take, Nat.add_mul]; omega
   rw [<- h2, <- h3, List.drop_left]
  rw [e3, List.getElem?_drop, show lo * size + n * size + (k - (lo * size + n * size)) = k by omega] at hd
  exact .inr ⟨zAA, hd⟩
theorem Rel.rV (r : Rel T0 B σ a w X h) (ho : σ.ob u j = .arr true size rows) (hle : lo + n <= rows.length) :
  ∃ (h' : Nat -> Nat -> Hd) (M : Nat -> Prop) (e : TypeId) (zs : List Value), Rel T0 B (σ.Zu u j (.arr true size (Jw rows lo n))) a w X h' /\
   (∀ b, M b -> ¬ B b /\ ¬ X b /\ b < w.heap.size /\ ∀ t i, (σ.Zu u j (.arr true size (Jw rows lo n))).ob t i ≠ .none -> ¬ (h' t i).u b) /\ (∀ t i, (h' t i).v = (h t i).v) /\
   w.ownsRow 0 e size (h u j).v rows.length zs /\ (∀ q ∈ rows, q.length = size) /\ KT w (cut zs (lo * size) (n * size)) (cut rows lo n).flatten M /\ (∀ v ∈ zs, v.oneCell' = true) := by
 have lS : σ.ob u j ≠ .none := zAr
 have h0 := r.obj u j
 rw [ho] at h0
 obtain ⟨e, zs, gf, hz, ⟨aH, Sk, o1, o2, o3⟩, hn⟩ := h0
 have hE : rows.flatten.length = rows.length * size := YM rows size hz
 have hm : lo * size + n * size <= rows.length * size := zBQ
 let M : Nat -> Prop := fun b => ∃ k, lo * size <= k /\ k < lo * size + n * size /\ Sk k b
 let lL : Hd := ⟨(h u j).v, (h u j).n, fun b => (h u j).u b /\ ¬ M b⟩
 have hMu : ∀ b, M b -> (h u j).u b /\ blk (h u j).v ≠ some b := fun b ⟨k, _, _, hk⟩ => o2 k b hk
 have g8 : ∀ q ∈ Jw rows lo n, q.length = size := by
  intro q hq
  simp only [Jw, List.mem_append, List.mem_map] at hq
  rcases hq with (hq | ⟨q', hq, rfl⟩) | hq
  ·exact hz q (List.mem_of_mem_take hq)
  ·rw [List.length_map]; exact hz q' (List.mem_of_mem_drop (List.mem_of_mem_take hq))
  ·exact hz q (List.mem_of_mem_drop hq)
 have hr := r.change (w' := w) lS rfl (fun _ _ => rfl) (fun _ => False) (fun _ hh => hh.elim) (.arr true size (Jw rows lo n)) (by rw [ho]; exact ⟨rfl, rfl, (xz hle).symm⟩) lL rfl (fun b hb => .inl hb.1)
  (fun b hb => ⟨r.ub u j b lS hb, fun lP => (hMu b lP).2 hb⟩) (fun _ => false) (St.qH σ) (.inr rfl) (by
   refine ⟨e, zs, by rw [xz hle]; exact gf, g8, ⟨?_, fun k => if lo * size <= k /\ k < lo * size + n * size then (fun _ => False) else Sk k, fun k x d hx hd => ?_, fun k b hb => ?_, fun k k' b hb lP => ?_⟩, fun k x d hx hd ib => ?_⟩
   ·rw [aH, YM _ size g8, xz hle, hE]
   ·rcases Lx hz hle hd with ⟨h1, h2, d', h3, rfl⟩ | ⟨h1, h2⟩
    ·exact (o1 k x d' hx h3).hol
    ·simp only [h1, if_false]; exact o1 k x d hx h2
   ·dsimp only at hb
    split at hb
    ·exact hb.elim
    ·rename_i hk
     refine ⟨⟨(o2 k b hb).1, fun ⟨k', h1, h2, h3⟩ => ?_⟩, (o2 k b hb).2⟩
     have := o3 k k' b hb h3
     subst this
     exact hk ⟨h1, h2⟩
   ·dsimp only at hb lP
    split at hb
    ·exact hb.elim
    ·split at lP
     ·exact lP.elim
     ·exact o3 k k' b hb lP
   ·rcases Lx hz hle hd with ⟨h1, h2, d', h3, rfl⟩ | ⟨h1, h2⟩
    ·rw [AN] at ib; cases ib
    ·exact hn k x d hx h2 ib)
 have hfc : (cut rows lo n).flatten = cut rows.flatten (lo * size) (n * size) := Rj rows size hz lo n hle
 refine ⟨_, M, e, zs, hr, fun b hb => ?_, fun t i => ?_, gf, hz, ?_, fun v hv => ?_⟩
 ·have h1 := r.own u j b lS (hMu b hb).1
  refine ⟨h1.1, h1.2.1, h1.2.2, fun t i lA lP => ?_⟩
  split at lP
  ·exact lP.2 hb
  ·rename_i hc
   have l8 : σ.ob t i ≠ .none := by
    rw [St.Xo σ u j _ t i lS, if_neg hc] at lA; exact lA
   exact hc (r.inj t i u j b l8 lS lP (hMu b hb).1)
 ·split
  ·rename_i hc; rw [hc.1, hc.2]
  ·rfl
 ·rw [hfc]
  have lp : (cut zs (lo * size) (n * size)).length = n * size := XQ _ _ _ (by rw [aH, hE]; exact hm)
  refine ⟨by rw [lp, XQ _ _ _ (by rw [hE]; exact hm)], fun k b => k < n * size /\ Sk (lo * size + k) b, fun k x d hx hd => ?_, fun k b hb => ⟨lo * size + k, zAA, zAA, hb.2⟩, fun i k b hi hk => by have := o3 _ _ b hi.2 hk.2; omega⟩
  have hk : k < n * size := by rw [<- lp]; exact (List.getElem?_eq_some_iff.1 hx).1
  exact (o1 _ x d (zq _ _ _ _ _ hx) (zq _ _ _ _ _ hd)).mono (fun b hb => ⟨hk, hb⟩)
 ·obtain ⟨k, hk⟩ := List.mem_iff_getElem?.1 hv
  have lH : k < rows.flatten.length := by rw [<- aH]; exact (List.getElem?_eq_some_iff.1 hk).1
  exact (o1 k v _ hk (List.getElem?_eq_getElem lH)).QL
def BV (σ : St) (x : V) (size : Nat) (lB : List (List D)) (l : List (Nat × Nat)) : Prop :=
 match x with
 | .one (.nil _) => lB = [] /\ l = []
 | .one (.sref t j lo len) => lo = 0 /\ len = lB.length /\ l = [(t, j)] /\ (σ.ob t j = .arr true size lB \/ (σ.ob t j = .lit size [] /\ lB = []))
 | _ => False
theorem FP (r : Rel T0 B σ a w X h) {t : TypeId} (my : o.op = .call ⟨.builtin .append, #[x, y], #[t, t]⟩) (hd : o.dst = some d)
  (fx : gOf (look P σ t x) = true) (fy : gOf (look P σ t y) = true) (ht : XZ P t = true) (hz : Qc P (ZR P t) = true) (iS : 0 < P.cellsOf (ZR P t))
  (gA : BV σ (unc (look P σ t x)) (P.cellsOf (ZR P t)) lB l1) (hy : unc (look P σ t y) = .one (.sref u j lo n)) (ho : σ.ob u j = .arr true (P.cellsOf (ZR P t)) rows) (hle : lo + n <= rows.length) (bV : (u, j) ∉ l1)
  (iJ : ((σ.Zu u j (.arr true (P.cellsOf (ZR P t)) (Jw rows lo n))).Zz l1).fresh d = true)
  (iL : (lB.length + n) * P.bytesOf (ZR P t) <= 140737488355328) (eS : lB.length + n <= 9223372036854775807)
  (hK : ∀ a' w', Jz T0 B (((σ.Zu u j (.arr true (P.cellsOf (ZR P t)) (Jw rows lo n))).Zz l1).new d (.one (.sref d 0 0 (lB.length + n))) [.arr true (P.cellsOf (ZR P t)) (lB ++ cut rows lo n)]) a' w' -> Y8 B w w' -> K a' w') : o.wp P a w K Q := by
 obtain ⟨ti, hu, hi, fE⟩ := X6 ht
 obtain ⟨i, z, row, hG, fU, gx, fG, fk, gJ, gq⟩ := xO hz
 rw [hi] at hG; cases hG
 have bB : P.bytesOf (ZR P t) = ti.bytes := zBS
 rw [bB] at iL
 rw [<- gJ] at ho iS hK iJ gA
 have ek := r.arg (P := P) t x rfl fx
 have bU := r.arg (P := P) t y rfl fy
 rw [hy] at bU
 have hvy' : YF (Tof T0 X) h σ.ob w (.sref u j lo n) (a.eval y) := bU
 obtain ⟨_, _, _, base, cap, cS, hQ, bS, fz, hb⟩ := hvy'.2.1 _ _ _ ho
 obtain ⟨h', M, e0, zs, r0, hM, fD, how0, hP, gZ, h1c⟩ := r.rV ho hle
 have lS : σ.ob u j ≠ .none := zAr
 generalize hσ1 : σ.Zu u j (.arr true ti.size (Jw rows lo n)) = σ1 at *
 have fH : ∀ t' i', ¬ (t' = u /\ i' = j) -> σ1.ob t' i' = σ.ob t' i' := fun t' i' lA => by rw [<- hσ1, St.Xo σ u j _ t' i' lS, if_neg lA]
 have hzl : zs.length = rows.length * ti.size := how0.1
 have hm2 : lo * ti.size + n * ti.size <= zs.length := by rw [hzl, <- Nat.add_mul]; exact Nat.mul_le_mul_right _ hle
 generalize hys : cut zs (lo * ti.size) (n * ti.size) = ys at *
 have gM : ys.length = n * ti.size := by rw [<- hys]; exact XQ _ _ _ hm2
 have lp : (cut rows lo n).length = n := XQ _ _ _ hle
 have az : ∀ q ∈ cut rows lo n, q.length = ti.size := fun q hq => hP q (List.mem_of_mem_drop (List.mem_of_mem_take hq))
 have gF : ∃ e1 xs, w.ownsRow 0 e1 ti.size (a.eval x) lB.length xs /\ (∀ q ∈ lB, q.length = ti.size) /\ KT w xs lB.flatten (fun b => zV σ1 h' l1 b /\ blk (a.eval x) ≠ some b) /\ (∀ b, blk (a.eval x) = some b -> zV σ1 h' l1 b) := by
  unfold BV at gA
  split at gA
  ·rename_i s heq
   obtain ⟨rfl, rfl⟩ := gA
   rw [heq] at ek
   have he : a.eval x = .slice none 0 0 := ek
   rw [he]
   exact ⟨0, [], World.ownsRow_nil w 0 0 _, zA4, KT.nil _, (fun b hb => by cases hb)⟩
  ·rename_i u2 j2 lo2 len2 heq
   obtain ⟨rfl, rfl, rfl, gm⟩ := gA
   rw [heq] at ek
   have eo : YF (Tof T0 X) h σ.ob w (.sref u2 j2 0 lB.length) (a.eval x) := ek
   have lA : ¬ (u2 = u /\ j2 = j) := fun hc => bV (by rw [hc.1, hc.2]; simp)
   have h0 := r0.obj u2 j2
   rw [fH u2 j2 lA] at h0
   rcases gm with gm | ⟨gm, rfl⟩
   ·obtain ⟨_, hZ, _⟩ := eo.2.1 _ _ _ gm
    have he : a.eval x = (h' u2 j2).v := by rw [fD]; exact hZ rfl rfl
    rw [gm] at h0
    obtain ⟨e, xs, lE, hz2, lC, hn⟩ := h0
    have cE : σ1.ob u2 j2 ≠ .none := by rw [fH u2 j2 lA, gm]; simp
    rw [he]
    exact ⟨e, xs, lE, hz2, lC.mono (fun b hb => ⟨⟨(u2, j2), zAF, cE, hb.1⟩, hb.2⟩), fun b hb => ⟨(u2, j2), zAF, cE, r0.ub u2 j2 b cE hb⟩⟩
   ·obtain ⟨_, hZ, _⟩ := eo.2.2 _ _ gm
    have he : a.eval x = (h' u2 j2).v := by rw [fD]; exact hZ rfl rfl
    rw [gm] at h0
    obtain ⟨e, xs, lE, hz2, lC⟩ := h0
    have cE : σ1.ob u2 j2 ≠ .none := by rw [fH u2 j2 lA, gm]; simp
    have hxs : xs = [] := by cases lC; rfl
    subst hxs
    rw [he]
    exact ⟨e, [], lE, zA4, KT.nil _, fun b hb => ⟨(u2, j2), zAF, cE, r0.ub u2 j2 b cE hb⟩⟩
  ·exact gA.elim
 obtain ⟨e1, xs, lE, hoz, bD, gG⟩ := gF
 have gW : ∀ b, zV σ1 h' l1 b -> M b -> False := by
  rintro b ⟨p, hp, lA, gr⟩ hb
  exact (hM b hb).2.2.2 p.1 p.2 lA gr
 have iI := r0.z8 l1
 let N : Nat -> Prop := fun b => zV σ1 h' l1 b \/ M b
 have hN : ∀ b, N b -> ¬ B b /\ ¬ X b /\ b < w.heap.size /\ ∀ u' i', (σ1.Zz l1).ob u' i' ≠ .none -> ¬ (h' u' i').u b := by
  rintro b (hb | hb)
  ·exact iI b hb
  ·obtain ⟨q1, q2, q3, q4⟩ := hM b hb
   refine ⟨q1, q2, q3, fun u' i' lA => q4 u' i' ?_⟩
   rw [St.Kn] at lA
   split at lA
   ·exact absurd rfl lA
   ·exact lA
 have cU : ∀ b, M b -> blk (a.eval x) ≠ some b := fun b hb e => gW b (gG b e) hb
 refine GK (r0.Zz l1) (N := N) (ys := ys) my hd hu hi fU fk zAA iJ iL eS lE (fun b hb => .inl (gG b hb)) hN cS (fun hh => ⟨fz hh, by have := fz hh; omega⟩) gM (fun ad had k v hv => ?_) (fun v hv => h1c v (by rw [<- hys] at hv; exact List.mem_of_mem_drop (List.mem_of_mem_take hv))) (by rw [List.length_append, lp]) (fun q hq => (List.mem_append.1 hq).elim (hoz q) (az q)) ?_ hK
 ·have gU : 0 < n := by
   rcases Nat.eq_zero_or_pos n with h0 | h0
   ·have hk := (List.getElem?_eq_some_iff.1 hv).1
    rw [gM, h0] at hk
    simp at hk
   ·exact h0
  obtain ⟨b, fj, hh, gp⟩ := hb gU
  rw [had] at gp
  cases gp
  rcases how0.2 with ⟨hn1, _⟩ | ⟨g, cA, cur, fD, _, aq, gh, gb, ga, g6⟩
  ·rw [hh] at hn1; cases hn1
  ·rw [hh] at fD; cases fD
   rw [<- hys] at hv
   have h1 := zq _ _ _ _ _ hv
   rw [xx]
   refine zc aq _ _ ?_
   rw [<- g6, List.getElem?_take] at h1
   split at h1
   ·exact h1
   ·cases h1
 ·rw [List.flatten_append]
  exact (bD.append gZ (fun b ig l0 => gW b ig.1 l0)).mono (fun b hb => hb.elim (fun hb => ⟨.inl hb.1, hb.2⟩) (fun hb => ⟨.inr hb, cU b hb⟩))
def pL (w : World) (res : List (List D)) (e : Ending) (w' : World) : Prop :=
 ∃ (vs : List Value) (lu : List (List Value)), e = .returned (Rm vs) /\ Below w.heap.size w w' /\ Z9 yb vs lu /\ Z9 (fun (cs : List Value) (row : List D) => cs.length = row.length) lu res /\
  KT w' lu.flatten res.flatten (fun b => w.heap.size <= b /\ b < w'.heap.size)
def YV (P : Program) (f : FuncId) (args res : List (List D)) : Prop :=
 TL P f = true /\ ∀ (T : CS) (w : World) (l6 : List Value), (∀ b k, T b k -> b < w.heap.size) -> Z9 (fun v row => ∃ cs, yb v cs /\ Z9 (Rd T w) cs row) l6 args -> Calls P f l6.toArray w (pL w res)
theorem qx {α β : Type} {R : α -> β -> Prop} : ∀ {lu : List (List α)} {res : List (List β)}, Z9 (fun (cs : List α) (row : List β) => cs.length = row.length) lu res -> (∀ (k : Nat) (x : α) (d : β), lu.flatten[k]? = some x -> res.flatten[k]? = some d -> R x d) -> Z9 (fun cs row => Z9 R cs row) lu res := by
 intro lu res lC
 induction lC with
 | nil => intro _; exact .nil
 | @cons cs row lu res hl _ ih =>
  intro hk
  refine .cons (Z9.xk hl (fun k x d hx hd => hk k x d ?_ ?_)) (ih (fun k x d hx hd => hk (cs.length + k) x d ?_ ?_))
  ·rw [List.flatten_cons, List.getElem?_append_left (List.getElem?_eq_some_iff.1 hx).1]; exact hx
  ·rw [List.flatten_cons, List.getElem?_append_left (List.getElem?_eq_some_iff.1 hd).1]; exact hd
  ·rw [List.flatten_cons, List.getElem?_append_right zAA]; simpa using hx
  ·rw [List.flatten_cons, List.getElem?_append_right zAA, hl]; simpa using hd
theorem YV.rd {args : List (List D)} (hs : YV P f args res) : JH P f false args res := by
 refine ⟨hs.1, fun T w l6 hT ha => (hs.2 T w l6 hT ha).mono ?_⟩
 rintro e w' ⟨vs, lu, he, hb, hf, hl, ⟨_, Sk, h1, h2, h3⟩⟩
 refine ⟨vs, lu, fun b => w.heap.size <= b /\ b < w'.heap.size, he, hb, fun b hb => hb, hf, qx hl (fun k x d hx hd => ?_), fun hh => by cases hh⟩
 simp only [qb, Bool.false_eq_true, if_false]
 exact (h1 k x d hx hd).rd (fun b k' hb => .inr (h2 k b hb))
def YR : List Bool -> List D -> List Ob
 | _, [] => []
 | q :: qs, .sl size rows :: ds => .arr q size rows :: YR qs ds
 | [], .sl size rows :: ds => .arr true size rows :: YR [] ds
 | qs, _ :: ds => .none :: YR qs.tail ds
def xT : List Bool -> List D -> Prop
 | _, [] => True
 | q :: qs, .sl _ rows :: ds => (q = false -> ∀ r ∈ rows, ∀ x ∈ r, x.scalar = true) /\ xT qs ds
 | [], .sl _ _ :: ds => xT [] ds
 | qs, _ :: ds => xT qs.tail ds
theorem Yy : ∀ (qs : List Bool) (ds : List D) (k : Nat), xT qs ds -> (∀ size rows, ds[k]? = some (.sl size rows) -> ∃ q, Yj (YR qs ds) k = .arr q size rows /\ (q = false -> ∀ r ∈ rows, ∀ x ∈ r, x.scalar = true)) /\ (Yj (YR qs ds) k ≠ .none -> ∃ size rows, ds[k]? = some (.sl size rows))
 | qs, [], k, _ => ⟨fun size rows h => by simp at h, fun h => by cases qs <;> simp [YR, Yj] at h⟩
 | q :: qs, .sl size rows :: ds, 0, hf => ⟨fun s r h => by simp at h; obtain ⟨rfl, rfl⟩ := h; exact ⟨q, by simp [YR, Yj], hf.1⟩, fun _ => ⟨size, rows, zAF⟩⟩
 | [], .sl size rows :: ds, 0, hf => ⟨fun s r h => by simp at h; obtain ⟨rfl, rfl⟩ := h; exact ⟨true, by simp [YR, Yj], fun h => by cases h⟩, fun _ => ⟨size, rows, zAF⟩⟩
 | qs, .int k n :: ds, 0, hf => ⟨fun s r h => by simp at h, fun h => by cases qs <;> simp [YR, Yj] at h⟩
 | qs, .bool b :: ds, 0, hf => ⟨fun s r h => by simp at h, fun h => by cases qs <;> simp [YR, Yj] at h⟩
 | qs, .str s :: ds, 0, hf => ⟨fun s r h => by simp at h, fun h => by cases qs <;> simp [YR, Yj] at h⟩
 | qs, .unk :: ds, 0, hf => ⟨fun s r h => by simp at h, fun h => by cases qs <;> simp [YR, Yj] at h⟩
 | q :: qs, .sl size rows :: ds, k + 1, hf => by
  have := Yy qs ds k hf.2
  simpa [YR, Yj] using this
 | [], .sl size rows :: ds, k + 1, hf => by
  have := Yy [] ds k hf
  simpa [YR, Yj] using this
 | qs, .int _ _ :: ds, k + 1, hf => by
  have := Yy qs.tail ds k zBt
  cases qs <;> simpa [YR, Yj] using this
 | qs, .bool _ :: ds, k + 1, hf => by
  have := Yy qs.tail ds k zBt
  cases qs <;> simpa [YR, Yj] using this
 | qs, .str _ :: ds, k + 1, hf => by
  have := Yy qs.tail ds k zBt
  cases qs <;> simpa [YR, Yj] using this
 | qs, .unk :: ds, k + 1, hf => by
  have := Yy qs.tail ds k zBt
  cases qs <;> simpa [YR, Yj] using this
theorem Cz (r : Rel T0 B σ a w X h) {c : Call} (qs : List Bool) (my : o.op = .call c) (hc : c.callee = .value (.func f)) (hd : o.dst = some d) (iJ : σ.fresh d = true)
  (lF : Qz P σ c.args.toList c.argTypes.toList rows) (hs : YV P f rows res) (hq : xT qs res.flatten)
  (hK : ∀ a' w', Jz T0 B (σ.new d (jv d res) (YR qs res.flatten)) a' w' -> Y8 B w w' -> K a' w') : o.wp P a w K Q := by
 have lH := St.zO iJ
 unfold Oper.wp
 rw [UH my hc hs.1, Oper.upon_enter]
 have bI := r.Qz false lF (fun hh => by cases hh)
 simp only [Bool.false_eq_true, if_false] at bI
 refine (hs.2 (Ox T0 X h σ) w _ (fun b k hb => r.Du hb) bI).mono ?_
 rintro e w' ⟨vs, lu, rfl, gI, l4, hlen, ⟨_, Sk, h1, h2, h3⟩⟩
 rw [hd]
 have hex : ∀ j, ∃ hd : Hd, (∀ c, lu.flatten[j]? = some c -> hd.v = c) /\ (∀ size rows, res.flatten[j]? = some (.sl size rows) -> (∀ b, hd.u b -> Sk j b) /\ (∀ b, blk hd.v = some b -> hd.u b) /\ ∀ T h ob, J0 T h ob w' hd (.arr true size rows) /\ ((∀ r ∈ rows, ∀ x ∈ r, x.scalar = true) -> J0 T h ob w' hd (.arr false size rows))) := by
  intro j
  have hE : lu.flatten.length = res.flatten.length := by
   have := qx (R := fun _ _ => True) hlen (fun _ _ _ _ _ => trivial)
   exact (qZ this).length
  cases hj : res.flatten[j]? with
  | none => exact ⟨Hd.of ((lu.flatten[j]?).getD undef), fun c l7 => by simp [Hd.of, l7], fun size rows hh => by cases hh⟩
  | some dd =>
   have dE : j < lu.flatten.length := by rw [hE]; exact (List.getElem?_eq_some_iff.1 hj).1
   have dm : lu.flatten[j]? = some lu.flatten[j] := List.getElem?_eq_getElem dE
   cases dd with
   | int k n => exact ⟨Hd.of lu.flatten[j], fun c l7 => by rw [dm] at l7; cases l7; rfl, fun size rows hh => by cases hh⟩
   | bool k => exact ⟨Hd.of lu.flatten[j], fun c l7 => by rw [dm] at l7; cases l7; rfl, fun size rows hh => by cases hh⟩
   | str k => exact ⟨Hd.of lu.flatten[j], fun c l7 => by rw [dm] at l7; cases l7; rfl, fun size rows hh => by cases hh⟩
   | unk => exact ⟨Hd.of lu.flatten[j], fun c l7 => by rw [dm] at l7; cases l7; rfl, fun size rows hh => by cases hh⟩
   | sl size rows =>
    have ho := h1 j _ _ dm hj
    generalize hv : lu.flatten[j] = v at ho
    cases ho with
    | sl v size rows S e xs bM ho hz hb hl hk bX lL =>
     refine ⟨⟨v, fun k => (xs[k]?).getD undef, Sk j⟩, fun c l7 => by rw [dm, hv] at l7; cases l7; rfl, fun lU lM hh => ?_⟩
     cases hh
     refine ⟨fun b hb => hb, hb, fun T h ob => ⟨⟨e, xs, ho, hz, ⟨hl, bM, hk, fun k b hb => bX k b hb, lL⟩, fun k x d hx _ _ => by simp [hx]⟩, fun hD => ⟨e, xs, ho, hz, Z9.xk hl (fun k x d hx hd => ?_)⟩⟩⟩
     obtain ⟨r0, fb, hdr⟩ := List.mem_flatten.1 (List.mem_of_getElem? hd)
     have ib := hD r0 fb d hdr
     have := hk k x d hx hd
     cases this with
     | int k n => exact .int _ _
     | bool b => exact .bool _
     | str s => exact .str _
     | unk v h => exact .unk _ h
     | sl => cases ib
 obtain ⟨hf, cJ⟩ := Classical.axiomOfChoice hex
 refine hK _ _ ⟨X, fun t j => if t = d then hf j else h t j, ?_⟩ (Y8.Nh gI r.hB)
 have lS : ∀ j, (σ.new d (jv d res) (YR qs res.flatten)).ob d j = Yj (YR qs res.flatten) j := fun j => by rw [St.Jt]; simp [lH]
 have gd : Z9 (fun cs row => Z9 (WM (Tof T0 X) w') cs row) lu res := by
  refine qx hlen (fun k x d hx hd => ?_)
  have ho := h1 k x d hx hd
  cases ho with
  | int k n => exact Rd.int _ _
  | bool b => exact Rd.bool _
  | str s => exact Rd.str _
  | unk v h => exact Rd.unk _ h
  | sl v size rows S e xs bM ho hz hb hl hk bX lL => exact ⟨e, xs, ho⟩
 refine r.new iJ (Below.grownBy gI) (fun b hb => hb) (fun b hb => .inl hb) (jv d res) (Rm vs) (YR qs res.flatten) hf ?_ (fun j => ?_) (fun j b lA hb => ?_) (fun j b lA hb => ?_) (fun j j' b lA l8 hb lP => ?_)
 ·exact GQ (h := fun t j => if t = d then hf j else h t j) (ob := (σ.new d (jv d res) (YR qs res.flatten)).ob) (t := d) l4 gd (fun i size rows hi => by
   obtain ⟨q, gj, _⟩ := (Yy qs res.flatten i hq).1 size rows hi
   exact ⟨q, by rw [lS]; exact gj⟩) (fun i c hi => by simp only [if_true]; exact (cJ i).1 c hi)
 ·by_cases lA : Yj (YR qs res.flatten) j = .none
  ·rw [lA]; trivial
  ·obtain ⟨size, rows, hj⟩ := (Yy qs res.flatten j hq).2 lA
   obtain ⟨q, gj, hqf⟩ := (Yy qs res.flatten j hq).1 size rows hj
   rw [gj]
   have := ((cJ j).2 size rows hj).2.2 (Tof T0 X) (fun t j => if t = d then hf j else h t j) (σ.new d (jv d res) (YR qs res.flatten)).ob
   cases q with
   | true => exact this.1
   | false => exact this.2 (hqf rfl)
 ·obtain ⟨size, rows, hj⟩ := (Yy qs res.flatten j hq).2 lA
  exact ((cJ j).2 size rows hj).2.1 b hb
 ·obtain ⟨size, rows, hj⟩ := (Yy qs res.flatten j hq).2 lA
  have := h2 j b (((cJ j).2 size rows hj).1 b hb)
  exact ⟨this.1, fun hx => by have := (r.hX b hx).2; omega, this.2⟩
 ·obtain ⟨size, rows, hj⟩ := (Yy qs res.flatten j hq).2 lA
  obtain ⟨lU, lM, fP⟩ := (Yy qs res.flatten j' hq).2 l8
  exact h3 j j' b (((cJ j).2 size rows hj).1 b hb) (((cJ j').2 lU lM fP).1 b lP)
end Go.Vm
