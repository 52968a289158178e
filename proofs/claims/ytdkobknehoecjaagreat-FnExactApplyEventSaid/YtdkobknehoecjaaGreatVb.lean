/- An abstract machine GQ the model of Go, by value, and that it is sound: part Vb. No condition. -/
import Derived.Test.YtdkobknehoecjaaGreatVa
namespace Go.Vm
open Go.RowKit
section
variable {P : Program} {T0 : CS} {B : Nat -> Prop} {σ : St} {a : Act} {w w' : World} {X X' : Nat -> Prop} {h : Nat -> Nat -> Hd}
theorem YK.oR {T T' : CS} {h h' : Nat -> Nat -> Hd} {ob ir : Nat -> Nat -> Ob} (hT : ∀ b k v, T b k -> w.cell? ⟨b, k, none⟩ = some v -> w'.cell? ⟨b, k, none⟩ = some v /\ T' b k) (hc : ∀ t j, Cpt h h' ob ir t j)
  {x : At} {v : Value} (r : YK T h ob w x v) : YK T' h' ir w' x v := by
 obtain ⟨d, hd⟩ : ∃ d, x.ref d = false := by
  cases x with
  | sref t j lo len => exact ⟨t + 1, by simp [At.ref]⟩
  | ptr t j i c => exact ⟨t + 1, by simp [At.ref]⟩
  | bptr t c => exact ⟨t + 1, by simp [At.ref]⟩
  | fn f t => exact ⟨t + 1, by simp [At.ref]⟩
  | tref t j i c o => exact ⟨t + 1, by simp [At.ref]⟩
  | any => exact ⟨0, rfl⟩
  | d x => exact ⟨0, rfl⟩
  | nil s => exact ⟨0, rfl⟩
  | rptr r c => exact ⟨0, rfl⟩
 exact YK.carry hT (d := d) (fun t j _ => hc t j) hd r
def Uo (p : At -> Bool) : List At -> Bool
 | [] => false
 | x :: xs => p x || Uo p xs
def V.AY (p : At -> Bool) : V -> Bool
 | .one x => p x
 | .agg xs => Uo p xs
 | _ => false
def Di (p : At -> Bool) : List V -> Bool
 | [] => false
 | x :: xs => x.AY p || Di p xs
def V.zl (p : At -> Bool) : V -> Bool
 | .tup xs => Di p xs
 | .cnd _ x => x.AY p
 | .fix _ x => x.AY p
 | .one x => p x
 | .agg xs => Uo p xs
 | .any => false
def yp (p : At -> Bool) : List Ob -> Bool
 | [] => false
 | .box cells :: os => Uo p cells || yp p os
 | .lit _ rows :: os => Uo p rows.flatten || yp p os
 | _ :: os => yp p os
def St.zl (p : At -> Bool) : St -> Bool
 | [] => false
 | e :: σ => e.1.zl p || yp p e.2 || St.zl p σ
def At.isT (t : Nat) : At -> Bool
 | .tref u _ _ _ _ => u == t
 | _ => false
theorem jZ : ∀ (xs : List At), Uo (fun _ => false) xs = false
 | [] => rfl
 | _ :: xs => by simp [Uo, jZ xs]
theorem Mv : ∀ (xs : List V), Di (fun _ => false) xs = false
 | [] => rfl
 | x :: xs => by cases x <;> simp [Di, V.AY, jZ, Mv xs]
theorem wL (x : V) : x.AY (fun _ => false) = false := by cases x <;> simp [V.AY, jZ]
theorem xF (x : V) : x.zl (fun _ => false) = false := by cases x <;> simp [V.zl, jZ, Mv, wL]
theorem Tp : ∀ (os : List Ob), yp (fun _ => false) os = false
 | [] => rfl
 | o :: os => by cases o <;> simp [yp, jZ, Tp os]
theorem St.xF : ∀ (σ : St), St.zl (fun _ => false) σ = false
 | [] => rfl
 | e :: σ => by simp [St.zl, Go.Vm.xF, Go.Vm.Tp, St.xF σ]
theorem St.NW {p : At -> Bool} : ∀ {σ : St}, σ.zl p = false -> ∀ t, (σ.get t).zl p = false
 | [], _, t => by simp [St.get, V.zl]
 | e :: σ, h, 0 => by simp only [St.zl, Bool.or_eq_false_iff] at h; exact h.1.1
 | e :: σ, h, t + 1 => by
  simp only [St.zl, Bool.or_eq_false_iff] at h
  have := St.NW h.2 t
  simpa [St.get] using this
theorem Df {p : At -> Bool} : ∀ {os : List Ob}, yp p os = false -> ∀ j, yp p [Yr os j] = false
 | [], _, j => by simp [Yr, yp]
 | o :: os, h, 0 => by cases o <;> simp_all [Yr, yp]
 | o :: os, h, j + 1 => by
  have h2 : yp p os = false := by cases o <;> simp_all [yp]
  have := Df h2 j
  simpa [Yr] using this
theorem St.Iw {p : At -> Bool} : ∀ {σ : St}, σ.zl p = false -> ∀ t j, yp p [σ.ob t j] = false
 | [], _, t, j => by simp [St.ob, yp]
 | e :: σ, h, 0, j => by simp only [St.zl, Bool.or_eq_false_iff] at h; exact Df h.1.2 j
 | e :: σ, h, t + 1, j => by
  simp only [St.zl, Bool.or_eq_false_iff] at h
  have := St.Iw h.2 t j
  simpa [St.ob] using this
theorem Iq {T T' : CS} {h h' : Nat -> Nat -> Hd} {ob ir : Nat -> Nat -> Ob} {p : At -> Bool} (f : ∀ {x : At} {v : Value}, p x = false -> YK T h ob w x v -> YK T' h' ir w' x v) {xs : List At} {vs : List Value} (hx : Uo p xs = false)
  (r : YA (YK T h ob w) xs vs) : YA (YK T' h' ir w') xs vs := by
 induction r with
 | nil => exact .nil
 | cons r _ ih =>
  simp only [Uo, Bool.or_eq_false_iff] at hx
  exact .cons (f hx.1 r) (ih hx.2)
theorem Ks.map {T T' : CS} {h h' : Nat -> Nat -> Hd} {ob ir : Nat -> Nat -> Ob} {p : At -> Bool} (f : ∀ {x : At} {v : Value}, p x = false -> YK T h ob w x v -> YK T' h' ir w' x v) {x : V} {v : Value} (hx : x.AY p = false)
  (r : Ks T h ob w x v) : Ks T' h' ir w' x v := by
 cases x with
 | any => exact r
 | one x => exact f hx r
 | agg xs => obtain ⟨cs, e, r⟩ := r; exact ⟨cs, e, Iq f hx r⟩
 | tup xs => exact r.elim
 | cnd g x => exact r.elim
 | fix u x => exact r.elim
theorem JD.map {T T' : CS} {h h' : Nat -> Nat -> Hd} {ob ir : Nat -> Nat -> Ob} {p : At -> Bool} (f : ∀ {x : At} {v : Value}, p x = false -> YK T h ob w x v -> YK T' h' ir w' x v) {x : V} {v : Value} (hx : x.zl p = false)
  (r : JD T h ob w x v) : JD T' h' ir w' x v := by
 cases x with
 | any => exact r
 | one x => exact f hx r
 | agg xs => obtain ⟨cs, e, r⟩ := r; exact ⟨cs, e, Iq f hx r⟩
 | tup xs =>
  obtain ⟨vs, e, r⟩ := r
  refine ⟨vs, e, ?_⟩
  clear e
  generalize vs.toList = vl at r
  simp only [V.zl] at hx
  induction r with
  | nil => exact .nil
  | cons r _ ih =>
   simp only [Di, Bool.or_eq_false_iff] at hx
   exact .cons (Ks.map f hx.1 r) (ih hx.2)
 | cnd g x => exact ⟨fun hg => Ks.map f hx (r.1 hg), r.2⟩
 | fix u x => exact ⟨r.1, Ks.map f hx r.2⟩
theorem zR.map {T T' : CS} {h h' : Nat -> Nat -> Hd} {ob ir : Nat -> Nat -> Ob} {p : At -> Bool} (f : ∀ {x : At} {v : Value}, p x = false -> YK T h ob w x v -> YK T' h' ir w' x v)
  (hT : ∀ b k v, T b k -> w.cell? ⟨b, k, none⟩ = some v -> w'.cell? ⟨b, k, none⟩ = some v /\ T' b k) {hd : Hd} {o : Ob}
  (hO : o ≠ .none -> ∀ b, blk hd.v = some b -> hd.u b) (hb : o ≠ .none -> ∀ b, hd.u b -> w'.heap[b]? = w.heap[b]?) (hx : yp p [o] = false) (r : zR T h ob w hd o) : zR T' h' ir w' hd o := by
 cases o with
 | none => trivial
 | box cells =>
  obtain ⟨b, cs, e, hv, hh, lE⟩ := r
  simp only [yp, Bool.or_false] at hx
  exact ⟨b, cs, e, hv, by rw [hb (by simp) b (hO (by simp) b (by rw [hv]; rfl))]; exact hh, Iq f hx lE⟩
 | arr q size rows =>
  have hk : ∀ {e : TypeId} {n : Nat} {xs : List Value}, w.ownsRow 0 e size hd.v n xs -> w'.ownsRow 0 e size hd.v n xs := fun ho => yg (fun b h => hb (by simp) b (hO (by simp) b h)) ho
  cases q with
  | false =>
   obtain ⟨e, xs, ho, hz, lE⟩ := r
   exact ⟨e, xs, hk ho, hz, lE.imp fun _ _ => Rd.mono hT⟩
  | true =>
   obtain ⟨e, xs, ho, hz, lE, hn⟩ := r
   exact ⟨e, xs, hk ho, hz, lE.Tz (fun b h => hb (by simp) b h.1), hn⟩
 | lit size rows =>
  obtain ⟨e, xs, ho, hz, lE⟩ := r
  simp only [yp, Bool.or_false] at hx
  exact ⟨e, xs, yg (fun b h => hb (by simp) b (hO (by simp) b h)) ho, hz, Iq f hx lE⟩
def Ob.wN : Ob -> Ob -> Prop
 | .arr q s r, .arr q' s' r' => q = q' /\ s = s' /\ r.length = r'.length
 | .lit s r, .lit s' r' => s = s' /\ r.length = r'.length
 | .box _, .box _ => True
 | _, _ => False
theorem Rel.change (r : Rel T0 B σ a w X h) {t j : Nat} (lV : σ.ob t j ≠ .none) (l7 : w'.heap.size = w.heap.size) (hw : ∀ k, ¬ (h t j).u k -> w'.heap[k]? = w.heap[k]?) (M : Nat -> Prop)
  (hM : ∀ b, M b -> ¬ B b /\ ¬ X b /\ b < w.heap.size /\ ∀ u i, σ.ob u i ≠ .none -> ¬ (h u i).u b) (o' : Ob) (gC : (σ.ob t j).wN o') (lQ : Hd) (hv : lQ.v = (h t j).v) (hu : ∀ b, lQ.u b -> (h t j).u b \/ M b) (hO : ∀ b, blk lQ.v = some b -> lQ.u b)
  (p : At -> Bool) (hp : σ.zl p = false) (hn : (∀ u i c o, p (.tref t u i c o) = true) \/ lQ.n = (h t j).n)
  (fQ : zR (Tof T0 X) (fun u i => if u = t /\ i = j then lQ else h u i) (σ.Z7 t j o').ob w' lQ o') : Rel T0 B (σ.Z7 t j o') a w' X (fun u i => if u = t /\ i = j then lQ else h u i) := by
 have iG : ∀ u i, ¬ (u = t /\ i = j) -> (σ.Z7 t j o').ob u i = σ.ob u i := by
  intro u i lD
  rw [St.JH σ t j o' u i lV, if_neg lD]
 have iF : (σ.Z7 t j o').ob t j = o' := by rw [St.JH σ t j o' t j lV]; simp
 have hT : ∀ b k v, Tof T0 X b k -> w.cell? ⟨b, k, none⟩ = some v -> w'.cell? ⟨b, k, none⟩ = some v /\ Tof T0 X b k := by
  intro b' k v lM lK
  refine ⟨?_, lM⟩
  have lD : ¬ (h t j).u b' := by
   intro iP
   have lG := r.own t j b' lV iP
   rcases lM with lM | lM
   ·exact lG.1 (r.hT _ _ lM)
   ·exact lG.2.1 lM
  rw [World.cell?_of_block (hw b' lD)]; exact lK
 have dD : ∀ u i, ((fun u i => if u = t /\ i = j then lQ else h u i) u i).v = (h u i).v := by
  intro u i
  by_cases hc : u = t /\ i = j
  ·simp only [hc, and_self, if_true]; exact hv
  ·simp only [hc, if_false]
 have dE : ∀ u i q size rows, (σ.Z7 t j o').ob u i = .arr q size rows -> ∃ lJ, σ.ob u i = .arr q size lJ /\ lJ.length = rows.length := by
  intro u i q size rows ho
  by_cases hc : u = t /\ i = j
  ·obtain ⟨rfl, rfl⟩ := hc
   rw [iF] at ho; subst ho
   cases lz : σ.ob u i with
   | arr q0 s0 r0 => rw [lz] at gC; obtain ⟨rfl, rfl, hl⟩ := gC; exact ⟨r0, rfl, hl⟩
   | none => rw [lz] at gC; exact gC.elim
   | box c => rw [lz] at gC; exact gC.elim
   | lit s r => rw [lz] at gC; exact gC.elim
  ·rw [iG u i hc] at ho; exact ⟨rows, ho, rfl⟩
 have hll : ∀ u i size rows, (σ.Z7 t j o').ob u i = .lit size rows -> ∃ lJ, σ.ob u i = .lit size lJ /\ lJ.length = rows.length := by
  intro u i size rows ho
  by_cases hc : u = t /\ i = j
  ·obtain ⟨rfl, rfl⟩ := hc
   rw [iF] at ho; subst ho
   cases lz : σ.ob u i with
   | arr q0 s0 r0 => rw [lz] at gC; exact gC.elim
   | none => rw [lz] at gC; exact gC.elim
   | box c => rw [lz] at gC; exact gC.elim
   | lit s r => rw [lz] at gC; obtain ⟨rfl, hl⟩ := gC; exact ⟨r, rfl, hl⟩
  ·rw [iG u i hc] at ho; exact ⟨rows, ho, rfl⟩
 have eW : ∀ u i cells, (σ.Z7 t j o').ob u i = .box cells -> ∃ lv, σ.ob u i = .box lv := by
  intro u i cells ho
  by_cases hc : u = t /\ i = j
  ·obtain ⟨rfl, rfl⟩ := hc
   rw [iF] at ho; subst ho
   cases lz : σ.ob u i with
   | arr q0 s0 r0 => rw [lz] at gC; exact gC.elim
   | none => rw [lz] at gC; exact gC.elim
   | box c => exact ⟨c, rfl⟩
   | lit s r => rw [lz] at gC; exact gC.elim
  ·rw [iG u i hc] at ho; exact ⟨cells, ho⟩
 have at_ : ∀ {x : At} {v : Value}, p x = false -> YK (Tof T0 X) h σ.ob w x v -> YK (Tof T0 X) (fun u i => if u = t /\ i = j then lQ else h u i) (σ.Z7 t j o').ob w' x v := by
  intro x v cT rx
  cases x with
  | any => exact rx
  | d x => exact Rd.mono hT rx
  | nil s => exact rx
  | sref u i lo len =>
   refine ⟨rx.1, fun q size rows ho => ?_, fun size rows ho => ?_⟩
   ·obtain ⟨lJ, lz, hl⟩ := dE u i q size rows ho
    rw [dD, <- hl]; exact rx.2.1 q size lJ lz
   ·obtain ⟨lJ, lz, hl⟩ := hll u i size rows ho
    rw [dD, <- hl]; exact rx.2.2 size lJ lz
  | ptr u i k c =>
   refine ⟨rx.1, fun q size rows ho => ?_⟩
   obtain ⟨lJ, lz, hl⟩ := dE u i q size rows ho
   rw [dD]; exact rx.2 q size lJ lz
  | bptr u c =>
   refine ⟨rx.1, fun cells ho => ?_⟩
   obtain ⟨lv, lz⟩ := eW u 0 cells ho
   rw [dD]; exact rx.2 lv lz
  | fn f u =>
   refine ⟨rx.1, fun cells ho => ?_⟩
   obtain ⟨lv, lz⟩ := eW u 0 cells ho
   rw [dD]; exact rx.2 lv lz
  | tref u i k c o =>
   refine ⟨rx.1, fun size rows ho => ?_⟩
   obtain ⟨lJ, lz, hl⟩ := dE u i true size rows ho
   have h1 := rx.2 size lJ lz
   by_cases hc : u = t /\ i = j
   ·obtain ⟨rfl, rfl⟩ := hc
    rcases hn with hn | hn
    ·rw [hn] at cT; cases cT
    ·simp only [and_self, if_true, hn]; exact h1
   ·simp only [hc, if_false]; exact h1
  | rptr rr c =>
   obtain ⟨b, off, g, e, hk⟩ := rx
   exact ⟨b, off, g, e, fun k d hd => ⟨(hT _ _ _ (hk k d hd).2.1 (hk k d hd).1).1, (hk k d hd).2.1, Rd.mono hT (hk k d hd).2.2⟩⟩
 have l4 : ∀ u i, (σ.Z7 t j o').ob u i ≠ .none -> σ.ob u i ≠ .none := by
  intro u i l0
  by_cases iP : u = t /\ i = j
  ·obtain ⟨rfl, rfl⟩ := iP; exact lV
  ·rw [iG u i iP] at l0; exact l0
 refine ⟨by rw [r.size, St.Xv], r.defers, by rw [l7]; exact r.hB, fun b hb => by rw [l7]; exact r.hX b hb, r.hT, fun u iP => ?_, fun u i => ?_, fun u i b' lD lM => ?_, fun u i b' lD lM => ?_, fun u i u' i' b' lD ld iz iJ => ?_⟩
 ·rw [St.Xv] at iP
  rw [St.QK]; exact JD.map at_ (St.NW hp u) (r.slot u iP)
 ·by_cases hc : u = t /\ i = j
  ·obtain ⟨rfl, rfl⟩ := hc; rw [iF]; simp only [and_self, if_true]; exact fQ
  ·rw [iG u i hc]
   simp only [hc, if_false]
   exact zR.map at_ hT (fun ho b => r.ub u i b ho) (fun ho b hb => hw b (fun hbt => hc (r.inj u i t j b ho lV hb hbt))) (St.Iw hp u i) (r.obj u i)
 ·by_cases hc : u = t /\ i = j
  ·simp only [hc, and_self, if_true] at lM ⊢; exact hO b' lM
  ·simp only [hc, if_false] at lM ⊢; exact r.ub u i b' (l4 u i lD) lM
 ·rw [l7]
  by_cases hc : u = t /\ i = j
  ·simp only [hc, and_self, if_true] at lM
   rcases hu b' lM with h1 | h1
   ·exact r.own t j b' lV h1
   ·have := hM b' h1; exact ⟨this.1, this.2.1, this.2.2.1⟩
  ·simp only [hc, if_false] at lM; exact r.own u i b' (l4 u i lD) lM
 ·by_cases hc : u = t /\ i = j
  ·by_cases lg : u' = t /\ i' = j
   ·exact ⟨by rw [hc.1, lg.1], by rw [hc.2, lg.2]⟩
   ·simp only [hc, and_self, if_true] at iz
    simp only [lg, if_false] at iJ
    rcases hu b' iz with h1 | h1
    ·have := r.inj t j u' i' b' lV (l4 u' i' ld) h1 iJ
     rw [hc.1, hc.2]; exact this
    ·exact absurd iJ ((hM b' h1).2.2.2 u' i' (l4 u' i' ld))
  ·by_cases lg : u' = t /\ i' = j
   ·simp only [lg, and_self, if_true] at iJ
    simp only [hc, if_false] at iz
    rcases hu b' iJ with h1 | h1
    ·have := r.inj u i t j b' (l4 u i lD) lV iz h1
     rw [lg.1, lg.2]; exact this
    ·exact absurd iz ((hM b' h1).2.2.2 u i (l4 u i lD))
   ·simp only [hc, if_false] at iz
    simp only [lg, if_false] at iJ
    exact r.inj u i u' i' b' (l4 u i lD) (l4 u' i' ld) iz iJ
theorem Rel.vZ (r : Rel T0 B σ a w X h) {t j : Nat} (lV : σ.ob t j ≠ .none) (l7 : w'.heap.size = w.heap.size) (hw : ∀ k, ¬ (h t j).u k -> w'.heap[k]? = w.heap[k]?)
  (o' : Ob) (gC : (σ.ob t j).wN o') (fQ : zR (Tof T0 X) h (σ.Z7 t j o').ob w' (h t j) o') : Rel T0 B (σ.Z7 t j o') a w' X h := by
 have hh : (fun u i => if u = t /\ i = j then h t j else h u i) = h := by
  funext u i
  by_cases hc : u = t /\ i = j
  ·simp [hc]
  ·simp [hc]
 have := r.change lV l7 hw (fun _ => False) (fun _ hh => hh.elim) o' gC (h t j) rfl (fun b hb => .inl hb) (fun b hb => r.ub t j b lV hb) (fun _ => false) (St.xF σ) (.inr rfl) (by rw [hh]; exact fQ)
 rw [hh] at this; exact this
theorem run_store {T : TypeId} {ti : TypeInfo} (hi : P.info? T = some ti) {g o : Nat} {e : TypeId} {cur : Array Value} {val : Value} (hg : w.heap[g]? = some (.cells cur e (0, 0))) (l7 : val.cells.size = P.cellsOf T) (hle : o + P.cellsOf T <= cur.size) (h1 : ∀ u ∈ val.cells.toList, u.oneCell' = true) :
  (Instr.storeAt T (.pointer (some ⟨g, o, none⟩)) val).run P w = .ok () (w.setRow g (place cur.toList o val.cells.toList).toArray) := by
 have lZ := run_storeCells_at P g o e val.cells.toList 0 cur w hg (by simp; omega) h1
 have lD : ¬ val.cells.size ≠ P.cellsOf T := by omega
 simp only [Instr.storeAt, Instr.sureAddr, storeVar, Sem.run_bind, Sem.run_pure, Result.andThen_ok, Kj hi, if_neg lD]
 rw [lZ]
 simp [place]
theorem Y7.setRow {B : Nat -> Prop} {g : Nat} (hg : ¬ B g) (cs : Array Value) : Y7 B w (w.setRow g cs) :=
 ⟨rfl, rfl, rfl, by simp [World.setRow], fun k hk => setRow_other w g k cs (fun e => hg (e ▸ hk))⟩
theorem Hb (r : Rel T0 B σ a w X h) {o : Oper} {T : TypeId} {x y : Operand} (lB : o.op = .store T x y) (hd : o.dst = none) (ht : qU P T = true) (gw : gOf (look P σ 0 x) = true) (gx : gOf (look P σ T y) = true)
  {t c : Nat} (hx : unc (look P σ 0 x) = .one (.bptr t c)) {cells : List At} (ho : σ.ob t 0 = .box cells) (iV : (unc (look P σ T y)).flat = true) (hl : (unc (look P σ T y)).cells.length = P.cellsOf T) (hle : c + P.cellsOf T <= cells.length)
  {K : Act -> World -> Prop} {Q : Exit -> Act -> World -> Prop} (hK : ∀ a' w', Ku T0 B (σ.Z7 t 0 (.box (place cells c (unc (look P σ T y)).cells))) a' w' -> Y7 B w w' -> K a' w') : o.wp P a w K Q := by
 obtain ⟨_, ti, _, hi, _, _⟩ := j8 ht
 have bZ := r.arg (P := P) 0 x hx gw
 obtain ⟨b, cs, e, hb, he, hh, lE⟩ := r.box ho bZ
 have hy := ku iV (r.arg (P := P) T y rfl gx)
 have gE := hy.length
 have lr := lE.length
 have e1 : cs.toList.length = cs.size := Array.length_toList
 have e2 : (a.eval y).cells.toList.length = (a.eval y).cells.size := Array.length_toList
 have lT := run_store (P := P) (w := w) hi (o := c) (val := a.eval y) hh (by omega) (by omega) (fun u hu => by obtain ⟨x', _, fD⟩ := hy.mem hu; exact YK.Xy fD)
 have lV : σ.ob t 0 ≠ .none := by rw [ho]; simp
 have iB : blk (h t 0).v = some b := by rw [hb]; rfl
 have hB := r.sJ lV iB
 have hO := r.ub t 0 b lV iB
 unfold Oper.wp
 simp only [execOp, lB, he, Sem.run_bind, lT, Result.andThen_ok, Sem.run_pure, Oper.upon_skip, hd]
 refine hK _ _ ⟨X, h, ?_⟩ (Y7.setRow hB.1 _)
 have iO := setRow_heap w b cs (place cs.toList c (a.eval y).cells.toList).toArray e (0, 0) hh
 refine r.vZ lV (by simp [World.setRow]) (fun k hk => setRow_other w b k _ (fun e => hk (e ▸ hO))) _ (by rw [ho]; trivial) ?_
 have r2 : Rel T0 B (σ.Z7 t 0 (.box (place cells c (unc (look P σ T y)).cells))) a (w.setRow b (place cs.toList c (a.eval y).cells.toList).toArray) X h -> True := fun _ => trivial
 have hT : ∀ b' k v, Tof T0 X b' k -> w.cell? ⟨b', k, none⟩ = some v -> (w.setRow b (place cs.toList c (a.eval y).cells.toList).toArray).cell? ⟨b', k, none⟩ = some v /\ Tof T0 X b' k := by
  intro b' k v lM lK
  refine ⟨?_, lM⟩
  have lD : b' ≠ b := by
   rintro rfl
   rcases lM with lM | lM
   ·exact hB.1 (r.hT _ _ lM)
   ·exact hB.2.1 lM
  rw [World.cell?_of_block (setRow_other w b b' _ lD)]; exact lK
 have iG : ∀ u i, ¬ (u = t /\ i = 0) -> (σ.Z7 t 0 (.box (place cells c (unc (look P σ T y)).cells))).ob u i = σ.ob u i := by
  intro u i lD
  rw [St.JH σ t 0 _ u i lV, if_neg lD]
 have iF : (σ.Z7 t 0 (.box (place cells c (unc (look P σ T y)).cells))).ob t 0 = .box (place cells c (unc (look P σ T y)).cells) := by rw [St.JH σ t 0 _ t 0 lV]; simp
 have hcp : ∀ u i, Cpt h h σ.ob (σ.Z7 t 0 (.box (place cells c (unc (look P σ T y)).cells))).ob u i := by
  intro u i
  by_cases hu : u = t /\ i = 0
  ·obtain ⟨rfl, rfl⟩ := hu
   refine ⟨fun q size rows lU => ?_, fun size rows lU => ?_, fun lO lU => ⟨rfl, cells, ho⟩⟩
   ·rw [iF] at lU; cases lU
   ·rw [iF] at lU; cases lU
  ·exact Cpt.same rfl (iG u i hu)
 have at_ : ∀ {x : At} {v : Value}, YK (Tof T0 X) h σ.ob w x v -> YK (Tof T0 X) h (σ.Z7 t 0 (.box (place cells c (unc (look P σ T y)).cells))).ob (w.setRow b (place cs.toList c (a.eval y).cells.toList).toArray) x v := fun rx => YK.oR hT hcp rx
 refine ⟨b, _, e, hb, iO, ?_⟩
 have := (lE.place c hy).imp (fun _ _ => at_)
 simpa using this
end
end Go.Vm
namespace Go.Vm
open Go.RowKit
section
variable {P : Program} {T0 : CS} {B : Nat -> Prop} {σ : St} {a : Act} {w w' : World} {X X' : Nat -> Prop} {h : Nat -> Nat -> Hd}
theorem zY {α : Type} (size c : Nat) (ds : List α) (hc : c + ds.length <= size) : ∀ (rows : List (List α)) (i : Nat) (row : List α), rows[i]? = some row -> (∀ r ∈ rows, r.length = size) ->
  (rows.set i (place row c ds)).flatten = place rows.flatten (i * size + c) ds
 | [], i, row, hr, _ => by simp at hr
 | r0 :: rows, 0, row, hr, hz => by
  simp at hr; subst hr
  have h0 : r0.length = size := hz r0 (by simp)
  simp only [List.set_cons_zero, List.flatten_cons, place, Nat.zero_mul, Nat.zero_add]
  rw [List.take_append_of_le_length (by omega), List.drop_append_of_le_length (by omega)]
  simp
 | r0 :: rows, i + 1, row, hr, hz => by
  have h0 : r0.length = size := hz r0 (by simp)
  have ih := zY size c ds hc rows i row (by simpa using hr) (fun r hr => hz r (by simp [hr]))
  rw [List.set_cons_succ, List.flatten_cons, ih, List.flatten_cons]
  unfold place
  have e1 : (i + 1) * size + c = r0.length + (i * size + c) := by rw [h0, Nat.add_mul]; omega
  have e2 : (i + 1) * size + c + ds.length = r0.length + (i * size + c + ds.length) := by rw [h0, Nat.add_mul]; omega
  rw [e2, e1, List.take_length_add_append, List.drop_length_add_append]
  simp
theorem ON {α : Type} (l : List α) (n off : Nat) (xs : List α) (hl : off + xs.length <= n) (hn : n <= l.length) : (place l off xs).take n = place (l.take n) off xs := by
 unfold place
 rw [List.take_take, Nat.min_eq_left (by omega), List.drop_take]
 rw [List.take_append, List.take_append]
 simp only [List.length_append, List.length_take]
 rw [Nat.min_eq_left (by omega), List.take_of_length_le (l := List.take off l) (by simp; omega), List.take_of_length_le (l := xs) (by omega)]
theorem xf {α : Type} (l : List α) (o : Nat) (xs : List α) (hl : o + xs.length <= l.length) (k : Nat) (v : α) (hv : (place l o xs)[k]? = some v) :
  (o <= k /\ k < o + xs.length /\ xs[k - o]? = some v) \/ (¬ (o <= k /\ k < o + xs.length) /\ l[k]? = some v) := by
 unfold place at hv
 have h1 : (l.take o).length = o := by simp; omega
 rcases Nat.lt_or_ge k o with hk | hk
 ·rw [List.append_assoc, List.getElem?_append_left (by omega), List.getElem?_take, if_pos hk] at hv
  exact .inr ⟨by omega, hv⟩
 ·rw [List.append_assoc, List.getElem?_append_right (by omega), h1] at hv
  rcases Nat.lt_or_ge (k - o) xs.length with eZ | eZ
  ·rw [List.getElem?_append_left eZ] at hv
   exact .inl ⟨hk, by omega, hv⟩
  ·rw [List.getElem?_append_right eZ, List.getElem?_drop] at hv
   refine .inr ⟨by omega, ?_⟩
   rw [show o + xs.length + (k - o - xs.length) = k by omega] at hv; exact hv
theorem Gq (r : Rel T0 B σ a w X h) {o : Oper} {T : TypeId} {x y : Operand} (lB : o.op = .store T x y) (hd : o.dst = none) (ht : qU P T = true) (gw : gOf (look P σ 0 x) = true) (gx : gOf (look P σ T y) = true)
  {t j i c : Nat} (hx : unc (look P σ 0 x) = .one (.ptr t j i c)) {q : Bool} {size : Nat} {rows : List (List D)} (ho : σ.ob t j = .arr q size rows) (hi : i < rows.length) {ds : List D} (iV : (unc (look P σ T y)).flat = true) (eH : rowOf σ (unc (look P σ T y)).cells = some ds) (lZ : Kz (unc (look P σ T y)).cells = true)
  (hl : ds.length = P.cellsOf T) (hle : c + P.cellsOf T <= size) (hq : q = true -> (∀ d ∈ ds, d.scalar = true) /\ ∀ k d, k < P.cellsOf T -> (rows.getD i [])[c + k]? = some d -> d.scalar = true)
  {K : Act -> World -> Prop} {Q : Exit -> Act -> World -> Prop} (hK : ∀ a' w', Ku T0 B (σ.Z7 t j (.arr q size (rows.set i (place (rows.getD i []) c ds)))) a' w' -> Y7 B w w' -> K a' w') : o.wp P a w K Q := by
 obtain ⟨_, ti, _, ag, _, _⟩ := j8 ht
 have bZ := r.arg (P := P) 0 x hx gw
 obtain ⟨b, cap, cur, e, xs, hb, he, hh, iU, gD, iy, gO, hz, fV, lE, lG⟩ := r.arr ho bZ
 have hy := ku iV (r.arg (P := P) T y rfl gx)
 have cm := r.rowOf true eH hy (fun _ => lZ)
 simp only [if_true] at cm
 have gE := cm.length
 have e2 : (a.eval y).cells.toList.length = (a.eval y).cells.size := Array.length_toList
 have e3 : cur.toList.length = cur.size := Array.length_toList
 have lX : rows[i]? = some (rows.getD i []) := by simp [List.getD_eq_getElem?_getD, List.getElem?_eq_getElem hi]
 have hmul : i * size + size <= rows.length * size := by rw [<- Nat.succ_mul]; exact Nat.mul_le_mul_right _ hi
 have cp : rows.length * size <= cap * size := Nat.mul_le_mul_right _ iU
 have lT := run_store (P := P) (w := w) ag (o := i * size + c) (val := a.eval y) hh (by omega) (by omega) (fun u hu => by obtain ⟨x', _, fD⟩ := hy.mem hu; exact YK.Xy fD)
 have lV : σ.ob t j ≠ .none := by rw [ho]; simp
 have iB : blk (h t j).v = some b := by rw [hb]; rfl
 have hB := r.sJ lV iB
 have hO := r.ub t j b lV iB
 unfold Oper.wp
 simp only [execOp, lB, he, Sem.run_bind, lT, Result.andThen_ok, Sem.run_pure, Oper.upon_skip, hd]
 refine hK _ _ ⟨X, h, ?_⟩ (Y7.setRow hB.1 _)
 refine r.vZ lV (by simp [World.setRow]) (fun k hk => setRow_other w b k _ (fun e => hk (e ▸ hO))) _ (by rw [ho]; simp [Ob.wN]) ?_
 have iO := setRow_heap w b cur (place cur.toList (i * size + c) (a.eval y).cells.toList).toArray e (0, 0) hh
 have hT : ∀ b' k v, Tof T0 X b' k -> w.cell? ⟨b', k, none⟩ = some v -> (w.setRow b (place cur.toList (i * size + c) (a.eval y).cells.toList).toArray).cell? ⟨b', k, none⟩ = some v /\ Tof T0 X b' k := by
  intro b' k v lM lK
  refine ⟨?_, lM⟩
  have lD : b' ≠ b := by
   rintro rfl
   rcases lM with lM | lM
   ·exact hB.1 (r.hT _ _ lM)
   ·exact hB.2.1 lM
  rw [World.cell?_of_block (setRow_other w b b' _ lD)]; exact lK
 have cz : xs.length = rows.length * size := by rw [fV, YQ rows size hz]
 have g5 : (rows.getD i []).length = size := hz _ (List.mem_of_getElem? lX)
 have ib : (w.setRow b (place cur.toList (i * size + c) (a.eval y).cells.toList).toArray).ownsRow 0 e size (h t j).v (rows.set i (place (rows.getD i []) c ds)).length (place xs (i * size + c) (a.eval y).cells.toList) := by
  refine ⟨?_, .inr ⟨b, cap, _, by simpa using hb, Nat.zero_le _, iO, by simpa using iU, gD, ?_, ?_⟩⟩
  ·rw [XX _ _ _ (by omega), cz]; simp
  ·simp only [List.size_toArray]
   rw [XX _ _ _ (by omega), e3, iy]
  ·simp only [List.length_set]
   rw [ON _ _ _ _ (by omega) (by omega), gO]
 have hZ : ∀ r ∈ rows.set i (place (rows.getD i []) c ds), r.length = size := by
  intro r' lp
  rcases List.mem_or_eq_of_mem_set lp with lp | lp
  ·exact hz r' lp
  ·rw [lp, XX _ _ _ (by omega), g5]
 cases q with
 | false =>
  refine ⟨e, _, ib, hZ, ?_⟩
  rw [zY size c ds (by omega) rows i _ lX hz]
  exact ((lE rfl).imp fun _ _ => Rd.mono hT).place _ (cm.imp fun _ _ => Rd.mono hT)
 | true =>
  obtain ⟨⟨_, Sk, h1, h2, h3⟩, hn⟩ := lG rfl
  obtain ⟨hq1, hq2⟩ := hq rfl
  have lK : ∀ k u, (place xs (i * size + c) (a.eval y).cells.toList)[k]? = some u -> (i * size + c <= k /\ k < i * size + c + ds.length /\ (a.eval y).cells.toList[k - (i * size + c)]? = some u) \/ (¬ (i * size + c <= k /\ k < i * size + c + ds.length) /\ xs[k]? = some u) := by
   intro k u hu
   exact xf xs _ _ (by omega) k u hu |>.imp (fun hh => ⟨hh.1, by omega, hh.2.2⟩) (fun hh => ⟨by rw [<- gE]; exact hh.1, hh.2⟩)
  have fr : ∀ k d, (rows.set i (place (rows.getD i []) c ds)).flatten[k]? = some d -> (i * size + c <= k /\ k < i * size + c + ds.length /\ ds[k - (i * size + c)]? = some d) \/ (¬ (i * size + c <= k /\ k < i * size + c + ds.length) /\ rows.flatten[k]? = some d) := by
   intro k d ic
   rw [zY size c ds (by omega) rows i _ lX hz] at ic
   exact xf _ _ _ (by rw [YQ rows size hz]; omega) k d ic
  refine ⟨e, _, ib, hZ, ⟨?_, Sk, fun k u d hu ic => ?_, h2, h3⟩, fun k u d hu ic iK => ?_⟩
  ·rw [XX _ _ _ (by omega), fV, YQ rows size hz, YQ _ size hZ]; simp
  ·rcases lK k u hu with ⟨p1, p2, p3⟩ | ⟨p1, p3⟩
   ·rcases fr k d ic with ⟨_, _, p4⟩ | ⟨p4, _⟩
    ·obtain ⟨d', lQ, lp⟩ := cm.get _ _ p3
     rw [p4] at lQ; cases lQ
     have hs := hq1 d (List.mem_of_getElem? p4)
     cases lp with
     | int k n => exact .int _ _ _
     | bool b => exact .bool _ _
     | str s => exact .str _ _
     | unk v h => exact .unk _ h _
     | nil => simp [D.scalar] at hs
     | sl => simp [D.scalar] at hs
    ·exact absurd ⟨p1, p2⟩ p4
   ·rcases fr k d ic with ⟨p4, p5, _⟩ | ⟨_, p4⟩
    ·exact absurd ⟨p4, p5⟩ p1
    ·refine (h1 k u d p3 p4).Tz (fun b' lM => setRow_other w b b' _ ?_)
     rintro rfl
     exact (h2 k b' lM).2 iB
  ·rcases fr k d ic with ⟨p4, p5, p6⟩ | ⟨p4, p6⟩
   ·have := hq1 d (List.mem_of_getElem? p6)
    rw [iK] at this; cases this
   ·rcases lK k u hu with ⟨p1, p2, _⟩ | ⟨_, p3⟩
    ·exact absurd ⟨p1, p2⟩ p4
    ·exact hn k u d p3 p6 iK
end
end Go.Vm
namespace Go.Vm
open Go.RowKit
section
variable {P : Program} {T0 : CS} {B : Nat -> Prop} {σ : St} {a : Act} {w w' : World} {X X' : Nat -> Prop} {h : Nat -> Nat -> Hd}
theorem Mf (t ty e e0 : TypeId) (i : TypeInfo) (ht : P.underlying t = some (.slice e)) (hi : P.info? e = some i)
  (g ft bT : Nat) (cur : Array Value) (hg : w.heap[g]? = some (.cells cur e0 (0, 0)))
  (a : Addr) (m c : Nat) (news : List Value) (hl : news.length = m * i.size) (iE : ∀ j u, news[j]? = some u -> w.cell? (a.add j) = some u) (h1 : ∀ u ∈ news, u.oneCell' = true)
  (fT : ft + m <= bT) (bU : ft * i.size + news.length <= cur.size) :
  (Builtin.append_ #[t, t] ty #[.slice (some ⟨g, 0, none⟩) ft bT, .slice (some a) m c]).run P w =
   .ok (.slice (some ⟨g, 0, none⟩) (ft + m) bT) (w.setRow g (cur.toList.take (ft * i.size) ++ news ++ cur.toList.drop (ft * i.size + news.length)).toArray) := by
 have hf := run_firstCells_some (P := P) w i.size m a m c news hl iE
 have lZ := run_storeCells_at P g (ft * i.size) e0 news 0 cur w hg (by simpa using bU) h1
 simp only [Nat.add_zero] at lZ
 simp [Builtin.append_, run_underlying ht, sizeOf, typeInfo, hi, Builtin.lenOf, fT, hf, Addr.add_lit, lZ]
theorem jl (t ty e e0 : TypeId) (i : TypeInfo) (z : Value) (ht : P.underlying t = some (.slice e)) (hi : P.info? e = some i) (hz : i.zero = some z)
  (fJ : z.cells.size = i.size) (l7 : 0 < i.size) (v : Value) (n : Nat) (xs : List Value) (lG : w.ownsRow 0 e0 i.size v n xs)
  (a : Addr) (m c : Nat) (news : List Value) (hl : news.length = m * i.size) (iE : ∀ j u, news[j]? = some u -> w.cell? (a.add j) = some u) (h1 : ∀ u ∈ news, u.oneCell' = true)
  (h63 : n + m <= maxLen) (l5 : (n + m) * i.bytes <= 140737488355328) :
  ∃ v' w' e1, (Builtin.append_ #[t, t] ty #[v, .slice (some a) m c]).run P w = .ok v' w' /\ w'.ownsRow 0 e1 i.size v' (n + m) (xs ++ news) /\ w.grownBy w' (blk v) /\
   (∀ b, blk v' = some b -> (w.heap.size <= b /\ b < w'.heap.size) \/ blk v = some b) := by
 have hlen : (xs ++ news).length = (n + m) * i.size := by rw [List.length_append, lG.1, hl, Nat.add_mul]
 rcases lG.2 with ⟨rfl, rfl⟩ | ⟨g, cap, cur, rfl, _, hg, ij, dY, iy, ak⟩
 ·have hx : xs = [] := List.eq_nil_of_length_eq_zero (by simpa using lG.1)
  subst hx
  obtain ⟨v', w', hr, ho, iC, _⟩ := run_append_own (P := P) w w.heap.size t ty e i z i.size i.bytes ht hi hz rfl rfl fJ l7 (.slice none 0 0) 0 [] (World.ownsRow_nil w _ e i.size) a m c news hl iE h1 h63 l5 (Nat.le_refl _)
  refine ⟨v', w', e, hr, ?_, iC, fun b hb => .inl ?_⟩
  ·refine ⟨ho.1, ho.2.imp id ?_⟩
   rintro ⟨g, cap, cur, hv, _, rest⟩
   exact ⟨g, cap, cur, hv, Nat.zero_le _, rest⟩
  ·have lM : v'.ownBlock = some b := by
    cases v' with
    | slice o l c => cases o with
     | none => simp [blk] at hb
     | some ad => simpa [blk, Value.ownBlock] using hb
    | pointer o => rcases ho.2 with ⟨hv, _⟩ | ⟨g, cap, cur, hv, _⟩ <;> cases hv
    | _ => simp [blk] at hb
   exact ho.lt b lM
 ·by_cases fT : n + m <= cap
  ·have bU : n * i.size + news.length <= cur.size := by rw [hl, iy, <- Nat.add_mul]; exact Nat.mul_le_mul_right _ fT
   have hr := Mf (P := P) (w := w) t ty e e0 i ht hi g n cap cur hg a m c news hl iE h1 fT bU
   refine ⟨_, _, e0, hr, ⟨hlen, .inr ⟨g, cap, _, rfl, Nat.zero_le _, setRow_heap w g cur _ e0 _ hg, fT, dY, ?_, ?_⟩⟩, ⟨rfl, rfl, rfl, by simp [World.setRow], fun k _ hk => setRow_other w g k _ (fun e => hk (by simp [blk, e]))⟩, fun b hb => .inr (by simpa [blk] using hb)⟩
   ·simp only [List.size_toArray, List.length_append, List.length_take, List.length_drop, Array.length_toList]
    omega
   ·rw [ak, <- hlen]
    exact List.take_left
  ·have holds : ∀ j u, xs[j]? = some u -> w.cell? ((⟨g, 0, none⟩ : Addr).add j) = some u := lG.cells (g := g) rfl
   have hsmall : n + m <= 9223372036854775807 := by simp only [maxLen] at h63; omega
   have hr := run_append_grow (P := P) w t ty e i z ht hi hz ⟨g, 0, none⟩ n cap xs lG.1 holds a m c news hl iE (by omega) (by omega) (growslice_fits (by omega) l5)
   have fb := grownCap_ge w (n + m) cap e
   have hcm2 : grownCap w (n + m) cap e <= maxLen := grownCap_le_maxLen w (n + m) cap e h63
   refine ⟨_, _, e, hr, ⟨hlen, .inr ⟨w.heap.size, _, _, rfl, Nat.zero_le _, heap_alloc_new w.drew _, fb, hcm2, ?_, ?_⟩⟩, ⟨rfl, rfl, rfl, by simp, fun k hk _ => (World.grownBy_alloc w.drew _ none).block k hk (by simp)⟩, fun b hb => .inl ?_⟩
   ·simp only [Array.size_append, List.size_toArray, size_zeroCells, fJ, lG.1, hl, <- Nat.add_mul]
    congr 1
    omega
   ·simp only [Array.toList_append, List.append_assoc]
    rw [<- List.append_assoc, <- hlen]
    exact List.take_left
   ·simp [blk] at hb; subst hb; simp
theorem yL (t ty e : TypeId) (i : TypeInfo) (ht : P.underlying t = some (.slice e)) (hi : P.info? e = some i) (base : Option Addr) (n cap : Nat) (ij : n <= cap) (hb : base = none -> cap = 0) :
  (Builtin.append_ #[t, t] ty #[.slice base n cap, .slice none 0 0]).run P w = .ok (.slice base n cap) w := by
 cases base with
 | none =>
  have := hb rfl; subst this
  have : n = 0 := by omega
  subst this
  simp [Builtin.append_, run_underlying ht, sizeOf, typeInfo, hi, Builtin.lenOf, Builtin.firstCells]
 | some ad => simp [Builtin.append_, run_underlying ht, sizeOf, typeInfo, hi, Builtin.lenOf, Builtin.firstCells, ij, storeCells]
theorem Rel.less (r : Rel T0 B σ a w X h) {σ' : St} (hl : σ'.length = σ.length) (l8 : ∀ t, σ'.get t = σ.get t) (hk : ∀ t j, σ'.ob t j ≠ .none -> σ'.ob t j = σ.ob t j) : Rel T0 B σ' a w X h := by
 have back : ∀ t j o, σ'.ob t j = o -> o ≠ .none -> σ.ob t j = o := by
  intro t j o ho lD
  rw [<- hk t j (by rw [ho]; exact lD)]; exact ho
 have at_ : ∀ {x : At} {v : Value}, (fun _ : At => false) x = false -> YK (Tof T0 X) h σ.ob w x v -> YK (Tof T0 X) h σ'.ob w x v := by
  intro x v _ rx
  cases x with
  | any => exact rx
  | d x => exact rx
  | nil s => exact rx
  | sref u i lo len => exact ⟨rx.1, fun q size rows ho => rx.2.1 q size rows (back u i _ ho (by simp)), fun size rows ho => rx.2.2 size rows (back u i _ ho (by simp))⟩
  | ptr u i k c => exact ⟨rx.1, fun q size rows ho => rx.2 q size rows (back u i _ ho (by simp))⟩
  | bptr u c => exact ⟨rx.1, fun cells ho => rx.2 cells (back u 0 _ ho (by simp))⟩
  | fn f u => exact ⟨rx.1, fun cells ho => rx.2 cells (back u 0 _ ho (by simp))⟩
  | tref u i k c o => exact ⟨rx.1, fun size rows ho => rx.2 size rows (back u i _ ho (by simp))⟩
  | rptr rr c => exact rx
 have l4 : ∀ u i, σ'.ob u i ≠ .none -> σ.ob u i ≠ .none := fun u i hn => by rw [<- hk u i hn]; exact hn
 refine ⟨by rw [r.size, hl], r.defers, r.hB, r.hX, r.hT, fun u hu => ?_, fun u i => ?_, fun u i b hn => r.ub u i b (l4 u i hn), fun u i b hn => r.own u i b (l4 u i hn), fun u i u' i' b hn l0 => r.inj u i u' i' b (l4 u i hn) (l4 u' i' l0)⟩
 ·rw [l8 u]; exact JD.map at_ (xF _) (r.slot u (by omega))
 ·by_cases hn : σ'.ob u i = .none
  ·rw [hn]; trivial
  ·rw [hk u i hn]
   exact zR.map at_ (fun b k v hb hc => ⟨hc, hb⟩) (fun ho b => r.ub u i b ho) (fun _ _ _ => rfl) (Tp _) (r.obj u i)
theorem St.Pt (σ : St) (t j u i : Nat) : (σ.Z7 t j .none).ob u i = if u = t /\ i = j then .none else σ.ob u i := by
 by_cases lV : σ.ob t j = .none
 ·have key : ∀ (σ : St) (t u : Nat), σ.ob t j = .none -> (σ.Z7 t j .none).ob u i = σ.ob u i := by
   intro σ
   induction σ with
   | nil => intro t u _; simp [St.Z7]
   | cons e σ ih =>
    intro t u ho
    cases t with
    | zero => cases u with
     | zero =>
      simp only [St.Z7, St.ob, List.getElem?_cons_zero, Bb] at ho ⊢
      split
      ·rename_i hh; rw [hh.1, ho]
      ·rfl
     | succ u => simp [St.Z7, St.ob]
    | succ t => cases u with
     | zero => simp [St.Z7, St.ob]
     | succ u =>
      have := ih t u (by simpa [St.ob] using ho)
      simp only [St.ob, St.Z7] at this ⊢; simpa using this
  rw [key σ t u lV]
  split
  ·rename_i hh; rw [hh.1, hh.2]; exact lV
  ·rfl
 ·exact St.JH σ t j _ u i lV
theorem Rel.drop (r : Rel T0 B σ a w X h) (t j : Nat) : Rel T0 B (σ.Z7 t j .none) a w X h := by
 refine r.less (St.Xv _ _ _ _) (fun u => St.QK _ _ _ _ u) (fun u i hn => ?_)
 rw [St.Pt] at hn ⊢
 split
 ·rename_i hh; rw [if_pos hh] at hn; exact absurd rfl hn
 ·rfl
def St.Zx : St -> List (Nat × Nat) -> St
 | σ, [] => σ
 | σ, p :: l => St.Zx (σ.Z7 p.1 p.2 .none) l
theorem St.Kn : ∀ (l : List (Nat × Nat)) (σ : St), (σ.Zx l).length = σ.length
 | [], σ => rfl
 | p :: l, σ => by rw [St.Zx, St.Kn l, St.Xv]
theorem St.xW : ∀ (l : List (Nat × Nat)) (σ : St) (t : Nat), (σ.Zx l).get t = σ.get t
 | [], σ, t => rfl
 | p :: l, σ, t => by rw [St.Zx, St.xW l, St.QK]
theorem St.Kl : ∀ (l : List (Nat × Nat)) (σ : St) (t j : Nat), (σ.Zx l).ob t j = if (t, j) ∈ l then .none else σ.ob t j
 | [], σ, t, j => by simp [St.Zx]
 | p :: l, σ, t, j => by
  rw [St.Zx, St.Kl l, St.Pt]
  by_cases h1 : (t, j) ∈ l
  ·simp [h1]
  ·by_cases h2 : t = p.1 /\ j = p.2
   ·have : (t, j) = p := by rw [h2.1, h2.2]
    rw [if_neg h1, if_pos h2, if_pos (by rw [this]; simp)]
   ·have : ¬ (t, j) = p := fun e => h2 (by rw [<- e]; exact ⟨rfl, rfl⟩)
    simp [h1, h2, this]
theorem Rel.Zx (r : Rel T0 B σ a w X h) (l : List (Nat × Nat)) : Rel T0 B (σ.Zx l) a w X h := by
 refine r.less (St.Kn l σ) (St.xW l σ) (fun u i hn => ?_)
 rw [St.Kl] at hn ⊢
 split
 ·rename_i hh; rw [if_pos hh] at hn; exact absurd rfl hn
 ·rfl
end
end Go.Vm
namespace Go.Vm
open Go.RowKit
section
variable {P : Program} {T0 : CS} {B : Nat -> Prop} {σ : St} {a : Act} {w w' : World} {X X' : Nat -> Prop} {h : Nat -> Nat -> Hd}
theorem xK {T : TypeId} (hz : QF P T = true) : ∃ i z row, P.info? T = some i /\ i.zero = some z /\ j5 P 12 T = some row /\ i.size = row.length /\ z.cells.size = i.size /\ i.size = P.cellsOf T /\ (∀ T' h ob w, YA (YK T' h ob w) row z.cells.toList) := by
 have hP : ∃ row, j5 P 12 T = some row := by
  unfold QF at hz
  split at hz
  ·rename_i row i hr hi; exact ⟨row, hr⟩
  ·cases hz
 obtain ⟨row, hr⟩ := hP
 obtain ⟨i, z, hi, fE, l7, lE⟩ := GY hz hr
 refine ⟨i, z, row, hi, fE, hr, l7, ?_, by simp [Program.cellsOf, hi], lE⟩
 have := (lE (fun _ _ => True) (fun _ _ => Hd.of undef) (fun _ _ => .none) default).length
 have e1 : z.cells.toList.length = z.cells.size := Array.length_toList
 omega
def xh (σ : St) (x : V) (size : Nat) (news : List (List D)) : Prop :=
 match x with
 | .one (.d (.sl s rows)) => s = size /\ news = rows
 | .one (.nil _) => news = []
 | .one (.sref t j lo len) => ∃ rows, σ.ob t j = .arr false size rows /\ lo + len <= rows.length /\ news = cut rows lo len
 | _ => False
def Tu (σ : St) (x : V) (size : Nat) (lC : List (List D)) (σ1 : St) : Prop :=
 match x with
 | .one (.nil _) => lC = [] /\ σ1 = σ
 | .one (.sref t j lo len) => ∃ rows, σ.ob t j = .arr false size rows /\ lo = 0 /\ len <= rows.length /\ lC = rows.take len /\ σ1 = σ.Z7 t j .none
 | _ => False
theorem E1 (v : Value) (n : Nat) : blk (Dc v n) = blk v := by
 cases v with
 | slice o _ _ => cases o <;> rfl
 | _ => rfl
theorem qE (rows : List (List D)) (size : Nat) (hz : ∀ r ∈ rows, r.length = size) (len : Nat) (hle : len <= rows.length) : (rows.take len).flatten = rows.flatten.take (len * size) := by
 induction rows generalizing len with
 | nil => simp
 | cons r rows ih =>
  cases len with
  | zero => simp
  | succ len =>
   have h1 := hz r (by simp)
   have h2 := ih (fun q hq => hz q (by simp [hq])) len (by simpa using hle)
   have h3 : (len + 1) * size = r.length + len * size := by rw [Nat.add_mul, h1]; omega
   rw [List.take_succ_cons, List.flatten_cons, List.flatten_cons, h2, h3, List.take_length_add_append]
theorem Nb {e : TypeId} {size : Nat} {v : Value} {n len : Nat} {xs : List Value} (ho : w.ownsRow 0 e size v n xs) (hle : len <= n) : w.ownsRow 0 e size (Dc v len) len (xs.take (len * size)) := by
 have hm : len * size <= n * size := Nat.mul_le_mul_right _ hle
 refine ⟨by rw [List.length_take, ho.1]; omega, ?_⟩
 rcases ho.2 with ⟨rfl, rfl⟩ | ⟨g, cap, cur, rfl, hx, hg, ij, dY, iy, gO⟩
 ·have : len = 0 := by omega
  subst this
  exact .inl ⟨rfl, rfl⟩
 ·refine .inr ⟨g, cap, cur, rfl, hx, hg, by omega, dY, iy, ?_⟩
  rw [<- gO, List.take_take]
  congr 1
  omega
theorem Dd (r : Rel T0 B σ a w X h) {x : V} {v : Value} {size : Nat} {news : List (List D)} (hs : xh σ x size news) (hv : JD (Tof T0 X) h σ.ob w x v) :
  (∀ n ∈ news, n.length = size) /\ ((v = .slice none 0 0 /\ news = []) \/ ∃ ad c xs, v = .slice (some ad) news.length c /\ (∀ j u, xs[j]? = some u -> w.cell? (ad.add j) = some u) /\ YA (Rd (Tof T0 X) w) xs news.flatten) := by
 unfold xh at hs
 split at hs
 ·rename_i s rows
  obtain ⟨rfl, rfl⟩ := hs
  refine ⟨Fs (show Rd _ _ _ _ from hv), ?_⟩
  cases (show Rd _ _ _ _ from hv) with
  | nil => exact .inl ⟨rfl, rfl⟩
  | sl ad len cap s rows g hl hc hm hz eA hg hr =>
   refine .inr ⟨ad, cap, (List.range news.flatten.length).map g, by rw [hl], fun j u hu => ?_, ?_⟩
   ·rw [List.getElem?_map] at hu
    rcases Nat.lt_or_ge j news.flatten.length with hj | hj
    ·rw [List.getElem?_range hj] at hu
     cases hu
     have lD : news.flatten ≠ [] := by intro he; rw [he] at hj; simp at hj
     have := (hg j _ (List.getElem?_eq_getElem hj)).1
     obtain ⟨b, off, sp⟩ := ad
     have := eA lD
     simp at this; subst this
     rw [xG]; assumption
    ·rw [List.getElem?_eq_none (by simpa using hj)] at hu; cases hu
   ·refine YA.jf (by simp) (fun k u d hu hd => ?_)
    rw [List.getElem?_map] at hu
    have hk := (List.getElem?_eq_some_iff.1 hd).1
    rw [List.getElem?_range hk] at hu
    cases hu
    exact hr k d hd
 ·subst hs
  exact ⟨(by intro n hn; cases hn), .inl ⟨hv, rfl⟩⟩
 ·rename_i t j lo len
  obtain ⟨rows, ho, hle, rfl⟩ := hs
  have h0 := r.obj t j
  rw [ho] at h0
  obtain ⟨e, xs, ⟨hl, lG⟩, hz, lE⟩ := h0
  refine ⟨fun x hx => hz x (List.mem_of_mem_drop (List.mem_of_mem_take hx)), ?_⟩
  have gH : YK (Tof T0 X) h σ.ob w (.sref t j lo len) v := hv
  obtain ⟨_, _, _, base, cap, rfl, iU, _, ev, hb⟩ := gH.2.1 _ size rows ho
  have lr : (cut rows lo len).length = len := XH _ _ _ hle
  by_cases iI : 0 < len
  ·obtain ⟨b, fG, hh, rfl⟩ := hb iI
   rcases lG with ⟨hn, _⟩ | ⟨g, eU, cur, gH, _, bQ, ij, gD, iy, gO⟩
   ·rw [hh] at hn; cases hn
   ·rw [hh] at gH; cases gH
    refine .inr ⟨_, cap, cut xs (lo * size) (len * size), by rw [lr], fun j u hu => ?_, ?_⟩
    ·have h1 := yI _ _ _ _ _ hu
     rw [xG]
     refine zj bQ _ _ ?_
     rw [<- gO, List.getElem?_take] at h1
     split at h1
     ·exact h1
     ·cases h1
    ·have cz : xs.length = rows.length * size := by rw [lE.length, YQ rows size hz]
     have hmul : lo * size + len * size <= rows.length * size := by rw [<- Nat.add_mul]; exact Nat.mul_le_mul_right _ hle
     refine YA.jf ?_ (fun k u d hu hd => ?_)
     ·rw [XH _ _ _ (by omega), YQ (cut rows lo len) size (fun x hx => hz x (List.mem_of_mem_drop (List.mem_of_mem_take hx))), lr]
     ·have h1 := yI _ _ _ _ _ hu
      have h2 := jA rows size lo len hz k d hd
      obtain ⟨d', lQ, hr⟩ := lE.get _ _ h1
      rw [h2] at lQ; cases lQ
      exact hr
  ·have : len = 0 := by omega
   subst this
   have gq : cut rows lo 0 = [] := by simp [cut]
   rw [gq]
   cases base with
   | none => have := ev rfl; subst this; exact .inl ⟨rfl, rfl⟩
   | some ad => exact .inr ⟨ad, cap, [], rfl, by simp, .nil⟩
 ·exact hs.elim
theorem CP (r : Rel T0 B σ a w X h) {o : Oper} {t : TypeId} {x y : Operand} {d : Nat} {lC news : List (List D)} {σ1 : St} (lB : o.op = .call ⟨.builtin .append, #[x, y], #[t, t]⟩) (hd : o.dst = some d)
  (gw : gOf (look P σ t x) = true) (gx : gOf (look P σ t y) = true) (ht : XK P t = true) (hz : QF P (ZU P t) = true) (iI : 0 < P.cellsOf (ZU P t))
  (iX : Tu σ (unc (look P σ t x)) (P.cellsOf (ZU P t)) lC σ1) (gu : xh σ (unc (look P σ t y)) (P.cellsOf (ZU P t)) news) (hH : σ1.fresh d = true)
  (l5 : (lC.length + news.length) * P.bytesOf (ZU P t) <= 140737488355328) (dG : lC.length + news.length <= 9223372036854775807)
  {K : Act -> World -> Prop} {Q : Exit -> Act -> World -> Prop} (hK : ∀ a' w', Ku T0 B (σ1.new d (.one (.sref d 0 0 (lC.length + news.length))) [.arr false (P.cellsOf (ZU P t)) (lC ++ news)]) a' w' -> Y7 B w w' -> K a' w') : o.wp P a w K Q := by
 obtain ⟨ti, hu, hi, gT⟩ := QG ht
 obtain ⟨i, z, row, iw, fE, hP, gW, fJ, im, gJ⟩ := xK hz
 rw [hi] at iw; cases iw
 have dH : P.bytesOf (ZU P t) = ti.bytes := by simp [Program.bytesOf, hi]
 rw [dH] at l5
 rw [<- im] at iX gu iI hK
 have fX := r.arg (P := P) t x rfl gw
 have dh := r.arg (P := P) t y rfl gx
 obtain ⟨bV, iK⟩ := Dd r gu dh
 have gL : ∃ e0 xs, w.ownsRow 0 e0 ti.size (a.eval x) lC.length xs /\ (∀ q ∈ lC, q.length = ti.size) /\ YA (Rd (Tof T0 X) w) xs lC.flatten /\ Rel T0 B σ1 a w X h /\
   (∀ b, blk (a.eval x) = some b -> ¬ B b /\ ¬ X b /\ b < w.heap.size /\ ∀ u j, σ1.ob u j ≠ .none -> ¬ (h u j).u b) := by
  unfold Tu at iX
  split at iX
  ·rename_i s heq
   obtain ⟨rfl, rfl⟩ := iX
   rw [heq] at fX
   have he : a.eval x = .slice none 0 0 := fX
   rw [he]
   exact ⟨0, [], World.ownsRow_nil w 0 0 _, (by intro q hq; cases hq), .nil, r, (fun b hb => by cases hb)⟩
  ·rename_i u j lo len heq
   obtain ⟨rows, ho, rfl, hle, rfl, rfl⟩ := iX
   rw [heq] at fX
   have fY : YK (Tof T0 X) h σ.ob w (.sref u j 0 len) (a.eval x) := fX
   obtain ⟨_, _, gR, _⟩ := fY.2.1 _ _ _ ho
   have he : a.eval x = Dc (h u j).v len := gR rfl
   have h0 := r.obj u j
   rw [ho] at h0
   obtain ⟨e, xs, lG, gX, lE⟩ := h0
   have lV : σ.ob u j ≠ .none := by rw [ho]; simp
   have htl : (rows.take len).length = len := by rw [List.length_take]; omega
   have iV : (rows.take len).flatten = rows.flatten.take (len * ti.size) := qE rows ti.size gX len hle
   refine ⟨e, xs.take (len * ti.size), by rw [he, htl]; exact Nb lG hle, fun q hq => gX q (List.mem_of_mem_take hq), by rw [iV]; exact lE.take _, r.drop u j, fun b hb => ?_⟩
   rw [he, E1] at hb
   have hbu := r.ub u j b lV hb
   have ib := r.own u j b lV hbu
   refine ⟨ib.1, ib.2.1, ib.2.2, fun u' j' lD lM => ?_⟩
   have hob' : σ.ob u' j' ≠ .none := by
    intro hh
    rw [St.JH σ u j _ u' j' lV] at lD
    split at lD
    ·exact lD rfl
    ·exact lD hh
   have := r.inj u j u' j' b lV hob' hbu lM
   obtain ⟨rfl, rfl⟩ := this
   rw [St.JH σ u j _ u j lV] at lD
   simp at lD
  ·exact iX.elim
 obtain ⟨e0, xs, lG, ah, dJ, r1, iB⟩ := gL
 have fu : ∀ q ∈ lC ++ news, q.length = ti.size := by
  intro q hq
  rcases List.mem_append.1 hq with hq | hq
  ·exact ah q hq
  ·exact bV q hq
 have key : ∀ (v' : Value) (w' : World) (e1 : TypeId) (ys : List Value), (Builtin.append_ #[t, t] o.type #[a.eval x, a.eval y]).run P w = .ok v' w' -> w'.ownsRow 0 e1 ti.size v' (lC.length + news.length) (xs ++ ys) ->
   YA (Rd (Tof T0 X) w) ys news.flatten -> w.grownBy w' (blk (a.eval x)) -> (∀ b, blk v' = some b -> (w.heap.size <= b /\ b < w'.heap.size) \/ blk (a.eval x) = some b) -> o.wp P a w K Q := by
  intro v' w' e1 ys lT lU dI iC fK
  have lN := St.yY hH
  have hT : ∀ b k v, Tof T0 X b k -> w.cell? ⟨b, k, none⟩ = some v -> w'.cell? ⟨b, k, none⟩ = some v /\ Tof T0 X b k := by
   intro b k v hb lK
   refine ⟨?_, hb⟩
   have lD : some b ≠ blk (a.eval x) := by
    intro e
    have h1 := iB b e.symm
    rcases hb with hb | hb
    ·exact h1.1 (r.hT b k hb)
    ·exact h1.2.1 hb
   rw [World.cell?_of_block (iC.block b (r.Tlt hb) lD)]; exact lK
  unfold Oper.wp
  have gY : (execOp a.eval o).run P w = .ok (.value v') w' := by
   simp only [execOp, lB, resolve, invoke, builtin, Sem.run_bind, Sem.run_pure, Result.andThen_ok, List.map_toArray, List.map_cons, List.map_nil, lT]
  rw [gY, Oper.upon_value, hd]
  refine hK _ _ ⟨X, fun u j => if u = d then Hd.of v' else h u j, ?_⟩ ⟨iC.os, iC.tape, iC.output, iC.size, fun k hk => iC.block k (r.hB k hk) (fun e => (iB k e.symm).1 hk)⟩
  have iH : (σ1.new d (.one (.sref d 0 0 (lC.length + news.length))) [.arr false ti.size (lC ++ news)]).ob d 0 = .arr false ti.size (lC ++ news) := by rw [St.Ko]; simp [lN, Yr]
  have iY : w'.ownsRow 0 e1 ti.size v' (lC ++ news).length (xs ++ ys) := by rw [List.length_append]; exact lU
  have fW : YA (Rd (Tof T0 X) w') (xs ++ ys) (lC ++ news).flatten := by
   rw [List.flatten_append]
   exact (dJ.imp fun _ _ => Rd.mono hT).append (dI.imp fun _ _ => Rd.mono hT)
  refine r1.tY hH (fun b => blk (a.eval x) = some b) iC.size (fun k hk lD => iC.block k hk (fun e => lD e.symm)) (fun b hb => ⟨(iB b hb).1, (iB b hb).2.1, fun u j _ lD => (iB b hb).2.2.2 u j lD⟩) (fun _ hb => hb) (fun _ hb => .inl hb) _ _ [.arr false ti.size (lC ++ news)] (fun _ => Hd.of v') ?_ (fun j => ?_) (fun j b _ hb => hb) (fun j b lD lM => ?_) (fun j j' b lD ld _ _ => ?_)
  ·refine ⟨KO lU, fun q' lW lF hh => ?_, fun lW lF hh => by rw [iH] at hh; cases hh⟩
   rw [iH] at hh; cases hh
   simp only [if_true, List.length_append]
   have := UD iY
   rwa [List.length_append] at this
  ·cases j with
   | zero => exact ⟨e1, xs ++ ys, iY, fu, fW⟩
   | succ j => simp [Yr, zR]
  ·rcases fK b lM with h1 | h1
   ·exact ⟨.inl h1.1, fun hx => by have := (r.hX b hx).2; omega, h1.2⟩
   ·have h2 := iB b h1
    exact ⟨.inr h1, h2.2.1, by have := iC.size; omega⟩
  ·have : ∀ j, Yr [Ob.arr false ti.size (lC ++ news)] j ≠ .none -> j = 0 := by
    intro j hj
    cases j with
    | zero => rfl
    | succ j => simp [Yr] at hj
   rw [this j lD, this j' ld]
 rcases iK with ⟨dL, rfl⟩ | ⟨ad, c, ys, dL, lK, dI⟩
 ·have lk : ∃ base cap, a.eval x = .slice base lC.length cap /\ lC.length <= cap /\ (base = none -> cap = 0) := by
   rcases lG.2 with ⟨h1, h2⟩ | ⟨g, cap, cur, h1, _, _, ij, _⟩
   ·exact ⟨none, 0, by rw [h1, h2], by omega, fun _ => rfl⟩
   ·exact ⟨_, cap, h1, ij, (fun hh => by cases hh)⟩
  obtain ⟨base, cap, hex, ij, cJ⟩ := lk
  refine key (a.eval x) w e0 [] ?_ (by simpa using lG) .nil ⟨rfl, rfl, rfl, Nat.le_refl _, fun _ _ _ => rfl⟩ (fun b hb => .inr hb)
  rw [hex, dL]
  exact yL t o.type _ ti hu hi base lC.length cap ij cJ
 ·have gE : ys.length = news.length * ti.size := by rw [dI.length, YQ news ti.size bV]
  obtain ⟨v', w', e1, lT, lU, iC, fK⟩ := jl (P := P) (w := w) t o.type _ e0 ti z hu hi fE fJ (by omega) (a.eval x) lC.length xs lG ad news.length c ys gE lK
   (fun u iP => by
    obtain ⟨k, hk⟩ := List.mem_iff_getElem?.1 iP
    obtain ⟨d', _, lp⟩ := dI.get k u hk
    exact Rd.Xy lp) (by simp only [maxLen]; omega) l5
  refine key v' w' e1 ys ?_ lU dI iC fK
  rw [dL]; exact lT
end
end Go.Vm
namespace Go.Vm
open Go.RowKit
section
variable {P : Program} {T0 : CS} {B : Nat -> Prop} {σ : St} {a : Act} {w w' : World} {X X' : Nat -> Prop} {h : Nat -> Nat -> Hd}
def Gx (P : Program) (σ : St) (T : TypeId) (size : Nat) : List (Nat × Operand) -> Nat -> List (List D) -> Prop
 | [], _, rs => rs = []
 | (i, x) :: ps, k, rs => i = k /\ gOf (look P σ T x) = true /\ (unc (look P σ T x)).flat = true /\ Kz (unc (look P σ T x)).cells = true /\
   ∃ r rest, rowOf σ (unc (look P σ T x)).cells = some r /\ r.length = size /\ Gx P σ T size ps (k + 1) rest /\ rs = r :: rest
theorem LF {α : Type} (l : List α) (o : Nat) (xs ys : List α) (hl : o + (xs ++ ys).length <= l.length) : place (place l o xs) (o + xs.length) ys = place l o (xs ++ ys) := by
 simp only [List.length_append] at hl
 unfold place
 have h1 : (l.take o ++ xs).length = o + xs.length := by simp; omega
 have h2 : (l.take o ++ xs ++ l.drop (o + xs.length)).take (o + xs.length) = l.take o ++ xs := by
  rw [List.take_append_of_le_length (by omega), List.take_of_length_le (by omega)]
 have h3 : (l.take o ++ xs ++ l.drop (o + xs.length)).drop (o + xs.length + ys.length) = l.drop (o + (xs ++ ys).length) := by
  rw [show o + xs.length + ys.length = (l.take o ++ xs).length + ys.length by omega, List.drop_length_add_append, List.drop_drop]
  congr 1; simp; omega
 rw [h2, h3]; simp
theorem DF (r : Rel T0 B σ a w X h) (T : TypeId) (size : Nat) : ∀ (ps : List (Nat × Operand)) (k : Nat) (rs : List (List D)) (cells : Array Value), Gx P σ T size ps k rs -> (k + ps.length) * size <= cells.size ->
   ∃ lO ys, Instr.fill (fun i => some (i * size, size)) cells (ps.map fun x => (x.1, a.eval x.2)) = some lO /\ lO.toList = place cells.toList (k * size) ys /\ YA (Rd (Tof T0 X) w) ys rs.flatten /\ (∀ q ∈ rs, q.length = size) /\ rs.length = ps.length
 | [], k, rs, cells, hb, _ => by cases hb; exact ⟨cells, [], rfl, by simp [place], .nil, (by intro q hq; cases hq), rfl⟩
 | (i, x) :: ps, k, rs, cells, hb, hl => by
  obtain ⟨rfl, hg, hf, lZ, r0, rest, g4, hlen, hb, rfl⟩ := hb
  have hx := ku hf (r.arg (P := P) T x rfl hg)
  have cm := r.rowOf true g4 hx (fun _ => lZ)
  simp only [if_true] at cm
  have di := cm.length
  have e1 : cells.toList.length = cells.size := Array.length_toList
  have e2 : (a.eval x).cells.toList.length = (a.eval x).cells.size := Array.length_toList
  have hmul : (i + (ps.length + 1)) * size = i * size + size + ps.length * size := by rw [Nat.add_mul, Nat.add_mul]; omega
  simp only [List.length_cons] at hl
  have heq := T2 (i * size) (a.eval x).cells cells (by omega)
  have gW : ((a.eval x).cells.zipIdx.foldl (fun cs x => cs.setIfInBounds (i * size + x.2) x.1) cells).size = cells.size := by
   rw [<- Array.length_toList, heq, XX _ _ _ (by omega), e1]
  have ao : (i + 1 + ps.length) * size = i * size + size + ps.length * size := by rw [Nat.add_mul, Nat.add_mul]; omega
  obtain ⟨lO, ys, h1, h2, h3, h4, h5⟩ := DF r T size ps (i + 1) rest _ hb (by rw [gW]; omega)
  have gE : ys.length = ps.length * size := by rw [h3.length, YQ rest size h4, h5]
  refine ⟨lO, (a.eval x).cells.toList ++ ys, ?_, ?_, ?_, ?_, by simp [h5]⟩
  ·simp only [List.map_cons, Instr.fill]
   rw [if_neg (by simp; omega)]
   exact h1
  ·rw [h2, heq]
   rw [show (i + 1) * size = i * size + (a.eval x).cells.toList.length by rw [Nat.add_mul]; omega]
   exact LF _ _ _ _ (by simp; omega)
  ·rw [List.flatten_cons]; exact cm.append h3
  ·intro q hq
   rcases List.mem_cons.1 hq with rfl | hq
   ·exact hlen
   ·exact h4 q hq
theorem N0 (r : Rel T0 B σ a w X h) {o : Oper} {T : TypeId} {n : Nat} {parts : Array (Nat × Operand)} {d : Nat} {rows : List (List D)} (lB : o.op = .buildSlice T n parts) (hd : o.dst = some d) (hH : σ.fresh d = true)
  (ht : XK P T = true) (hz : QF P (ZU P T) = true) (iI : 0 < P.cellsOf (ZU P T)) (hn : parts.toList.length = n) (hsm : n * P.cellsOf (ZU P T) <= 16777216) (hb : Gx P σ (ZU P T) (P.cellsOf (ZU P T)) parts.toList 0 rows)
  {K : Act -> World -> Prop} {Q : Exit -> Act -> World -> Prop} (hK : ∀ a' w', Ku T0 B (σ.new d (.one (.sref d 0 0 rows.length)) [.arr false (P.cellsOf (ZU P T)) rows]) a' w' -> Y7 B w w' -> K a' w') : o.wp P a w K Q := by
 obtain ⟨ti, hu, hi, gT⟩ := QG ht
 obtain ⟨i, z, row, iw, fE, hP, gW, fJ, im, gJ⟩ := xK hz
 rw [hi] at iw; cases iw
 have gy : (zeroValue (ZU P T)).run P w = .ok z w := by simp [zeroValue, typeInfo, hi, fE]
 obtain ⟨zero, hzero⟩ : ∃ zero : Array Value, (n * P.cellsOf (ZU P T) = 0 -> zero = #[]) /\ (¬ n * P.cellsOf (ZU P T) = 0 -> zero = z.cells) := by
  by_cases h0 : n * P.cellsOf (ZU P T) = 0
  ·exact ⟨#[], fun _ => rfl, fun hh => absurd h0 hh⟩
  ·exact ⟨z.cells, fun hh => absurd hh h0, fun _ => rfl⟩
 obtain ⟨lO, ys, h1, h2, h3, h4, h5⟩ := DF r (ZU P T) (P.cellsOf (ZU P T)) parts.toList 0 rows ((Array.range (n * P.cellsOf (ZU P T))).map (zero[· % zero.size]!)) hb (by simp [hn])
 have gE : ys.length = n * P.cellsOf (ZU P T) := by rw [h3.length, YQ rows _ h4, h5, hn]
 have lr : lO.toList = ys := by
  rw [h2]
  unfold place
  simp [gE]
 have fS : (parts.map fun (x : Nat × Operand) => (x.1, a.eval x.2)).toList = parts.toList.map fun x => (x.1, a.eval x.2) := by simp
 have lT : (execOp a.eval o).run P w = .ok (.value (.slice (some ⟨w.heap.size, 0, none⟩) n n)) (w.alloc (.cells lO (ZU P T))) := by
  have fo : ¬ (n * P.cellsOf (ZU P T) > 2 ^ 24) := by omega
  by_cases h0 : n * P.cellsOf (ZU P T) = 0
  ·have ba := hzero.1 h0
   subst ba
   simp only [execOp, lB, Instr.buildSlice, Sem.run_bind, run_underlying hu, Result.andThen_ok, Kj hi, if_neg fo, if_pos h0, fS, h1, newRow, Sem.run_pure, run_newObj_alloc]
  ·have ba := hzero.2 h0
   subst ba
   simp only [execOp, lB, Instr.buildSlice, Sem.run_bind, run_underlying hu, Result.andThen_ok, Kj hi, if_neg fo, if_neg h0, gy, fS, h1, newRow, Sem.run_pure, run_newObj_alloc]
 unfold Oper.wp
 rw [lT, Oper.upon_value, hd]
 have hlen : rows.length = n := by rw [h5, hn]
 have hT : ∀ b k v, Tof T0 X b k -> w.cell? ⟨b, k, none⟩ = some v -> (w.alloc (.cells lO (ZU P T))).cell? ⟨b, k, none⟩ = some v /\ Tof T0 X b k := by
  intro b k v hb lK
  refine ⟨?_, hb⟩
  rw [World.cell?_of_block ((World.grownBy_alloc w (.cells lO (ZU P T)) none).block b (r.Tlt hb) (by simp))]; exact lK
 have bb : lO.size = n * P.cellsOf (ZU P T) := by rw [<- Array.length_toList, lr, gE]
 have gD : n <= maxLen := by
  have : n <= n * P.cellsOf (ZU P T) := Nat.le_mul_of_pos_right _ iI
  simp only [maxLen]; omega
 have := r.te hH (World.grownBy_alloc w (.cells lO (ZU P T)) none) (.slice (some ⟨w.heap.size, 0, none⟩) n n) (size := P.cellsOf (ZU P T)) (rows := rows)
  ⟨ZU P T, ys, ⟨by rw [gE, hlen], .inr ⟨w.heap.size, n, lO, by rw [hlen], Nat.zero_le _, heap_alloc_new w _, by omega, gD, bb, by rw [lr, hlen, List.take_of_length_le (by omega)]⟩⟩, h4, h3.imp fun _ _ => Rd.mono hT⟩
  (fun b hb => by simp [blk] at hb; subst hb; exact ⟨Nat.le_refl _, by simp⟩)
 exact hK _ _ this.1 this.2
def zD : List At -> Option (List D)
 | [] => some []
 | .d x :: xs => (zD xs).map (x :: ·)
 | .nil s :: xs => (zD xs).map (.sl s [] :: ·)
 | _ => none
theorem BP {T : CS} {ob : Nat -> Nat -> Ob} : ∀ {xs : List At} {ds : List D} {vs : List Value}, zD xs = some ds -> YA (YK T h ob w) xs vs -> YA (Rd T w) vs ds
 | [], ds, vs, hz, lE => by cases lE; simp [zD] at hz; subst hz; exact .nil
 | x :: xs, ds, vs, hz, lE => by
  cases lE with
  | cons hx lE =>
   cases x with
   | d x =>
    simp only [zD, Option.map_eq_some_iff] at hz
    obtain ⟨hQ, hZ, rfl⟩ := hz
    exact .cons hx (BP hZ lE)
   | nil s =>
    simp only [zD, Option.map_eq_some_iff] at hz
    obtain ⟨hQ, hZ, rfl⟩ := hz
    cases hx
    exact .cons (.nil _) (BP hZ lE)
   | any => simp [zD] at hz
   | sref => simp [zD] at hz
   | ptr => simp [zD] at hz
   | bptr => simp [zD] at hz
   | fn => simp [zD] at hz
   | rptr => simp [zD] at hz
   | tref => simp [zD] at hz
theorem j7 {α : Type} (z : List α) (n k : Nat) (hk : k < n * z.length) : (List.replicate n z).flatten[k]? = z[k % z.length]? := by
 induction n generalizing k with
 | zero => simp at hk
 | succ n ih =>
  rw [List.replicate_succ, List.flatten_cons]
  rcases Nat.lt_or_ge k z.length with lN | fb
  ·rw [List.getElem?_append_left lN, Nat.mod_eq_of_lt lN]
  ·rw [List.getElem?_append_right fb, ih (k - z.length) (by rw [Nat.add_mul] at hk; omega)]
   congr 1
   rw [Nat.mod_eq_sub_mod fb]
theorem L6 (r : Rel T0 B σ a w X h) {o : Oper} {T : TypeId} {x : Operand} {d : Nat} {k : IntKind} {n : Nat} {z : List At} {zr : List D} (lB : o.op = .makeSlice T x x) (hd : o.dst = some d) (hH : σ.fresh d = true)
  (ht : XK P T = true) (hz : QF P (ZU P T) = true) (hP : j5 P 12 (ZU P T) = some z) (hzd : zD z = some zr) (iI : 0 < P.cellsOf (ZU P T)) (hx : W5 P σ x k (n : Int)) (dH : P.bytesOf (ZU P T) * n <= 281474976710656) (dG : n <= 9223372036854775807)
  {K : Act -> World -> Prop} {Q : Exit -> Act -> World -> Prop} (hK : ∀ a' w', Ku T0 B (σ.new d (.one (.sref d 0 0 n)) [.arr false (P.cellsOf (ZU P T)) (List.replicate n zr)]) a' w' -> Y7 B w w' -> K a' w') : o.wp P a w K Q := by
 obtain ⟨ti, hu, hi, gT⟩ := QG ht
 obtain ⟨i, zv, row, iw, fE, dK, gW, fJ, im, gJ⟩ := xK hz
 rw [hi] at iw; cases iw
 rw [hP] at dK; cases dK
 have hex := xM r hx
 have bd : (ti.bytes : Int) * (n : Int) <= 281474976710656 := by
  have : P.bytesOf (ZU P T) = ti.bytes := by simp [Program.bytesOf, hi]
  rw [this] at dH
  have h : ((ti.bytes * n : Nat) : Int) <= 281474976710656 := by omega
  rwa [Int.natCast_mul] at h
 have lT := run_make (P := P) w T (ZU P T) ti zv hu hi fE k k n n (by omega) (Int.le_refl _) bd (by omega)
 simp only [Int.toNat_natCast] at lT
 unfold Oper.wp
 simp only [execOp, lB, hex, Sem.run_bind, lT, Result.andThen_ok, Sem.run_pure, Oper.upon_value, hd]
 have cL := BP hzd (gJ (Tof T0 X) h σ.ob w)
 have aq := cL.length
 have e1 : zv.cells.toList.length = zv.cells.size := Array.length_toList
 have fv : zr.length = ti.size := by omega
 have hT : ∀ b k v, Tof T0 X b k -> w.cell? ⟨b, k, none⟩ = some v -> (w.alloc (.cells (madeCells zv.cells (n * ti.size)) (ZU P T))).cell? ⟨b, k, none⟩ = some v /\ Tof T0 X b k := by
  intro b k v hb lK
  refine ⟨?_, hb⟩
  rw [World.cell?_of_block ((World.grownBy_alloc w (.cells (madeCells zv.cells (n * ti.size)) (ZU P T)) none).block b (r.Tlt hb) (by simp))]; exact lK
 have gZ : (madeCells zv.cells (n * ti.size)).toList.length = n * ti.size := by rw [Array.length_toList, size_madeCells]
 have dN : ∀ q u, (madeCells zv.cells (n * ti.size)).toList[q]? = some u -> zv.cells.toList[q % ti.size]? = some u := by
  intro q u hq
  have lN : q < n * ti.size := by have := (List.getElem?_eq_some_iff.1 hq).1; omega
  have bf : q % ti.size < zv.cells.size := by rw [fJ]; exact Nat.mod_lt _ (by omega)
  have : (madeCells zv.cells (n * ti.size)).toList[q]? = some (zv.cells[q % zv.cells.size]!) := by
   simp [madeCells, lN]
  rw [this] at hq
  cases hq
  rw [fJ]
  simp [bf]
 have fW : YA (Rd (Tof T0 X) w) (madeCells zv.cells (n * ti.size)).toList (List.replicate n zr).flatten := by
  refine YA.jf (by rw [gZ, YQ _ ti.size (by intro q hq; rw [List.eq_of_mem_replicate hq]; exact fv)]; simp) (fun q u dd hq ic => ?_)
  have lN : q < n * ti.size := by have := (List.getElem?_eq_some_iff.1 hq).1; omega
  rw [j7 zr n q (by rw [fv]; exact lN), fv] at ic
  obtain ⟨d', lQ, lp⟩ := cL.get _ _ (dN q u hq)
  rw [ic] at lQ; cases lQ
  exact lp
 have := r.te hH (World.grownBy_alloc w (.cells (madeCells zv.cells (n * ti.size)) (ZU P T)) none) (.slice (some ⟨w.heap.size, 0, none⟩) n n) (size := P.cellsOf (ZU P T)) (rows := List.replicate n zr)
  ⟨ZU P T, (madeCells zv.cells (n * ti.size)).toList, ⟨by rw [gZ, im]; simp, .inr ⟨w.heap.size, n, _, by simp, Nat.zero_le _, heap_alloc_new w _, by simp, by simp only [maxLen]; omega, by rw [size_madeCells, im], by rw [List.take_of_length_le (by rw [gZ, im]; simp)]⟩⟩,
   (by intro q hq; rw [List.eq_of_mem_replicate hq]; omega), fW.imp fun _ _ => Rd.mono hT⟩
  (fun b hb => by simp [blk] at hb; subst hb; exact ⟨Nat.le_refl _, by simp⟩)
 rw [List.length_replicate] at this
 exact hK _ _ this.1 this.2
end
end Go.Vm
namespace Go.Vm
open Go.RowKit
def KM (l : List UInt8) : List (List D) := l.map fun b => [D.int .u8 (b.toNat : Int)]
def Ss (P : Program) (t : TypeId) : Bool := match P.underlying t with
 | some (.slice e) => (match P.underlying e with | some (.int .u8) => true | _ => false)
 | _ => false
theorem Mt {P : Program} {t : TypeId} (ht : Ss P t = true) : ∃ e, P.underlying t = some (.slice e) /\ P.underlying e = some (.int .u8) := by
 unfold Ss at ht
 split at ht
 ·rename_i e he
  split at ht
  ·rename_i h2; exact ⟨e, he, h2⟩
  ·cases ht
 ·cases ht
theorem Uu (l : List UInt8) : (KM l).flatten = l.map fun b => D.int .u8 (b.toNat : Int) := by
 induction l with
 | nil => rfl
 | cons b l ih => simp only [KM, List.map_cons, List.flatten_cons] at ih ⊢; rw [ih]; rfl
section
variable {P : Program} {T0 : CS} {B : Nat -> Prop} {σ : St} {a : Act} {w w' : World} {X X' : Nat -> Prop} {h : Nat -> Nat -> Hd}
theorem PL (r : Rel T0 B σ a w X h) {o : Oper} {S T : TypeId} {x : Operand} {l : List UInt8} (lB : o.op = .convert S T x) (hg : gOf (look P σ S x) = true) (hS : Ss P S = true) (hT : Uc P T = true)
  (gu : xh σ (unc (look P σ S x)) 1 (KM l)) : ∃ val, (execOp a.eval o).run P w = .ok (.value val) w /\ JD (Tof T0 X) h σ.ob w (.one (.d (.str ⟨l.toArray⟩))) val := by
 obtain ⟨e, hs, he⟩ := Mt hS
 have hv := r.arg (P := P) S x rfl hg
 obtain ⟨_, iK⟩ := Dd r gu hv
 refine ⟨.string ⟨l.toArray⟩, ?_, .str _⟩
 rcases iK with ⟨hex, gq⟩ | ⟨ad, c, xs, hex, lK, lE⟩
 ·have hl : l = [] := by cases l with
   | nil => rfl
   | cons b l => simp [KM] at gq
  subst hl
  have hr : (convert S T (.slice none 0 0)).run P w = .ok (.string ⟨#[]⟩) w := by
   rw [run_convert_bytes_string w S T e none 0 0 hs he (qk hT)]
   rfl
  simp only [execOp, lB, hex, Sem.run_bind, hr, Result.andThen_ok, Sem.run_pure, List.toArray]
 ·have hlen : (KM l).length = l.length := by simp [KM]
  rw [hlen] at hex
  have hr := run_convert_bytes_back (P := P) w S T e ad c l hs he (qk hT) (fun j hj => by
   rw [Uu] at lE
   obtain ⟨u, hu, hr⟩ := lE.get' j (D.int .u8 (l[j].toNat : Int)) (by simp [hj])
   have := T5 hr
   subst this
   exact lK j _ hu)
  simp only [execOp, lB, hex, Sem.run_bind, hr, Result.andThen_ok, Sem.run_pure]
theorem PM (r : Rel T0 B σ a w X h) {o : Oper} {S T : TypeId} {x : Operand} {d : Nat} {s : ByteArray} (lB : o.op = .convert S T x) (hd : o.dst = some d) (hg : gOf (look P σ S x) = true) (hS : Uc P S = true) (hT : Ss P T = true)
  (hx : unc (look P σ S x) = .one (.d (.str s))) (l7 : s.size <= 9223372036854775807)
  {K : Act -> World -> Prop} {Q : Exit -> Act -> World -> Prop} (hK : ∀ a' w', Ku T0 B (σ.put d (.one (.d (.sl 1 (KM s.data.toList))))) a' w' -> Y7 B w w' -> K a' w') : o.wp P a w K Q := by
 obtain ⟨e, ic, he⟩ := Mt hT
 have hex := RD (r.arg (P := P) S x hx hg)
 have lT := run_bytes_of_string (P := P) w S T e s (qk hS) ic he
 unfold Oper.wp
 simp only [execOp, lB, hex, Sem.run_bind, lT, Result.andThen_ok, Sem.run_pure, Oper.upon_value, hd]
 generalize iU : grownCap w s.size 0 e = cap at *
 have fb : s.size <= cap := by rw [<- iU]; exact grownCap_ge w s.size 0 e
 have gD : cap <= maxLen := by rw [<- iU]; exact grownCap_le_maxLen w s.size 0 e (by simp only [maxLen]; omega)
 generalize hw' : w.drew.alloc (.cells (bytesRow s cap) e ((bytesRow s cap).size, (bytesRow s cap).size + 1)) = w'
 have cb : w.grownBy w' none := by
  rw [<- hw']
  exact ⟨rfl, rfl, rfl, by simp, fun k hk _ => (World.grownBy_alloc w.drew _ none).block k hk (by simp)⟩
 have fQ : w'.heap[w.heap.size]? = some (.cells (bytesRow s cap) e ((bytesRow s cap).size, (bytesRow s cap).size + 1)) := by rw [<- hw']; exact heap_alloc_new w.drew _
 have ar : w.heap.size < w'.heap.size := (Array.getElem?_eq_some_iff.1 fQ).1
 have r2 := r.grow (X' := fun b => X b \/ b = w.heap.size) cb (fun b hb => .inl hb) (fun b hb => hb.imp id (fun hh => by subst hh; exact ⟨Nat.le_refl _, ar⟩))
 refine hK _ _ ⟨_, _, r2.put d _ _ ?_⟩ (Y7.S4 cb r.hB)
 have iV := Uu s.data.toList
 refine Rd.sl ⟨w.heap.size, 0, none⟩ s.size cap 1 _ (fun k => .int .u8 ((s.data.toList.getD k 0).toNat : Int)) (by simp [KM]) fb gD (by intro q hq; simp [KM] at hq; obtain ⟨b, _, rfl⟩ := hq; rfl) (fun _ => rfl) (fun k dd hk => ?_) (fun k dd hk => ?_)
 ·rw [iV, List.getElem?_map] at hk
  cases hb : s.data.toList[k]? with
  | none => rw [hb] at hk; cases hk
  | some b =>
   refine ⟨?_, .inr (.inr rfl)⟩
   simp only [Nat.zero_add]
   refine zj fQ _ _ ?_
   have hklt : k < s.data.size := by have := (List.getElem?_eq_some_iff.1 hb).1; simpa using this
   simp only [bytesRow]
   rw [Array.toList_append, List.getElem?_append_left (by simpa using hklt)]
   simp [hb]
 ·rw [iV, List.getElem?_map] at hk
  cases hb : s.data.toList[k]? with
  | none => rw [hb] at hk; cases hk
  | some b =>
   rw [hb] at hk; cases hk
   rw [List.getD_eq_getElem?_getD, hb]
   exact .int _ _
end
end Go.Vm
namespace Go.Vm
open Go.RowKit
def Yg : List At -> List (Nat × Nat)
 | [] => []
 | .sref t j _ _ :: xs => (t, j) :: Yg xs
 | _ :: xs => Yg xs
def mvD (σ : St) : At -> Option D
 | .d (.sl _ _) => none
 | .d x => some x
 | .nil s => some (.sl s [])
 | .sref t j lo len => (match σ.ob t j with | .arr _ size rows => if lo = 0 /\ len = rows.length then some (.sl size rows) else none | _ => none)
 | _ => none
def La (σ : St) : At -> Prop
 | .sref t j _ _ => (match σ.ob t j with | .arr false _ rows => ∀ r ∈ rows, ∀ x ∈ r, x.scalar = true | _ => True)
 | _ => True
def Q7 (σ : St) : List At -> Option (List D)
 | [] => some []
 | x :: xs => (match mvD σ x, Q7 σ xs with | some d, some ds => some (d :: ds) | _, _ => none)
def Qe (σ : St) : List At -> Prop
 | [] => True
 | x :: xs => La σ x /\ Qe σ xs
def zd (σ : St) : List (List At) -> Option (List (List D))
 | [] => some []
 | xs :: rest => (match Q7 σ xs, zd σ rest with | some r, some rs => some (r :: rs) | _, _ => none)
def Kk (σ : St) : List (List At) -> Prop
 | [] => True
 | x :: xs => Qe σ x /\ Kk σ xs
theorem RE : ∀ (xs : List At) (i j : Nat) (t u lo len eC gj : Nat), (Yg xs).Nodup -> xs[i]? = some (.sref t u lo len) -> xs[j]? = some (.sref t u eC gj) -> i = j := by
 intro xs
 induction xs with
 | nil => intro i j t u lo len eC gj _ hi; simp at hi
 | cons x xs ih =>
  intro i j t u lo len eC gj l9 hi hj
  have mem : ∀ (k lo len : Nat), xs[k]? = some (At.sref t u lo len) -> (t, u) ∈ Yg xs := by
   intro k lo len hk
   clear ih l9 hi hj
   induction xs generalizing k with
   | nil => simp at hk
   | cons y ys cH =>
    cases k with
    | zero => simp at hk; subst hk; simp [Yg]
    | succ k =>
     have := cH k (by simpa using hk)
     cases y <;> simp [Yg, this]
  have nd' : (Yg xs).Nodup := by
   cases x <;> simp only [Yg] at l9 <;> first | exact l9 | exact (List.nodup_cons.1 l9).2
  cases i with
  | zero =>
   simp at hi; subst hi
   cases j with
   | zero => rfl
   | succ j =>
    simp only [Yg] at l9
    exact absurd (mem j eC gj (by simpa using hj)) (List.nodup_cons.1 l9).1
  | succ i =>
   cases j with
   | zero =>
    simp at hj; subst hj
    simp only [Yg] at l9
    exact absurd (mem i lo len (by simpa using hi)) (List.nodup_cons.1 l9).1
   | succ j => rw [ih i j t u lo len eC gj nd' (by simpa using hi) (by simpa using hj)]
theorem Dq : ∀ {xs : List At} {k t j lo len : Nat}, xs[k]? = some (At.sref t j lo len) -> (t, j) ∈ Yg xs
 | [], k, t, j, lo, len, h => by simp at h
 | x :: xs, 0, t, j, lo, len, h => by simp at h; subst h; simp [Yg]
 | x :: xs, k + 1, t, j, lo, len, h => by
  have := Dq (xs := xs) (k := k) (by simpa using h)
  cases x <;> simp [Yg, this]
theorem Uv {σ : St} : ∀ {xs : List At} {ds : List D}, Q7 σ xs = some ds -> xs.length = ds.length /\ ∀ (k : Nat) (x : At) (d : D), xs[k]? = some x -> ds[k]? = some d -> mvD σ x = some d
 | [], ds, h => by simp [Q7] at h; subst h; exact ⟨rfl, fun k x d hx => by simp at hx⟩
 | x :: xs, ds, h => by
  simp only [Q7] at h
  split at h
  ·rename_i d hQ h1 h2
   cases h
   obtain ⟨hl, ih⟩ := Uv h2
   refine ⟨by simp [hl], fun k y e hy he => ?_⟩
   cases k with
   | zero => simp at hy he; subst hy; subst he; exact h1
   | succ k => exact ih k y e (by simpa using hy) (by simpa using he)
  ·cases h
theorem O9 {σ : St} : ∀ {xs ys : List At} {ds es : List D}, Q7 σ xs = some ds -> Q7 σ ys = some es -> Q7 σ (xs ++ ys) = some (ds ++ es)
 | [], ys, ds, es, h1, h2 => by simp [Q7] at h1; subst h1; simpa using h2
 | x :: xs, ys, ds, es, h1, h2 => by
  simp only [Q7] at h1
  split at h1
  ·rename_i d hQ h3 h4
   cases h1
   simp [Q7, h3, O9 h4 h2]
  ·cases h1
theorem Vy {σ : St} : ∀ {iT : List (List At)} {rs : List (List D)}, zd σ iT = some rs -> Q7 σ iT.flatten = some rs.flatten /\ iT.length = rs.length /\ ∀ n, (∀ x ∈ iT, x.length = n) -> ∀ r ∈ rs, r.length = n
 | [], rs, h => by simp [zd] at h; subst h; exact ⟨rfl, rfl, fun n _ r hr => by cases hr⟩
 | xs :: iT, rs, h => by
  simp only [zd] at h
  split at h
  ·rename_i r bm h1 h2
   cases h
   obtain ⟨i1, i2, i3⟩ := Vy h2
   refine ⟨by rw [List.flatten_cons, List.flatten_cons]; exact O9 h1 i1, by simp [i2], fun n hn q hq => ?_⟩
   rcases List.mem_cons.1 hq with rfl | hq
   ·rw [<- (Uv h1).1]; exact hn xs (by simp)
   ·exact i3 n (fun x hx => hn x (by simp [hx])) q hq
  ·cases h
theorem Mu {σ : St} : ∀ {xs : List At}, Qe σ xs -> ∀ (k : Nat) (x : At), xs[k]? = some x -> La σ x
 | [], _, k, x, hx => by simp at hx
 | y :: xs, h, 0, x, hx => by simp at hx; subst hx; exact h.1
 | y :: xs, h, k + 1, x, hx => Mu h.2 k x (by simpa using hx)
theorem Rc {σ : St} : ∀ {xs ys : List At}, Qe σ xs -> Qe σ ys -> Qe σ (xs ++ ys)
 | [], _, _, h => h
 | _ :: _, _, h1, h2 => ⟨h1.1, Rc h1.2 h2⟩
theorem kn {σ : St} : ∀ {iT : List (List At)}, Kk σ iT -> Qe σ iT.flatten
 | [], _ => trivial
 | xs :: iT, h => by rw [List.flatten_cons]; exact Rc h.1 (kn h.2)
section
variable {P : Program} {T0 : CS} {B : Nat -> Prop} {σ : St} {a : Act} {w w' : World} {X X' : Nat -> Prop} {h : Nat -> Nat -> Hd}
theorem Rd.own {T : CS} {v : Value} {d : D} {S : Nat -> Prop} (hs : d.scalar = true) (hr : Rd T w v d) : Own w v d S := by
 cases hr with
 | int k n => exact .int _ _ _
 | bool b => exact .bool _ _
 | str s => exact .str _ _
 | unk v h => exact .unk _ h _
 | nil => cases hs
 | sl => cases hs
theorem Rel.nO (r : Rel T0 B σ a w X h) {t j : Nat} {q : Bool} {size : Nat} {rows : List (List D)} (ho : σ.ob t j = .arr q size rows) (hq : q = false -> ∀ r ∈ rows, ∀ x ∈ r, x.scalar = true) : Own w (h t j).v (.sl size rows) (h t j).u := by
 have h0 := r.obj t j
 have hO := r.ub t j
 rw [ho] at h0 hO
 cases q with
 | false =>
  obtain ⟨e, xs, gA, hz, lE⟩ := h0
  refine .sl _ size rows _ e xs (fun _ _ => False) gA hz (fun b hb => hO b (by simp) hb) lE.length (fun k x d hx hd => ?_) (fun k b hb => hb.elim) (fun i j b hb => hb.elim)
  obtain ⟨d', lQ, hr⟩ := lE.get k x hx
  rw [hd] at lQ; cases lQ
  obtain ⟨r0, g4, hdr⟩ := List.mem_flatten.1 (List.mem_of_getElem? hd)
  exact Rd.own (hq rfl r0 g4 d hdr) hr
 | true =>
  obtain ⟨e, xs, gA, hz, ⟨hl, Sk, h1, h2, h3⟩, hn⟩ := h0
  exact .sl _ size rows _ e xs Sk gA hz (fun b hb => hO b (by simp) hb) hl h1 (fun k b hb => h2 k b hb) h3
def JI (σ : St) (h : Nat -> Nat -> Hd) (l : List (Nat × Nat)) (b : Nat) : Prop := ∃ p ∈ l, σ.ob p.1 p.2 ≠ .none /\ (h p.1 p.2).u b
theorem P4 (r : Rel T0 B σ a w X h) {xs : List At} {vs : List Value} {ds : List D} (lE : YA (YK (Tof T0 X) h σ.ob w) xs vs) (gM : Q7 σ xs = some ds) (la : Qe σ xs) (l9 : (Yg xs).Nodup) : Jo w vs ds (JI σ h (Yg xs)) := by
 obtain ⟨hl, gM⟩ := Uv gM
 refine ⟨by rw [<- lE.length, hl], fun k b => ∃ t j lo len, xs[k]? = some (.sref t j lo len) /\ σ.ob t j ≠ .none /\ (h t j).u b, fun k v d hv hd => ?_, ?_, ?_⟩
 ·obtain ⟨x, hx, hr⟩ := lE.get' k v hv
  have hm := gM k x d hx hd
  have ho := Mu la k x hx
  cases x with
  | d x =>
   cases x with
   | sl s rows => simp [mvD] at hm
   | int k n => simp [mvD] at hm; subst hm; exact Rd.own rfl hr
   | bool b => simp [mvD] at hm; subst hm; exact Rd.own rfl hr
   | str s => simp [mvD] at hm; subst hm; exact Rd.own rfl hr
   | unk => simp [mvD] at hm; subst hm; exact Rd.own rfl hr
  | nil s =>
   simp [mvD] at hm; subst hm
   cases hr
   exact .sl _ s [] _ 0 [] (fun _ _ => False) (World.ownsRow_nil w 0 0 s) (by intro q hq; cases hq) (fun b hb => by cases hb) rfl (fun k x d hx => by simp at hx) (fun k b hb => hb.elim) (fun i j b hb => hb.elim)
  | sref t j lo len =>
   simp only [mvD] at hm
   split at hm
   ·rename_i q size rows lV
    split at hm
    ·rename_i hc
     obtain ⟨rfl, rfl⟩ := hc
     cases hm
     obtain ⟨_, iN, _⟩ := hr.2.1 q size rows lV
     rw [iN rfl rfl]
     refine (r.nO lV (fun hq => ?_)).mono (fun b hb => ⟨t, j, 0, rows.length, hx, by rw [lV]; simp, hb⟩)
     subst hq
     simp only [La, lV] at ho; exact ho
    ·cases hm
   ·cases hm
  | any => simp [mvD] at hm
  | ptr => simp [mvD] at hm
  | bptr => simp [mvD] at hm
  | fn => simp [mvD] at hm
  | rptr => simp [mvD] at hm
  | tref => simp [mvD] at hm
 ·rintro k b ⟨t, j, lo, len, hx, lD, hu⟩
  exact ⟨(t, j), Dq hx, lD, hu⟩
 ·rintro i k b ⟨t, j, lo, len, hx, lD, hu⟩ ⟨t', j', eC, gj, fD, ld, iP⟩
  obtain ⟨rfl, rfl⟩ := r.inj t j t' j' b lD ld hu iP
  exact RE xs i k t j lo len eC gj l9 hx fD
theorem Jo.append {xs ys : List Value} {ds es : List D} {S S' : Nat -> Prop} (h1 : Jo w xs ds S) (h2 : Jo w ys es S') (hd : ∀ b, S b -> S' b -> False) : Jo w (xs ++ ys) (ds ++ es) (fun b => S b \/ S' b) := by
 obtain ⟨l1, Sk, a1, a2, a3⟩ := h1
 obtain ⟨l2, da, b1, b2, b3⟩ := h2
 refine ⟨by simp [l1, l2], fun k => if k < xs.length then Sk k else da (k - xs.length), fun k x d hx lQ => ?_, fun k b hb => ?_, fun i j b hi hj => ?_⟩
 ·by_cases hk : k < xs.length
  ·simp only [hk, if_true]
   rw [List.getElem?_append_left hk] at hx
   rw [List.getElem?_append_left (by omega)] at lQ
   exact a1 k x d hx lQ
  ·simp only [hk, if_false]
   rw [List.getElem?_append_right (by omega)] at hx
   rw [List.getElem?_append_right (by omega), <- l1] at lQ
   exact b1 _ x d hx lQ
 ·by_cases hk : k < xs.length
  ·simp only [hk, if_true] at hb; exact .inl (a2 k b hb)
  ·simp only [hk, if_false] at hb; exact .inr (b2 _ b hb)
 ·by_cases iw : i < xs.length
  ·simp only [iw, if_true] at hi
   by_cases gn : j < xs.length
   ·simp only [gn, if_true] at hj; exact a3 i j b hi hj
   ·simp only [gn, if_false] at hj; exact (hd b (a2 i b hi) (b2 _ b hj)).elim
  ·simp only [iw, if_false] at hi
   by_cases gn : j < xs.length
   ·simp only [gn, if_true] at hj; exact (hd b (a2 j b hj) (b2 _ b hi)).elim
   ·simp only [gn, if_false] at hj
    have := b3 _ _ b hi hj; omega
theorem Jo.mono {xs : List Value} {ds : List D} {S S' : Nat -> Prop} (hS : ∀ b, S b -> S' b) (h1 : Jo w xs ds S) : Jo w xs ds S' := by
 obtain ⟨l1, Sk, a1, a2, a3⟩ := h1
 exact ⟨l1, Sk, a1, fun k b hb => hS b (a2 k b hb), a3⟩
theorem Jo.nil (S : Nat -> Prop) : Jo w [] [] S := ⟨rfl, fun _ _ => False, fun k x d hx => by simp at hx, fun _ _ hb => hb.elim, fun _ _ _ hb => hb.elim⟩
theorem Rel.yN (r : Rel T0 B σ a w X h) (l : List (Nat × Nat)) (b : Nat) (hb : JI σ h l b) : ¬ B b /\ ¬ X b /\ b < w.heap.size /\ ∀ u i, (σ.Zx l).ob u i ≠ .none -> ¬ (h u i).u b := by
 obtain ⟨p, hp, lD, hu⟩ := hb
 have ho := r.own p.1 p.2 b lD hu
 refine ⟨ho.1, ho.2.1, ho.2.2, fun u i hn iP => ?_⟩
 rw [St.Kl] at hn
 split at hn
 ·exact hn rfl
 ·rename_i cy
  obtain ⟨h1, h2⟩ := r.inj p.1 p.2 u i b lD hn hu iP
  exact cy (by rw [<- h1, <- h2]; exact hp)
end
end Go.Vm
namespace Go.Vm
open Go.RowKit
section
variable {P : Program} {T0 : CS} {B : Nat -> Prop} {σ : St} {a : Act} {w w' : World} {X X' : Nat -> Prop} {h : Nat -> Nat -> Hd}
def NN (P : Program) (σ : St) (T : TypeId) (size : Nat) : List (Nat × Operand) -> Nat -> List (List At) -> Prop
 | [], _, rs => rs = []
 | (i, x) :: ps, k, rs => i = k /\ gOf (look P σ T x) = true /\ (unc (look P σ T x)).flat = true /\ (unc (look P σ T x)).cells.length = size /\
   ∃ rest, NN P σ T size ps (k + 1) rest /\ rs = (unc (look P σ T x)).cells :: rest
theorem Ah (r : Rel T0 B σ a w X h) (T : TypeId) (size : Nat) : ∀ (ps : List (Nat × Operand)) (k : Nat) (rs : List (List At)) (cells : Array Value), NN P σ T size ps k rs -> (k + ps.length) * size <= cells.size ->
   ∃ lO ys, Instr.fill (fun i => some (i * size, size)) cells (ps.map fun x => (x.1, a.eval x.2)) = some lO /\ lO.toList = place cells.toList (k * size) ys /\ YA (YK (Tof T0 X) h σ.ob w) rs.flatten ys /\ (∀ q ∈ rs, q.length = size) /\ rs.length = ps.length
 | [], k, rs, cells, hb, _ => by cases hb; exact ⟨cells, [], rfl, by simp [place], .nil, (by intro q hq; cases hq), rfl⟩
 | (i, x) :: ps, k, rs, cells, hb, hl => by
  obtain ⟨rfl, hg, hf, hlen, rest, hb, rfl⟩ := hb
  have hx := ku hf (r.arg (P := P) T x rfl hg)
  have di := hx.length
  have e1 : cells.toList.length = cells.size := Array.length_toList
  have e2 : (a.eval x).cells.toList.length = (a.eval x).cells.size := Array.length_toList
  have hmul : (i + (ps.length + 1)) * size = i * size + size + ps.length * size := by rw [Nat.add_mul, Nat.add_mul]; omega
  simp only [List.length_cons] at hl
  have heq := T2 (i * size) (a.eval x).cells cells (by omega)
  have gW : ((a.eval x).cells.zipIdx.foldl (fun cs x => cs.setIfInBounds (i * size + x.2) x.1) cells).size = cells.size := by
   rw [<- Array.length_toList, heq, XX _ _ _ (by omega), e1]
  have ao : (i + 1 + ps.length) * size = i * size + size + ps.length * size := by rw [Nat.add_mul, Nat.add_mul]; omega
  obtain ⟨lO, ys, h1, h2, h3, h4, h5⟩ := Ah r T size ps (i + 1) rest _ hb (by rw [gW]; omega)
  have gE : ys.length = ps.length * size := by rw [<- h3.length, YQ rest size h4, h5]
  refine ⟨lO, (a.eval x).cells.toList ++ ys, ?_, ?_, ?_, ?_, by simp [h5]⟩
  ·simp only [List.map_cons, Instr.fill]
   rw [if_neg (by simp; omega)]
   exact h1
  ·rw [h2, heq]
   rw [show (i + 1) * size = i * size + (a.eval x).cells.toList.length by rw [Nat.add_mul]; omega]
   exact LF _ _ _ _ (by simp; omega)
  ·rw [List.flatten_cons]; exact hx.append h3
  ·intro q hq
   rcases List.mem_cons.1 hq with rfl | hq
   ·exact hlen
   ·exact h4 q hq
theorem Sx (r : Rel T0 B σ a w X h) {o : Oper} {T : TypeId} {n : Nat} {parts : Array (Nat × Operand)} {d : Nat} {rows : List (List At)} (lB : o.op = .buildSlice T n parts) (hd : o.dst = some d) (hH : σ.fresh d = true)
  (ht : XK P T = true) (hz : QF P (ZU P T) = true) (iI : 0 < P.cellsOf (ZU P T)) (hn : parts.toList.length = n) (hsm : n * P.cellsOf (ZU P T) <= 16777216) (hb : NN P σ (ZU P T) (P.cellsOf (ZU P T)) parts.toList 0 rows) (hrf : YS d rows.flatten = false)
  {K : Act -> World -> Prop} {Q : Exit -> Act -> World -> Prop} (hK : ∀ a' w', Ku T0 B (σ.new d (.one (.sref d 0 0 rows.length)) [.lit (P.cellsOf (ZU P T)) rows]) a' w' -> Y7 B w w' -> K a' w') : o.wp P a w K Q := by
 obtain ⟨ti, hu, hi, gT⟩ := QG ht
 obtain ⟨i, z, row, iw, fE, hP, gW, fJ, im, gJ⟩ := xK hz
 rw [hi] at iw; cases iw
 have gy : (zeroValue (ZU P T)).run P w = .ok z w := by simp [zeroValue, typeInfo, hi, fE]
 obtain ⟨zero, hzero⟩ : ∃ zero : Array Value, (n * P.cellsOf (ZU P T) = 0 -> zero = #[]) /\ (¬ n * P.cellsOf (ZU P T) = 0 -> zero = z.cells) := by
  by_cases h0 : n * P.cellsOf (ZU P T) = 0
  ·exact ⟨#[], fun _ => rfl, fun hh => absurd h0 hh⟩
  ·exact ⟨z.cells, fun hh => absurd hh h0, fun _ => rfl⟩
 obtain ⟨lO, ys, h1, h2, h3, h4, h5⟩ := Ah r (ZU P T) (P.cellsOf (ZU P T)) parts.toList 0 rows ((Array.range (n * P.cellsOf (ZU P T))).map (zero[· % zero.size]!)) hb (by simp [hn])
 have gE : ys.length = n * P.cellsOf (ZU P T) := by rw [<- h3.length, YQ rows _ h4, h5, hn]
 have lr : lO.toList = ys := by
  rw [h2]
  unfold place
  simp [gE]
 have fS : (parts.map fun (x : Nat × Operand) => (x.1, a.eval x.2)).toList = parts.toList.map fun x => (x.1, a.eval x.2) := by simp
 have lT : (execOp a.eval o).run P w = .ok (.value (.slice (some ⟨w.heap.size, 0, none⟩) n n)) (w.alloc (.cells lO (ZU P T))) := by
  have fo : ¬ (n * P.cellsOf (ZU P T) > 2 ^ 24) := by omega
  by_cases h0 : n * P.cellsOf (ZU P T) = 0
  ·have ba := hzero.1 h0
   subst ba
   simp only [execOp, lB, Instr.buildSlice, Sem.run_bind, run_underlying hu, Result.andThen_ok, Kj hi, if_neg fo, if_pos h0, fS, h1, newRow, Sem.run_pure, run_newObj_alloc]
  ·have ba := hzero.2 h0
   subst ba
   simp only [execOp, lB, Instr.buildSlice, Sem.run_bind, run_underlying hu, Result.andThen_ok, Kj hi, if_neg fo, if_neg h0, gy, fS, h1, newRow, Sem.run_pure, run_newObj_alloc]
 unfold Oper.wp
 rw [lT, Oper.upon_value, hd]
 have hlen : rows.length = n := by rw [h5, hn]
 have hg := World.grownBy_alloc w (.cells lO (ZU P T)) none
 have lN := St.yY hH
 have hT : ∀ b k v, Tof T0 X b k -> w.cell? ⟨b, k, none⟩ = some v -> (w.alloc (.cells lO (ZU P T))).cell? ⟨b, k, none⟩ = some v /\ Tof T0 X b k := by
  intro b k v hb lK
  refine ⟨?_, hb⟩
  rw [World.cell?_of_block (hg.block b (r.Tlt hb) (by simp))]; exact lK
 have bb : lO.size = n * P.cellsOf (ZU P T) := by rw [<- Array.length_toList, lr, gE]
 have gD : n <= maxLen := by
  have : n <= n * P.cellsOf (ZU P T) := Nat.le_mul_of_pos_right _ iI
  simp only [maxLen]; omega
 have lG : (w.alloc (.cells lO (ZU P T))).ownsRow 0 (ZU P T) (P.cellsOf (ZU P T)) (.slice (some ⟨w.heap.size, 0, none⟩) n n) rows.length ys :=
  ⟨by rw [gE, hlen], .inr ⟨w.heap.size, n, lO, by rw [hlen], Nat.zero_le _, heap_alloc_new w _, by omega, gD, bb, by rw [lr, hlen, List.take_of_length_le (by omega)]⟩⟩
 refine hK _ _ ⟨X, fun t j => if t = d then Hd.of (.slice (some ⟨w.heap.size, 0, none⟩) n n) else h t j, ?_⟩ (Y7.S4 hg r.hB)
 have iH : (σ.new d (.one (.sref d 0 0 rows.length)) [.lit (P.cellsOf (ZU P T)) rows]).ob d 0 = .lit (P.cellsOf (ZU P T)) rows := by rw [St.Ko]; simp [lN, Yr]
 have hc : ∀ t j, t ≠ d -> Cpt h (fun t j => if t = d then Hd.of (.slice (some ⟨w.heap.size, 0, none⟩) n n) else h t j) σ.ob (σ.new d (.one (.sref d 0 0 rows.length)) [.lit (P.cellsOf (ZU P T)) rows]).ob t j := by
  intro t j lD
  have he : (σ.new d (.one (.sref d 0 0 rows.length)) [.lit (P.cellsOf (ZU P T)) rows]).ob t j = σ.ob t j := by rw [St.Ko, if_neg (fun hh => lD hh.1)]
  exact Cpt.same (by simp [lD]) he
 refine r.new hH hg (fun _ hb => hb) (fun _ hb => .inl hb) _ _ [.lit (P.cellsOf (ZU P T)) rows] (fun _ => Hd.of (.slice (some ⟨w.heap.size, 0, none⟩) n n)) ?_ (fun j => ?_) (fun j b _ hb => hb) (fun j b _ lM => ?_) (fun j j' b lD ld _ _ => ?_)
 ·refine ⟨KO lG, fun q' lW lF lU => (by rw [iH] at lU; cases lU), fun lW lF lU => ?_⟩
  rw [iH] at lU; cases lU
  simp only [if_true]
  exact UD lG
 ·cases j with
  | zero => exact ⟨ZU P T, ys, lG, h4, Wy hT hc hrf h3⟩
  | succ j => simp [Yr, zR]
 ·simp [Hd.of, blk] at lM; subst lM
  refine ⟨Nat.le_refl _, fun fD => ?_, by simp⟩
  have := (r.hX _ fD).2; omega
 ·have : ∀ j, Yr [Ob.lit (P.cellsOf (ZU P T)) rows] j ≠ .none -> j = 0 := by
   intro j hj
   cases j with
   | zero => rfl
   | succ j => simp [Yr] at hj
  rw [this j lD, this j' ld]
theorem wz {T : CS} {ob : Nat -> Nat -> Ob} : ∀ {xs : List At} {ds : List D} {vs : List Value}, zD xs = some ds -> YA (YK T h ob w) xs vs -> (∀ x ∈ xs, ∀ s r, x ≠ .d (.sl s r)) -> ∀ (w' : World) (S : Nat -> Prop) (k : Nat) (v : Value) (d : D), vs[k]? = some v -> ds[k]? = some d -> Own w' v d S
 | [], ds, vs, hz, lE, _, w', S, k, v, d, hv, _ => by cases lE; simp at hv
 | x :: xs, ds, vs, hz, lE, fe, w', S, k, v, d, hv, hd => by
  cases lE with
  | cons hx lE =>
   cases x with
   | d x =>
    simp only [zD, Option.map_eq_some_iff] at hz
    obtain ⟨hQ, hZ, rfl⟩ := hz
    cases k with
    | zero =>
     simp at hv hd; subst hv; subst hd
     cases x with
     | sl s r => exact absurd rfl (fe _ (by simp) s r)
     | int k n => cases (show Rd _ _ _ _ from hx); exact .int _ _ _
     | bool b => cases (show Rd _ _ _ _ from hx); exact .bool _ _
     | str s => cases (show Rd _ _ _ _ from hx); exact .str _ _
     | unk => exact .unk _ (Rd.Xy hx) _
    | succ k => exact wz hZ lE (fun x hx => fe x (by simp [hx])) w' S k v d (by simpa using hv) (by simpa using hd)
   | nil s =>
    simp only [zD, Option.map_eq_some_iff] at hz
    obtain ⟨hQ, hZ, rfl⟩ := hz
    cases k with
    | zero =>
     simp at hv hd; subst hv; subst hd
     cases hx
     exact .sl _ s [] _ 0 [] (fun _ _ => False) (World.ownsRow_nil w' 0 0 s) (by intro q hq; cases hq) (fun b hb => by cases hb) rfl (fun k x d hx => by simp at hx) (fun k b hb => hb.elim) (fun i j b hb => hb.elim)
    | succ k => exact wz hZ lE (fun x hx => fe x (by simp [hx])) w' S k v d (by simpa using hv) (by simpa using hd)
   | any => simp [zD] at hz
   | sref => simp [zD] at hz
   | ptr => simp [zD] at hz
   | bptr => simp [zD] at hz
   | fn => simp [zD] at hz
   | rptr => simp [zD] at hz
   | tref => simp [zD] at hz
def ud (σ : St) (x : V) (size : Nat) (lC : List (List D)) (l : List (Nat × Nat)) : Prop :=
 match x with
 | .one (.nil _) => lC = [] /\ l = []
 | .one (.sref t j lo len) => σ.ob t j = .arr true size lC /\ lo = 0 /\ len = lC.length /\ l = [(t, j)]
 | _ => False
def uA (σ : St) (x : V) (size : Nat) (news : List (List D)) (l : List (Nat × Nat)) : Prop :=
 match x with
 | .one (.sref t j lo len) => ∃ rows, σ.ob t j = .lit size rows /\ lo = 0 /\ len = rows.length /\ zd σ rows = some news /\ Kk σ rows /\ l = Yg rows.flatten
 | _ => False
theorem EK (r : Rel T0 B σ a w X h) {o : Oper} {t : TypeId} {x y : Operand} {d : Nat} {lC news : List (List D)} {l1 l2 : List (Nat × Nat)} (lB : o.op = .call ⟨.builtin .append, #[x, y], #[t, t]⟩) (hd : o.dst = some d)
  (gw : gOf (look P σ t x) = true) (gx : gOf (look P σ t y) = true) (ht : XK P t = true) (hz : QF P (ZU P t) = true) (iI : 0 < P.cellsOf (ZU P t))
  (iX : ud σ (unc (look P σ t x)) (P.cellsOf (ZU P t)) lC l1) (gu : uA σ (unc (look P σ t y)) (P.cellsOf (ZU P t)) news l2) (l9 : (l1 ++ l2).Nodup) (hH : (σ.Zx (l1 ++ l2)).fresh d = true)
  (l5 : (lC.length + news.length) * P.bytesOf (ZU P t) <= 140737488355328) (dG : lC.length + news.length <= 9223372036854775807)
  {K : Act -> World -> Prop} {Q : Exit -> Act -> World -> Prop} (hK : ∀ a' w', Ku T0 B ((σ.Zx (l1 ++ l2)).new d (.one (.sref d 0 0 (lC.length + news.length))) [.arr true (P.cellsOf (ZU P t)) (lC ++ news)]) a' w' -> Y7 B w w' -> K a' w') : o.wp P a w K Q := by
 obtain ⟨ti, hu, hi, gT⟩ := QG ht
 obtain ⟨i, z, row, iw, fE, hP, gW, fJ, im, gJ⟩ := xK hz
 rw [hi] at iw; cases iw
 have dH : P.bytesOf (ZU P t) = ti.bytes := by simp [Program.bytesOf, hi]
 rw [dH] at l5
 rw [<- im] at iX gu iI hK
 have fX := r.arg (P := P) t x rfl gw
 have dh := r.arg (P := P) t y rfl gx
 obtain ⟨t2, j2, rows, hsy, eu, gM, cA, di⟩ : ∃ t2 j2 rows, unc (look P σ t y) = .one (.sref t2 j2 0 rows.length) /\ σ.ob t2 j2 = .lit ti.size rows /\ zd σ rows = some news /\ Kk σ rows /\ l2 = Yg rows.flatten := by
  unfold uA at gu
  split at gu
  ·rename_i t2 j2 lo len heq
   obtain ⟨rows, ho, rfl, rfl, hm, hk, rfl⟩ := gu
   exact ⟨t2, j2, rows, heq, ho, hm, hk, rfl⟩
  ·exact gu.elim
 subst di
 obtain ⟨hmv1, ai, hmv3⟩ := Vy gM
 have au := kn cA
 rw [hsy] at dh
 have h0 := r.obj t2 j2
 rw [eu] at h0
 obtain ⟨e2, ys, iY, bE, fW⟩ := h0
 obtain ⟨_, bW, _⟩ := dh.2.2 _ _ eu
 have av : a.eval y = (h t2 j2).v := bW rfl rfl
 have bV : ∀ q ∈ news, q.length = ti.size := hmv3 _ bE
 have hD := P4 r fW hmv1 au (List.nodup_append.1 l9).2.1
 have gL : ∃ e0 xs, w.ownsRow 0 e0 ti.size (a.eval x) lC.length xs /\ (∀ q ∈ lC, q.length = ti.size) /\ Jo w xs lC.flatten (fun b => JI σ h l1 b /\ blk (a.eval x) ≠ some b) /\ (∀ b, blk (a.eval x) = some b -> JI σ h l1 b) := by
  unfold ud at iX
  split at iX
  ·rename_i s heq
   obtain ⟨rfl, rfl⟩ := iX
   rw [heq] at fX
   have he : a.eval x = .slice none 0 0 := fX
   rw [he]
   exact ⟨0, [], World.ownsRow_nil w 0 0 _, (by intro q hq; cases hq), Jo.nil _, (fun b hb => by cases hb)⟩
  ·rename_i u j lo len heq
   obtain ⟨ho, rfl, rfl, rfl⟩ := iX
   rw [heq] at fX
   have fY : YK (Tof T0 X) h σ.ob w (.sref u j 0 lC.length) (a.eval x) := fX
   obtain ⟨_, iN, _⟩ := fY.2.1 _ _ _ ho
   have he : a.eval x = (h u j).v := iN rfl rfl
   have h0 := r.obj u j
   rw [ho] at h0
   obtain ⟨e, xs, lG, gX, lE, hn⟩ := h0
   have lV : σ.ob u j ≠ .none := by rw [ho]; simp
   rw [he]
   exact ⟨e, xs, lG, gX, lE.mono (fun b hb => ⟨⟨(u, j), by simp, lV, hb.1⟩, hb.2⟩), fun b hb => ⟨(u, j), by simp, lV, r.ub u j b lV hb⟩⟩
  ·exact iX.elim
 obtain ⟨e0, xs, lG, ah, dJ, iZ⟩ := gL
 have fu : ∀ q ∈ lC ++ news, q.length = ti.size := by
  intro q hq
  rcases List.mem_append.1 hq with hq | hq
  ·exact ah q hq
  ·exact bV q hq
 have gE : ys.length = news.length * ti.size := by rw [hD.1, YQ news ti.size bV]
 have iv : ∀ b, JI σ h l1 b -> JI σ h (Yg rows.flatten) b -> False := by
  rintro b ⟨p, hp, lD, hu⟩ ⟨p', fN, ld, iP⟩
  obtain ⟨e1, e2⟩ := r.inj p.1 p.2 p'.1 p'.2 b lD ld hu iP
  have gB : p = p' := Prod.ext e1 e2
  subst gB
  exact (List.nodup_append.1 l9).2.2 p hp p fN rfl
 have fw : ∀ b, JI σ h (l1 ++ Yg rows.flatten) b ↔ JI σ h l1 b \/ JI σ h (Yg rows.flatten) b := by
  intro b
  constructor
  ·rintro ⟨p, hp, hr⟩
   rcases List.mem_append.1 hp with hp | hp
   ·exact .inl ⟨p, hp, hr⟩
   ·exact .inr ⟨p, hp, hr⟩
  ·rintro (⟨p, hp, hr⟩ | ⟨p, hp, hr⟩)
   ·exact ⟨p, by simp [hp], hr⟩
   ·exact ⟨p, by simp [hp], hr⟩
 have r1 := r.Zx (l1 ++ Yg rows.flatten)
 have lY := r.yN (l1 ++ Yg rows.flatten)
 have lN := St.yY hH
 have key : ∀ (v' : Value) (w' : World) (e1 : TypeId), (Builtin.append_ #[t, t] o.type #[a.eval x, a.eval y]).run P w = .ok v' w' -> w'.ownsRow 0 e1 ti.size v' (lC.length + news.length) (xs ++ ys) ->
   w.grownBy w' (blk (a.eval x)) -> (∀ b, blk v' = some b -> (w.heap.size <= b /\ b < w'.heap.size) \/ blk (a.eval x) = some b) -> o.wp P a w K Q := by
  intro v' w' e1 lT lU iC fK
  unfold Oper.wp
  have gY : (execOp a.eval o).run P w = .ok (.value v') w' := by
   simp only [execOp, lB, resolve, invoke, builtin, Sem.run_bind, Sem.run_pure, Result.andThen_ok, List.map_toArray, List.map_cons, List.map_nil, lT]
  rw [gY, Oper.upon_value, hd]
  refine hK _ _ ⟨X, fun u j => if u = d then ⟨v', fun k => ((xs ++ ys)[k]?).getD undef, fun b => blk v' = some b \/ (JI σ h (l1 ++ Yg rows.flatten) b /\ blk (a.eval x) ≠ some b)⟩ else h u j, ?_⟩
   ⟨iC.os, iC.tape, iC.output, iC.size, fun k hk => iC.block k (r.hB k hk) (fun e => (lY k ((fw k).2 (.inl (iZ k e.symm)))).1 hk)⟩
  have iH : ((σ.Zx (l1 ++ Yg rows.flatten)).new d (.one (.sref d 0 0 (lC.length + news.length))) [.arr true ti.size (lC ++ news)]).ob d 0 = .arr true ti.size (lC ++ news) := by rw [St.Ko]; simp [lN, Yr]
  have iY : w'.ownsRow 0 e1 ti.size v' (lC ++ news).length (xs ++ ys) := by rw [List.length_append]; exact lU
  have lS : ∀ b, blk (a.eval x) ≠ some b -> b < w.heap.size -> w'.heap[b]? = w.heap[b]? := fun b hb hl => iC.block b hl (fun e => hb e.symm)
  have aw : Jo w' (xs ++ ys) (lC ++ news).flatten (fun b => (blk v' = some b \/ (JI σ h (l1 ++ Yg rows.flatten) b /\ blk (a.eval x) ≠ some b)) /\ blk v' ≠ some b) := by
   rw [List.flatten_append]
   have h1 : Jo w' xs lC.flatten (fun b => JI σ h l1 b /\ blk (a.eval x) ≠ some b) := dJ.Tz (fun b hb => lS b hb.2 (lY b ((fw b).2 (.inl hb.1))).2.2.1)
   have fq : ∀ b, JI σ h (Yg rows.flatten) b -> blk (a.eval x) ≠ some b := fun b hb e => iv b (iZ b e) hb
   have h2 : Jo w' ys news.flatten (JI σ h (Yg rows.flatten)) := hD.Tz (fun b hb => lS b (fq b hb) (lY b ((fw b).2 (.inr hb))).2.2.1)
   refine (h1.append h2 (fun b iz iJ => iv b iz.1 iJ)).mono (fun b hb => ?_)
   have hg : JI σ h (l1 ++ Yg rows.flatten) b /\ blk (a.eval x) ≠ some b := by
    rcases hb with hb | hb
    ·exact ⟨(fw b).2 (.inl hb.1), hb.2⟩
    ·exact ⟨(fw b).2 (.inr hb), fq b hb⟩
   refine ⟨.inr hg, fun e => ?_⟩
   rcases fK b e with hl | hl
   ·have := (lY b hg.1).2.2.1; omega
   ·exact hg.2 hl
  refine r1.tY hH (JI σ h (l1 ++ Yg rows.flatten)) iC.size (fun k hk lD => iC.block k hk (fun e => lD ((fw k).2 (.inl (iZ k e.symm))))) (fun b hb => ⟨(lY b hb).1, (lY b hb).2.1, fun u j _ lD => (lY b hb).2.2.2 u j lD⟩) (fun _ hb => hb) (fun _ hb => .inl hb) _ _ [.arr true ti.size (lC ++ news)]
   (fun _ => ⟨v', fun k => ((xs ++ ys)[k]?).getD undef, fun b => blk v' = some b \/ (JI σ h (l1 ++ Yg rows.flatten) b /\ blk (a.eval x) ≠ some b)⟩) ?_ (fun j => ?_) (fun j b _ hb => .inl hb) (fun j b lD lM => ?_) (fun j j' b lD ld _ _ => ?_)
  ·refine ⟨KO lU, fun q' lW lF hh => ?_, fun lW lF hh => by rw [iH] at hh; cases hh⟩
   rw [iH] at hh; cases hh
   simp only [if_true, List.length_append]
   have := UD iY
   rwa [List.length_append] at this
  ·cases j with
   | zero => exact ⟨e1, xs ++ ys, iY, fu, aw, fun k x d hx _ _ => by simp [hx]⟩
   | succ j => simp [Yr, zR]
  ·rcases lM with lM | lM
   ·rcases fK b lM with h1 | h1
    ·exact ⟨.inl h1.1, fun hx => by have := (r.hX b hx).2; omega, h1.2⟩
    ·have h3 := (fw b).2 (.inl (iZ b h1))
     have h2 := lY b h3
     exact ⟨.inr h3, h2.2.1, by have := iC.size; omega⟩
   ·have h2 := lY b lM.1
    exact ⟨.inr lM.1, h2.2.1, by have := iC.size; omega⟩
  ·have : ∀ j, Yr [Ob.arr true ti.size (lC ++ news)] j ≠ .none -> j = 0 := by
    intro j hj
    cases j with
    | zero => rfl
    | succ j => simp [Yr] at hj
   rw [this j lD, this j' ld]
 rcases iY.2 with ⟨bY, hn2⟩ | ⟨g2, al, cur2, ia, _, g9, hnc2, hmx2, hcs2, htk2⟩
 ·have lP : rows = [] := List.eq_nil_of_length_eq_zero hn2
  have iE : news = [] := List.eq_nil_of_length_eq_zero (by rw [<- ai, hn2])
  have bg : ys = [] := List.eq_nil_of_length_eq_zero (by rw [gE, iE]; simp)
  have lk : ∃ base cap, a.eval x = .slice base lC.length cap /\ lC.length <= cap /\ (base = none -> cap = 0) := by
   rcases lG.2 with ⟨h1, h2⟩ | ⟨g, cap, cur, h1, _, _, ij, _⟩
   ·exact ⟨none, 0, by rw [h1, h2], by omega, fun _ => rfl⟩
   ·exact ⟨_, cap, h1, ij, (fun hh => by cases hh)⟩
  obtain ⟨base, cap, hex, ij, cJ⟩ := lk
  refine key (a.eval x) w e0 ?_ (by rw [bg, iE]; simpa using lG) ⟨rfl, rfl, rfl, Nat.le_refl _, fun _ _ _ => rfl⟩ (fun b hb => .inr hb)
  rw [av, bY]
  rw [hex]
  exact yL t o.type _ ti hu hi base lC.length cap ij cJ
 ·have dL : a.eval y = .slice (some ⟨g2, 0, none⟩) news.length al := by rw [av, ia, ai]
  have lK : ∀ j u, ys[j]? = some u -> w.cell? ((⟨g2, 0, none⟩ : Addr).add j) = some u := by
   intro j u iP
   rw [xG]
   refine zj g9 _ _ ?_
   rw [<- htk2, List.getElem?_take] at iP
   split at iP
   ·simpa using iP
   ·cases iP
  obtain ⟨v', w', e1, lT, lU, iC, fK⟩ := jl (P := P) (w := w) t o.type _ e0 ti z hu hi fE fJ (by omega) (a.eval x) lC.length xs lG ⟨g2, 0, none⟩ news.length al ys gE lK
   (fun u iP => by
    obtain ⟨x', _, fD⟩ := fW.mem iP
    exact YK.Xy fD) (by simp only [maxLen]; omega) l5
  refine key v' w' e1 ?_ lU iC fK
  rw [dL]; exact lT
theorem Jo.pick {xs : List Value} {ds : List D} {S : Nat -> Prop} (h1 : Jo w xs ds S) {p q n : Nat} (hp : p <= q) (hq : q + n <= xs.length) : Jo w (xs.take p ++ cut xs q n) (ds.take p ++ cut ds q n) S := by
 obtain ⟨hl, Sk, hk, hs, hd⟩ := h1
 have fI : (xs.take p).length = p := by rw [List.length_take]; omega
 have dA : (ds.take p).length = p := by rw [List.length_take]; omega
 refine ⟨by rw [List.length_append, List.length_append, fI, dA, XH _ _ _ hq, XH _ _ _ (by omega)], fun k => if k < p then Sk k else Sk (q + (k - p)), fun k x d hx lQ => ?_, fun k b hb => ?_, fun i j b hi hj => ?_⟩
 ·by_cases b7 : k < p
  ·rw [List.getElem?_append_left (by omega)] at hx lQ
   rw [List.getElem?_take, if_pos b7] at hx lQ
   simp only [if_pos b7]
   exact hk k x d hx lQ
  ·rw [List.getElem?_append_right (by omega), fI] at hx
   rw [List.getElem?_append_right (by omega), dA] at lQ
   simp only [if_neg b7]
   exact hk _ x d (yI _ _ _ _ _ hx) (yI _ _ _ _ _ lQ)
 ·dsimp only at hb
  split at hb <;> exact hs _ b hb
 ·dsimp only at hi hj
  split at hi <;> split at hj
  ·exact hd _ _ b hi hj
  ·have := hd _ _ b hi hj; omega
  ·have := hd _ _ b hi hj; omega
  ·have := hd _ _ b hi hj; omega
theorem RK (rows : List (List D)) (size : Nat) (hz : ∀ r ∈ rows, r.length = size) (lo n : Nat) (hle : lo + n <= rows.length) : (cut rows lo n).flatten = cut rows.flatten (lo * size) (n * size) := by
 have hdz : ∀ r ∈ rows.drop lo, r.length = size := fun r hr => hz r (List.mem_of_mem_drop hr)
 have e1 : (rows.drop lo).flatten = rows.flatten.drop (lo * size) := by
  have h1 := qE rows size hz lo (by omega)
  have h2 : (rows.take lo).flatten ++ (rows.drop lo).flatten = rows.flatten := by rw [<- List.flatten_append, List.take_append_drop]
  have h3 : (rows.take lo).flatten.length = lo * size := by rw [YQ _ size (fun r hr => hz r (List.mem_of_mem_take hr)), List.length_take]; congr 1; omega
  rw [<- h2, <- h3, List.drop_left]
 unfold cut
 rw [qE (rows.drop lo) size hdz n (by rw [List.length_drop]; omega), e1]
theorem F8 (r : Rel T0 B σ a w X h) {o : Oper} {t : TypeId} {x y : Operand} {d u j len lo n : Nat} {rows : List (List D)} (lB : o.op = .call ⟨.builtin .append, #[x, y], #[t, t]⟩) (hd : o.dst = some d)
  (gw : gOf (look P σ t x) = true) (gx : gOf (look P σ t y) = true) (ht : XK P t = true) (hz : QF P (ZU P t) = true) (iI : 0 < P.cellsOf (ZU P t))
  (hx : unc (look P σ t x) = .one (.sref u j 0 len)) (hy : unc (look P σ t y) = .one (.sref u j lo n)) (ho : σ.ob u j = .arr true (P.cellsOf (ZU P t)) rows) (hle : len <= lo) (fL : lo + n <= rows.length) (hH : (σ.Zx [(u, j)]).fresh d = true)
  (l5 : (len + n) * P.bytesOf (ZU P t) <= 140737488355328) (dG : len + n <= 9223372036854775807)
  {K : Act -> World -> Prop} {Q : Exit -> Act -> World -> Prop} (hK : ∀ a' w', Ku T0 B ((σ.Zx [(u, j)]).new d (.one (.sref d 0 0 (len + n))) [.arr true (P.cellsOf (ZU P t)) (rows.take len ++ cut rows lo n)]) a' w' -> Y7 B w w' -> K a' w') : o.wp P a w K Q := by
 obtain ⟨ti, hu, hi, gT⟩ := QG ht
 obtain ⟨i, z, row, iw, fE, hP, gW, fJ, im, gJ⟩ := xK hz
 rw [hi] at iw; cases iw
 have dH : P.bytesOf (ZU P t) = ti.bytes := by simp [Program.bytesOf, hi]
 rw [dH] at l5
 rw [<- im] at ho iI hK
 have fX := r.arg (P := P) t x rfl gw
 have dh := r.arg (P := P) t y rfl gx
 rw [hx] at fX
 rw [hy] at dh
 have fY : YK (Tof T0 X) h σ.ob w (.sref u j 0 len) (a.eval x) := fX
 have bh : YK (Tof T0 X) h σ.ob w (.sref u j lo n) (a.eval y) := dh
 obtain ⟨_, _, gR, _⟩ := fY.2.1 _ _ _ ho
 have he : a.eval x = Dc (h u j).v len := gR rfl
 obtain ⟨_, _, _, base, cap, dL, iU, dY, ev, hb⟩ := bh.2.1 _ _ _ ho
 have h0 := r.obj u j
 rw [ho] at h0
 obtain ⟨e0, zs, dM, gX, lE, hn⟩ := h0
 have lV : σ.ob u j ≠ .none := by rw [ho]; simp
 have aq : zs.length = rows.length * ti.size := dM.1
 have hm1 : len * ti.size <= lo * ti.size := Nat.mul_le_mul_right _ hle
 have bD : lo * ti.size + n * ti.size <= zs.length := by rw [aq, <- Nat.add_mul]; exact Nat.mul_le_mul_right _ fL
 let xs := zs.take (len * ti.size)
 let ys := cut zs (lo * ti.size) (n * ti.size)
 have lG : w.ownsRow 0 e0 ti.size (a.eval x) len xs := by rw [he]; exact Nb dM (by omega)
 have gE : ys.length = n * ti.size := XH _ _ _ bD
 have ax : blk (a.eval x) = blk (h u j).v := by rw [he, E1]
 have iA : (rows.take len ++ cut rows lo n).flatten = rows.flatten.take (len * ti.size) ++ cut rows.flatten (lo * ti.size) (n * ti.size) := by
  rw [List.flatten_append, qE rows ti.size gX len (by omega), RK rows ti.size gX lo n fL]
 have fu : ∀ q ∈ rows.take len ++ cut rows lo n, q.length = ti.size := by
  intro q hq
  rcases List.mem_append.1 hq with hq | hq
  ·exact gX q (List.mem_of_mem_take hq)
  ·exact gX q (List.mem_of_mem_drop (List.mem_of_mem_take hq))
 have hlen : (rows.take len ++ cut rows lo n).length = len + n := by rw [List.length_append, List.length_take, XH _ _ _ fL]; omega
 have bp : ∀ b, (h u j).u b -> JI σ h [(u, j)] b := fun b hb => ⟨(u, j), by simp, lV, hb⟩
 have iZ : ∀ b, blk (a.eval x) = some b -> JI σ h [(u, j)] b := fun b hb => bp b (r.ub u j b lV (by rw [<- ax]; exact hb))
 have r1 := r.Zx [(u, j)]
 have lY := r.yN [(u, j)]
 have lN := St.yY hH
 have key : ∀ (v' : Value) (w' : World) (e1 : TypeId), (Builtin.append_ #[t, t] o.type #[a.eval x, a.eval y]).run P w = .ok v' w' -> w'.ownsRow 0 e1 ti.size v' (len + n) (xs ++ ys) ->
   w.grownBy w' (blk (a.eval x)) -> (∀ b, blk v' = some b -> (w.heap.size <= b /\ b < w'.heap.size) \/ blk (a.eval x) = some b) -> o.wp P a w K Q := by
  intro v' w' e1 lT lU iC fK
  unfold Oper.wp
  have gY : (execOp a.eval o).run P w = .ok (.value v') w' := by
   simp only [execOp, lB, resolve, invoke, builtin, Sem.run_bind, Sem.run_pure, Result.andThen_ok, List.map_toArray, List.map_cons, List.map_nil, lT]
  rw [gY, Oper.upon_value, hd]
  refine hK _ _ ⟨X, fun u' j' => if u' = d then ⟨v', fun k => ((xs ++ ys)[k]?).getD undef, fun b => blk v' = some b \/ (JI σ h [(u, j)] b /\ blk (a.eval x) ≠ some b)⟩ else h u' j', ?_⟩
   ⟨iC.os, iC.tape, iC.output, iC.size, fun k hk => iC.block k (r.hB k hk) (fun e => (lY k (iZ k e.symm)).1 hk)⟩
  have iH : ((σ.Zx [(u, j)]).new d (.one (.sref d 0 0 (len + n))) [.arr true ti.size (rows.take len ++ cut rows lo n)]).ob d 0 = .arr true ti.size (rows.take len ++ cut rows lo n) := by rw [St.Ko]; simp [lN, Yr]
  have iY : w'.ownsRow 0 e1 ti.size v' (rows.take len ++ cut rows lo n).length (xs ++ ys) := by rw [hlen]; exact lU
  have lS : ∀ b, blk (a.eval x) ≠ some b -> b < w.heap.size -> w'.heap[b]? = w.heap[b]? := fun b hb hl => iC.block b hl (fun e => hb e.symm)
  have aw : Jo w' (xs ++ ys) (rows.take len ++ cut rows lo n).flatten (fun b => (blk v' = some b \/ (JI σ h [(u, j)] b /\ blk (a.eval x) ≠ some b)) /\ blk v' ≠ some b) := by
   rw [iA]
   have h1 : Jo w (xs ++ ys) (rows.flatten.take (len * ti.size) ++ cut rows.flatten (lo * ti.size) (n * ti.size)) (fun b => JI σ h [(u, j)] b /\ blk (a.eval x) ≠ some b) :=
    (lE.pick hm1 bD).mono (fun b hb => ⟨bp b hb.1, by rw [ax]; exact hb.2⟩)
   refine (h1.Tz (fun b hb => lS b hb.2 (lY b hb.1).2.2.1)).mono (fun b hb => ⟨.inr hb, fun e => ?_⟩)
   rcases fK b e with hl | hl
   ·have := (lY b hb.1).2.2.1; omega
   ·exact hb.2 hl
  refine r1.tY hH (JI σ h [(u, j)]) iC.size (fun k hk lD => iC.block k hk (fun e => lD (iZ k e.symm))) (fun b hb => ⟨(lY b hb).1, (lY b hb).2.1, fun u' j' _ lD => (lY b hb).2.2.2 u' j' lD⟩) (fun _ hb => hb) (fun _ hb => .inl hb) _ _ [.arr true ti.size (rows.take len ++ cut rows lo n)]
   (fun _ => ⟨v', fun k => ((xs ++ ys)[k]?).getD undef, fun b => blk v' = some b \/ (JI σ h [(u, j)] b /\ blk (a.eval x) ≠ some b)⟩) ?_ (fun j' => ?_) (fun j' b _ hb => .inl hb) (fun j' b lD lM => ?_) (fun j1 j2 b lD ld _ _ => ?_)
  ·refine ⟨KO lU, fun q' lW lF hh => ?_, fun lW lF hh => by rw [iH] at hh; cases hh⟩
   rw [iH] at hh; cases hh
   simp only [if_true]
   have := UD iY
   rw [hlen] at this ⊢
   exact this
  ·cases j' with
   | zero => exact ⟨e1, xs ++ ys, iY, fu, aw, fun k x d hx _ _ => by simp [hx]⟩
   | succ j' => simp [Yr, zR]
  ·rcases lM with lM | lM
   ·rcases fK b lM with h1 | h1
    ·exact ⟨.inl h1.1, fun hx => by have := (r.hX b hx).2; omega, h1.2⟩
    ·have h3 := iZ b h1
     have h2 := lY b h3
     exact ⟨.inr h3, h2.2.1, by have := iC.size; omega⟩
   ·have h2 := lY b lM.1
    exact ⟨.inr lM.1, h2.2.1, by have := iC.size; omega⟩
  ·have : ∀ j, Yr [Ob.arr true ti.size (rows.take len ++ cut rows lo n)] j ≠ .none -> j = 0 := by
    intro j hj
    cases j with
    | zero => rfl
    | succ j => simp [Yr] at hj
   rw [this j1 lD, this j2 ld]
 cases base with
 | none =>
  have bw := ev rfl
  subst bw
  have hn0 : n = 0 := by omega
  subst hn0
  have bg : ys = [] := List.eq_nil_of_length_eq_zero (by rw [gE]; simp)
  have lk : ∃ base cap, a.eval x = .slice base len cap /\ len <= cap /\ (base = none -> cap = 0) := by
   rcases lG.2 with ⟨h1, h2⟩ | ⟨g, cap, cur, h1, _, _, ij, _⟩
   ·exact ⟨none, 0, by rw [h1, h2], by omega, fun _ => rfl⟩
   ·exact ⟨_, cap, h1, ij, (fun hh => by cases hh)⟩
  obtain ⟨base, cap, hex, ij, cJ⟩ := lk
  refine key (a.eval x) w e0 ?_ (by rw [bg]; simpa using lG) ⟨rfl, rfl, rfl, Nat.le_refl _, fun _ _ _ => rfl⟩ (fun b hb => .inr hb)
  rw [dL, hex]
  exact yL t o.type _ ti hu hi base len cap ij cJ
 | some ad =>
  have lK : ∀ k v, ys[k]? = some v -> w.cell? (ad.add k) = some v := by
   intro k v hv
   have gF : 0 < n := by
    rcases Nat.eq_zero_or_pos n with h0 | h0
    ·have hk := (List.getElem?_eq_some_iff.1 hv).1
     rw [gE, h0] at hk
     simp at hk
    ·exact h0
   obtain ⟨b, fG, hh, gU⟩ := hb gF
   cases gU
   rcases dM.2 with ⟨bY, _⟩ | ⟨g, eU, cur, gH, _, bQ, ij, gD, iy, gO⟩
   ·rw [hh] at bY; cases bY
   ·rw [hh] at gH; cases gH
    have h1 := yI _ _ _ _ _ hv
    rw [xG]
    refine zj bQ _ _ ?_
    rw [<- gO, List.getElem?_take] at h1
    split at h1
    ·exact h1
    ·cases h1
  have h1c : ∀ v ∈ ys, v.oneCell' = true := by
   intro v hv
   have ia : v ∈ zs := List.mem_of_mem_drop (List.mem_of_mem_take hv)
   obtain ⟨hl, Sk, hk, _⟩ := lE
   obtain ⟨k, fU⟩ := List.mem_iff_getElem?.1 ia
   have fk : k < rows.flatten.length := by rw [<- hl]; exact (List.getElem?_eq_some_iff.1 fU).1
   exact (hk k v _ fU (List.getElem?_eq_getElem fk)).Xy
  obtain ⟨v', w', e1, lT, lU, iC, fK⟩ := jl (P := P) (w := w) t o.type _ e0 ti z hu hi fE fJ (by omega) (a.eval x) len xs lG ad n cap ys gE lK h1c (by simp only [maxLen]; omega) l5
  refine key v' w' e1 ?_ lU iC fK
  rw [dL]; exact lT
end
end Go.Vm
namespace Go.Vm
open Go.RowKit
def Mr : List At -> Bool
 | [] => true
 | .d (.sl _ _) :: _ => false
 | _ :: xs => Mr xs
theorem Bg : ∀ {xs : List At}, Mr xs = true -> ∀ x ∈ xs, ∀ s r, x ≠ .d (.sl s r)
 | [], _, x, hx, _, _ => by cases hx
 | y :: xs, h, x, hx, s, r => by
  have h2 : Mr xs = true /\ ∀ s r, y ≠ .d (.sl s r) := by
   cases y with
   | d z => cases z with
    | sl s r => cases h
    | _ => exact ⟨h, fun s r e => by cases e⟩
   | _ => exact ⟨h, fun s r e => by cases e⟩
  rcases List.mem_cons.1 hx with rfl | hx
  ·exact h2.2 s r
  ·exact Bg h2.1 x hx s r
section
variable {P : Program} {T0 : CS} {B : Nat -> Prop} {σ : St} {a : Act} {w w' : World} {X X' : Nat -> Prop} {h : Nat -> Nat -> Hd}
theorem I7 (r : Rel T0 B σ a w X h) {o : Oper} {T : TypeId} {x : Operand} {d : Nat} {k : IntKind} {n : Nat} {z : List At} {zr : List D} (lB : o.op = .makeSlice T x x) (hd : o.dst = some d) (hH : σ.fresh d = true)
  (ht : XK P T = true) (hz : QF P (ZU P T) = true) (hP : j5 P 12 (ZU P T) = some z) (hzd : zD z = some zr) (bx : Mr z = true) (iI : 0 < P.cellsOf (ZU P T)) (hx : W5 P σ x k (n : Int)) (dH : P.bytesOf (ZU P T) * n <= 281474976710656) (dG : n <= 9223372036854775807)
  {K : Act -> World -> Prop} {Q : Exit -> Act -> World -> Prop} (hK : ∀ a' w', Ku T0 B (σ.new d (.one (.sref d 0 0 n)) [.arr true (P.cellsOf (ZU P T)) (List.replicate n zr)]) a' w' -> Y7 B w w' -> K a' w') : o.wp P a w K Q := by
 obtain ⟨ti, hu, hi, gT⟩ := QG ht
 obtain ⟨i, zv, row, iw, fE, dK, gW, fJ, im, gJ⟩ := xK hz
 rw [hi] at iw; cases iw
 rw [hP] at dK; cases dK
 have hex := xM r hx
 have bd : (ti.bytes : Int) * (n : Int) <= 281474976710656 := by
  have : P.bytesOf (ZU P T) = ti.bytes := by simp [Program.bytesOf, hi]
  rw [this] at dH
  have h : ((ti.bytes * n : Nat) : Int) <= 281474976710656 := by omega
  rwa [Int.natCast_mul] at h
 have lT := run_make (P := P) w T (ZU P T) ti zv hu hi fE k k n n (by omega) (Int.le_refl _) bd (by omega)
 simp only [Int.toNat_natCast] at lT
 unfold Oper.wp
 simp only [execOp, lB, hex, Sem.run_bind, lT, Result.andThen_ok, Sem.run_pure, Oper.upon_value, hd]
 have cL := BP hzd (gJ (Tof T0 X) h σ.ob w)
 have aq := cL.length
 have e1 : zv.cells.toList.length = zv.cells.size := Array.length_toList
 have fv : zr.length = ti.size := by omega
 have gZ : (madeCells zv.cells (n * ti.size)).toList.length = n * ti.size := by rw [Array.length_toList, size_madeCells]
 have dN : ∀ q u, (madeCells zv.cells (n * ti.size)).toList[q]? = some u -> zv.cells.toList[q % ti.size]? = some u := by
  intro q u hq
  have lN : q < n * ti.size := by have := (List.getElem?_eq_some_iff.1 hq).1; omega
  have bf : q % ti.size < zv.cells.size := by rw [fJ]; exact Nat.mod_lt _ (by omega)
  have : (madeCells zv.cells (n * ti.size)).toList[q]? = some (zv.cells[q % zv.cells.size]!) := by
   simp [madeCells, lN]
  rw [this] at hq
  cases hq
  rw [fJ]
  simp [bf]
 have fW : Jo (w.alloc (.cells (madeCells zv.cells (n * ti.size)) (ZU P T))) (madeCells zv.cells (n * ti.size)).toList (List.replicate n zr).flatten (fun _ => False) := by
  refine ⟨by rw [gZ, YQ _ ti.size (by intro q hq; rw [List.eq_of_mem_replicate hq]; exact fv)]; simp, fun _ _ => False, fun q u dd hq ic => ?_, fun _ _ hb => hb, fun _ _ _ hb => hb.elim⟩
  have lN : q < n * ti.size := by have := (List.getElem?_eq_some_iff.1 hq).1; omega
  rw [j7 zr n q (by rw [fv]; exact lN), fv] at ic
  exact wz hzd (gJ (Tof T0 X) h σ.ob w) (Bg bx) _ _ _ u dd (dN q u hq) ic
 have := r.rq hH (World.grownBy_alloc w (.cells (madeCells zv.cells (n * ti.size)) (ZU P T)) none) (.slice (some ⟨w.heap.size, 0, none⟩) n n) (e := ZU P T) (size := P.cellsOf (ZU P T)) (rows := List.replicate n zr) (xs := (madeCells zv.cells (n * ti.size)).toList)
  ⟨by rw [gZ, im]; simp, .inr ⟨w.heap.size, n, _, by simp, Nat.zero_le _, heap_alloc_new w _, by simp, by simp only [maxLen]; omega, by rw [size_madeCells, im], by rw [List.take_of_length_le (by rw [gZ, im]; simp)]⟩⟩
  (by intro q hq; rw [List.eq_of_mem_replicate hq]; omega) fW
  (fun b hb => by simp [blk] at hb; subst hb; exact ⟨Nat.le_refl _, by simp⟩)
 rw [List.length_replicate] at this
 exact hK _ _ this.1 this.2
theorem Jo.place {xs ys : List Value} {ds es : List D} {S S' : Nat -> Prop} (h1 : Jo w xs ds S) (h2 : Jo w ys es S') (hd : ∀ b, S b -> S' b -> False) (o : Nat) (ho : o + ys.length <= xs.length) : Jo w (Vm.place xs o ys) (Vm.place ds o es) (fun b => S b \/ S' b) := by
 obtain ⟨l1, Sk, a1, a2, a3⟩ := h1
 obtain ⟨l2, da, b1, b2, b3⟩ := h2
 refine ⟨by rw [XX _ _ _ ho, XX _ _ _ (by omega), l1], fun k => if o <= k /\ k < o + ys.length then da (k - o) else Sk k, fun k x d hx lQ => ?_, fun k b hb => ?_, fun i j b hi hj => ?_⟩
 ·rcases xf xs o ys ho k x hx with ⟨p1, p2, p3⟩ | ⟨p1, p3⟩
  ·rcases xf ds o es (by omega) k d lQ with ⟨_, _, p4⟩ | ⟨p4, _⟩
   ·simp only [p1, p2, and_self, if_true]; exact b1 _ x d p3 p4
   ·exact absurd ⟨p1, by omega⟩ p4
  ·rcases xf ds o es (by omega) k d lQ with ⟨p4, p5, _⟩ | ⟨_, p4⟩
   ·exact absurd ⟨p4, by omega⟩ p1
   ·simp only [p1, if_false]; exact a1 k x d p3 p4
 ·by_cases hk : o <= k /\ k < o + ys.length
  ·simp only [hk, and_self, if_true] at hb; exact .inr (b2 _ b hb)
  ·simp only [hk, if_false] at hb; exact .inl (a2 k b hb)
 ·by_cases iw : o <= i /\ i < o + ys.length
  ·simp only [iw, and_self, if_true] at hi
   by_cases gn : o <= j /\ j < o + ys.length
   ·simp only [gn, and_self, if_true] at hj
    have := b3 _ _ b hi hj; omega
   ·simp only [gn, if_false] at hj; exact (hd b (a2 j b hj) (b2 _ b hi)).elim
  ·simp only [iw, if_false] at hi
   by_cases gn : o <= j /\ j < o + ys.length
   ·simp only [gn, and_self, if_true] at hj; exact (hd b (a2 i b hi) (b2 _ b hj)).elim
   ·simp only [gn, if_false] at hj; exact a3 i j b hi hj
theorem IS (r : Rel T0 B σ a w X h) {o : Oper} {T : TypeId} {x y : Operand} (lB : o.op = .store T x y) (hd : o.dst = none) (ht : qU P T = true) (gw : gOf (look P σ 0 x) = true) (gx : gOf (look P σ T y) = true)
  {t j i c : Nat} (hx : unc (look P σ 0 x) = .one (.ptr t j i c)) {size : Nat} {rows : List (List D)} (ho : σ.ob t j = .arr true size rows) (hi : i < rows.length) {ds : List D} (iV : (unc (look P σ T y)).flat = true) (eH : Q7 σ (unc (look P σ T y)).cells = some ds) (la : Qe σ (unc (look P σ T y)).cells)
  (l9 : (Yg (unc (look P σ T y)).cells).Nodup) (cS : (t, j) ∉ Yg (unc (look P σ T y)).cells) (bA : (σ.Zx (Yg (unc (look P σ T y)).cells)).zl (At.isT t) = false) (hl : ds.length = P.cellsOf T) (hle : c + P.cellsOf T <= size)
  {K : Act -> World -> Prop} {Q : Exit -> Act -> World -> Prop} (hK : ∀ a' w', Ku T0 B ((σ.Zx (Yg (unc (look P σ T y)).cells)).Z7 t j (.arr true size (rows.set i (place (rows.getD i []) c ds)))) a' w' -> Y7 B w w' -> K a' w') : o.wp P a w K Q := by
 obtain ⟨_, ti, _, ag, _, _⟩ := j8 ht
 have bZ := r.arg (P := P) 0 x hx gw
 obtain ⟨b, cap, cur, e, xs, hb, he, hh, iU, gD, iy, gO, hz, fV, _, lG⟩ := r.arr ho bZ
 obtain ⟨lG, hn⟩ := lG rfl
 have hy := ku iV (r.arg (P := P) T y rfl gx)
 have hD := P4 r hy eH la l9
 have gE := hD.1
 have e2 : (a.eval y).cells.toList.length = (a.eval y).cells.size := Array.length_toList
 have e3 : cur.toList.length = cur.size := Array.length_toList
 have lX : rows[i]? = some (rows.getD i []) := by simp [List.getD_eq_getElem?_getD, List.getElem?_eq_getElem hi]
 have hmul : i * size + size <= rows.length * size := by rw [<- Nat.succ_mul]; exact Nat.mul_le_mul_right _ hi
 have cp : rows.length * size <= cap * size := Nat.mul_le_mul_right _ iU
 have lT := run_store (P := P) (w := w) ag (o := i * size + c) (val := a.eval y) hh (by omega) (by omega) (fun u hu => by obtain ⟨x', _, fD⟩ := hy.mem hu; exact YK.Xy fD)
 have lV : σ.ob t j ≠ .none := by rw [ho]; simp
 have iB : blk (h t j).v = some b := by rw [hb]; rfl
 have hB := r.sJ lV iB
 have hO := r.ub t j b lV iB
 have cz : xs.length = rows.length * size := by rw [fV, YQ rows size hz]
 have g5 : (rows.getD i []).length = size := hz _ (List.mem_of_getElem? lX)
 generalize hL : Yg (unc (look P σ T y)).cells = L at *
 have r1 := r.Zx L
 have gN : (σ.Zx L).ob t j = .arr true size rows := by rw [St.Kl, if_neg cS, ho]
 have lY := r.yN L
 have iv : ∀ b', (h t j).u b' -> JI σ h L b' -> False := by
  rintro b' iP ⟨p, hp, lD, b9⟩
  obtain ⟨q1, q2⟩ := r.inj t j p.1 p.2 b' lV lD iP b9
  exact cS (by rw [q1, q2]; exact hp)
 unfold Oper.wp
 simp only [execOp, lB, he, Sem.run_bind, lT, Result.andThen_ok, Sem.run_pure, Oper.upon_skip, hd]
 refine hK _ _ ⟨X, _, r1.change (by rw [gN]; simp) (by simp [World.setRow]) (fun k hk => setRow_other w b k _ (fun e => hk (e ▸ hO))) (JI σ h L) (fun b' lM => lY b' lM) _ (by rw [gN]; simp [Ob.wN])
  ⟨(h t j).v, fun k => ((place xs (i * size + c) (a.eval y).cells.toList)[k]?).getD undef, fun b' => (h t j).u b' \/ JI σ h L b'⟩ rfl (fun b' lM => lM) (fun b' lM => .inl (r.ub t j b' lV lM)) (At.isT t) bA (.inl (fun u i c => by simp [At.isT])) ?_⟩ (Y7.setRow hB.1 _)
 have iO := setRow_heap w b cur (place cur.toList (i * size + c) (a.eval y).cells.toList).toArray e (0, 0) hh
 have lS : ∀ b', b' ≠ b -> (w.setRow b (place cur.toList (i * size + c) (a.eval y).cells.toList).toArray).heap[b']? = w.heap[b']? := fun b' lD => setRow_other w b b' _ lD
 have hZ : ∀ r ∈ rows.set i (place (rows.getD i []) c ds), r.length = size := by
  intro r' lp
  rcases List.mem_or_eq_of_mem_set lp with lp | lp
  ·exact hz r' lp
  ·rw [lp, XX _ _ _ (by omega), g5]
 refine ⟨e, place xs (i * size + c) (a.eval y).cells.toList, ⟨?_, .inr ⟨b, cap, _, by simpa using hb, Nat.zero_le _, iO, by simpa using iU, gD, ?_, ?_⟩⟩, hZ, ?_, fun k u d hu _ _ => by simp [hu]⟩
 ·rw [XX _ _ _ (by omega), cz]; simp
 ·simp only [List.size_toArray]
  rw [XX _ _ _ (by omega), e3, iy]
 ·simp only [List.length_set]
  rw [ON _ _ _ _ (by omega) (by omega), gO]
 ·rw [zY size c ds (by omega) rows i _ lX hz]
  have k1 : Jo (w.setRow b (place cur.toList (i * size + c) (a.eval y).cells.toList).toArray) xs rows.flatten (fun b => (h t j).u b /\ blk (h t j).v ≠ some b) := lG.Tz (fun b' lM => lS b' (fun e => lM.2 (by rw [e]; exact iB)))
  have k2 : Jo (w.setRow b (place cur.toList (i * size + c) (a.eval y).cells.toList).toArray) (a.eval y).cells.toList ds (JI σ h L) := hD.Tz (fun b' lM => lS b' (fun e => iv b' (by rw [e]; exact hO) lM))
  refine (k1.place k2 (fun b' h1 h2 => iv b' h1.1 h2) _ (by omega)).mono (fun b' lM => ?_)
  rcases lM with lM | lM
  ·exact ⟨.inl lM.1, lM.2⟩
  ·exact ⟨.inr lM, fun e => iv b' (r.ub t j b' lV e) lM⟩
theorem Own.tA {v : Value} {n : Nat} {s : List (List D)} {S S2 : Nat -> Prop} (gA : Own w v (.sl n s) S) {k q : Nat} (hk : k < s.length) {ys : List Value} {ds : List D} (hy : Jo w ys ds S2) (hle : q + ds.length <= n) (hd : ∀ b, S b -> S2 b -> False) :
  ∃ g cap cur e, v = .slice (some ⟨g, 0, none⟩) s.length cap /\ S g /\ w.heap[g]? = some (.cells cur e (0, 0)) /\ k * n + q + ys.length <= cur.size /\ Own (w.setRow g (place cur.toList (k * n + q) ys).toArray) v (.sl n (s.set k (place (s.getD k []) q ds))) (fun b => S b \/ S2 b) := by
 cases gA with
 | sl v size rows S e xs Sk ho hz hb hl fU hs lQ =>
  have gE := hy.1
  obtain ⟨fV, ⟨_, h0⟩ | ⟨g, cap, cur, hv, fb, hh, iU, gD, iy, gO⟩⟩ := ho
  ·omega
  have bX : S g := hb g (by rw [hv]; rfl)
  have lX : s[k]? = some (s.getD k []) := by simp [List.getD_eq_getElem?_getD, List.getElem?_eq_getElem hk]
  have hmul : k * n + n <= s.length * n := by rw [<- Nat.succ_mul]; exact Nat.mul_le_mul_right _ hk
  have cp : s.length * n <= cap * n := Nat.mul_le_mul_right _ iU
  have e3 : cur.toList.length = cur.size := Array.length_toList
  have g5 : (s.getD k []).length = n := hz _ (List.mem_of_getElem? lX)
  refine ⟨g, cap, cur, e, hv, bX, hh, by omega, ?_⟩
  have iO := setRow_heap w g cur (place cur.toList (k * n + q) ys).toArray e (0, 0) hh
  have lS : ∀ b', b' ≠ g -> (w.setRow g (place cur.toList (k * n + q) ys).toArray).heap[b']? = w.heap[b']? := fun b' lD => setRow_other w g b' _ lD
  have hZ : ∀ r ∈ s.set k (place (s.getD k []) q ds), r.length = n := by
   intro r' lp
   rcases List.mem_or_eq_of_mem_set lp with lp | lp
   ·exact hz r' lp
   ·rw [lp, XX _ _ _ (by omega), g5]
  have iB : blk v = some g := by rw [hv]; rfl
  have k1 : Jo (w.setRow g (place cur.toList (k * n + q) ys).toArray) xs s.flatten (fun b => S b /\ blk v ≠ some b) :=
   Jo.Tz (fun b' lM => lS b' (fun e => lM.2 (by rw [e]; exact iB))) (show Jo w xs s.flatten (fun b => S b /\ blk v ≠ some b) from ⟨hl, Sk, fU, fun k b hb => hs k b hb, lQ⟩)
  have k2 : Jo (w.setRow g (place cur.toList (k * n + q) ys).toArray) ys ds S2 := hy.Tz (fun b' lM => lS b' (fun e => hd b' (by rw [e]; exact bX) lM))
  have k3 := k1.place k2 (fun b' h1 h2 => hd b' h1.1 h2) (k * n + q) (by rw [fV]; omega)
  rw [<- zY n q ds (by omega) s k _ lX hz] at k3
  obtain ⟨hl3, Sk3, a1, a2, a3⟩ := k3
  refine .sl v n _ _ e (place xs (k * n + q) ys) Sk3 ⟨?_, .inr ⟨g, cap, _, by simpa using hv, fb, iO, by simpa using iU, gD, ?_, ?_⟩⟩ hZ (fun b' lM => .inl (hb b' lM)) hl3 a1 (fun k b lM => ?_) a3
  ·rw [XX _ _ _ (by rw [fV]; omega), fV]; simp
  ·simp only [List.size_toArray]
   rw [XX _ _ _ (by omega), e3, iy]
  ·simp only [List.length_set]
   rw [ON _ _ _ _ (by omega) (by omega), gO]
  ·rcases a2 k b lM with h1 | h1
   ·exact ⟨.inl h1.1, h1.2⟩
   ·exact ⟨.inr h1, fun e => hd b (hb b e) h1⟩
theorem Ii (r : Rel T0 B σ a w X h) {o : Oper} {T : TypeId} {x y : Operand} (lB : o.op = .store T x y) (hd : o.dst = none) (ht : qU P T = true) (gw : gOf (look P σ 0 x) = true) (gx : gOf (look P σ T y) = true)
  {t j i c k q n : Nat} {s : List (List D)} (hx : unc (look P σ 0 x) = .one (.tref t j i c (some (k * n + q)))) {size : Nat} {rows : List (List D)} (ho : σ.ob t j = .arr true size rows) (hi : i < rows.length) (lK : (rows.getD i [])[c]? = some (.sl n s)) (hk : k < s.length)
  {ds : List D} (iV : (unc (look P σ T y)).flat = true) (eH : Q7 σ (unc (look P σ T y)).cells = some ds) (la : Qe σ (unc (look P σ T y)).cells)
  (l9 : (Yg (unc (look P σ T y)).cells).Nodup) (cS : (t, j) ∉ Yg (unc (look P σ T y)).cells) (hl : ds.length = P.cellsOf T) (hle : q + P.cellsOf T <= n)
  {K : Act -> World -> Prop} {Q : Exit -> Act -> World -> Prop} (hK : ∀ a' w', Ku T0 B ((σ.Zx (Yg (unc (look P σ T y)).cells)).Z7 t j (.arr true size (rows.set i (place (rows.getD i []) c [.sl n (s.set k (place (s.getD k []) q ds))])))) a' w' -> Y7 B w w' -> K a' w') : o.wp P a w K Q := by
 obtain ⟨_, ti, _, ag, _, _⟩ := j8 ht
 have lV : σ.ob t j ≠ .none := by rw [ho]; simp
 have h0 := r.obj t j
 rw [ho] at h0
 obtain ⟨e, vs, gA, hz, ⟨cj, Sk, o1, o2, o3⟩, hn⟩ := h0
 have lX : rows[i]? = some (rows.getD i []) := by simp [List.getD_eq_getElem?_getD, List.getElem?_eq_getElem hi]
 have iA : rows.flatten[i * size + c]? = some (.sl n s) := jH rows size hz i _ lX c _ lK
 have lN : i * size + c < vs.length := by rw [cj]; exact (List.getElem?_eq_some_iff.1 iA).1
 have eJ : vs[i * size + c]? = some vs[i * size + c] := List.getElem?_eq_getElem lN
 have ab := hn _ _ _ eJ iA rfl
 have lG := o1 _ _ _ eJ iA
 have hy := ku iV (r.arg (P := P) T y rfl gx)
 have hD := P4 r hy eH la l9
 have gE := hD.1
 have e2 : (a.eval y).cells.toList.length = (a.eval y).cells.size := Array.length_toList
 generalize hL : Yg (unc (look P σ T y)).cells = L at *
 have iv : ∀ b', (h t j).u b' -> JI σ h L b' -> False := by
  rintro b' iP ⟨p, hp, lD, b9⟩
  obtain ⟨q1, q2⟩ := r.inj t j p.1 p.2 b' lV lD iP b9
  exact cS (by rw [q1, q2]; exact hp)
 have cg : ∀ b, Sk (i * size + c) b -> (h t j).u b := fun b hb => (o2 _ b hb).1
 obtain ⟨g, cap, cur, e1, hv, bX, hh, l7, ib⟩ := lG.tA (q := q) hk hD (by omega) (fun b h1 h2 => iv b (cg b h1) h2)
 have bZ := r.arg (P := P) 0 x hx gw
 have he : a.eval x = .pointer (some ⟨g, k * n + q, none⟩) := by
  obtain ⟨b, n', eU, h1, h2⟩ := bZ.2 size rows ho
  rw [ab, hv] at h1
  cases h1; exact h2
 have lT := run_store (P := P) (w := w) ag (o := k * n + q) (val := a.eval y) hh (by omega) (by omega) (fun u hu => by obtain ⟨x', _, fD⟩ := hy.mem hu; exact YK.Xy fD)
 have hgB := r.own t j g lV (cg g bX)
 have r1 := r.Zx L
 have gN : (σ.Zx L).ob t j = .arr true size rows := by rw [St.Kl, if_neg cS, ho]
 have lY := r.yN L
 have iy : c + 1 <= size := by
  have h1 := (List.getElem?_eq_some_iff.1 lK).1
  have h2 := hz _ (List.mem_of_getElem? lX)
  omega
 have bP := zY size c [D.sl n (s.set k (place (s.getD k []) q ds))] (by simpa using iy) rows i _ lX hz
 have cE : i * size + c + [D.sl n (s.set k (place (s.getD k []) q ds))].length <= rows.flatten.length := by rw [<- cj]; simp; omega
 have g5 : (rows.getD i []).length = size := hz _ (List.mem_of_getElem? lX)
 have hZ : ∀ r ∈ rows.set i (place (rows.getD i []) c [D.sl n (s.set k (place (s.getD k []) q ds))]), r.length = size := by
  intro r' lp
  rcases List.mem_or_eq_of_mem_set lp with lp | lp
  ·exact hz r' lp
  ·rw [lp, XX _ _ _ (by rw [g5]; simpa using iy), g5]
 have lS : ∀ b', b' ≠ g -> (w.setRow g (place cur.toList (k * n + q) (a.eval y).cells.toList).toArray).heap[b']? = w.heap[b']? := fun b' lD => setRow_other w g b' _ lD
 have iB : ∀ b, blk (h t j).v = some b -> (w.setRow g (place cur.toList (k * n + q) (a.eval y).cells.toList).toArray).heap[b]? = w.heap[b]? := fun b hb => lS b (fun e => (o2 _ g bX).2 (by rw [<- e]; exact hb))
 unfold Oper.wp
 simp only [execOp, lB, he, Sem.run_bind, lT, Result.andThen_ok, Sem.run_pure, Oper.upon_skip, hd]
 refine hK _ _ ⟨X, _, r1.change (by rw [gN]; simp) (by simp [World.setRow]) (fun k' fU => lS k' (fun e => fU (e ▸ cg g bX))) (JI σ h L) (fun b' lM => lY b' lM) _ (by rw [gN]; simp [Ob.wN])
  ⟨(h t j).v, (h t j).n, fun b' => (h t j).u b' \/ JI σ h L b'⟩ rfl (fun b' lM => lM) (fun b' lM => .inl (r.ub t j b' lV lM)) (fun _ => false) (St.xF _) (.inr rfl) ?_⟩ (Y7.setRow hgB.1 _)
 refine ⟨e, vs, by rw [List.length_set]; exact yg iB gA, hZ, ⟨?_, fun k' => if k' = i * size + c then (fun b => Sk (i * size + c) b \/ JI σ h L b) else Sk k', fun k' x dd hx ic => ?_, fun k' b hb => ?_, fun p' q' b hp hq => ?_⟩, fun k' x dd hx ic iK => ?_⟩
 ·rw [bP, XX _ _ _ cE, cj]
 ·rw [bP] at ic
  rcases xf _ _ _ cE k' dd ic with ⟨k1, k2, k3⟩ | ⟨k1, k3⟩
  ·have fU : k' = i * size + c := by simp at k2; omega
   subst fU
   rw [eJ] at hx; cases hx
   simp at k3; subst k3
   simp only [if_true]; exact ib
  ·have fU : ¬ k' = i * size + c := fun fU => k1 ⟨by omega, by simp; omega⟩
   simp only [fU, if_false]
   exact (o1 k' x dd hx k3).Tz (fun b hb => lS b (fun e => fU (o3 k' _ b hb (by rw [e]; exact bX))))
 ·by_cases fU : k' = i * size + c
  ·simp only [fU, if_true] at hb
   rcases hb with hb | hb
   ·exact ⟨.inl (o2 _ b hb).1, (o2 _ b hb).2⟩
   ·exact ⟨.inr hb, fun e => iv b (r.ub t j b lV e) hb⟩
  ·simp only [fU, if_false] at hb; exact ⟨.inl (o2 k' b hb).1, (o2 k' b hb).2⟩
 ·by_cases fN : p' = i * size + c
  ·by_cases fF : q' = i * size + c
   ·rw [fN, fF]
   ·simp only [fN, if_true] at hp
    simp only [fF, if_false] at hq
    rcases hp with hp | hp
    ·rw [fN]; exact (o3 _ _ b hp hq)
    ·exact (iv b (o2 q' b hq).1 hp).elim
  ·simp only [fN, if_false] at hp
   by_cases fF : q' = i * size + c
   ·simp only [fF, if_true] at hq
    rcases hq with hq | hq
    ·rw [fF]; exact (o3 _ _ b hp hq)
    ·exact (iv b (o2 p' b hp).1 hq).elim
   ·simp only [fF, if_false] at hq; exact o3 p' q' b hp hq
 ·rw [bP] at ic
  rcases xf _ _ _ cE k' dd ic with ⟨k1, k2, k3⟩ | ⟨k1, k3⟩
  ·have fU : k' = i * size + c := by simp at k2; omega
   subst fU
   rw [eJ] at hx; cases hx; exact ab
  ·exact hn k' x dd hx k3 iK
end
theorem Rb {α β : Type} (f : α -> β) (l : List α) (k : Nat) : cut (l.map f) k (l.length - k) = (l.drop k).map f := by
 unfold cut
 rw [<- List.map_drop, <- List.map_take, List.take_of_length_le (by rw [List.length_drop]; exact Nat.le_refl _)]
def hol : D -> D
 | .sl _ _ => .unk
 | d => d
def JY (rows : List (List D)) (lo n : Nat) : List (List D) := rows.take lo ++ (cut rows lo n).map (fun r => r.map hol) ++ rows.drop (lo + n)
theorem xB {rows : List (List D)} {lo n : Nat} (h : lo + n <= rows.length) : (JY rows lo n).length = rows.length := by
 simp only [JY, List.length_append, List.length_map, List.length_take, List.length_drop, XH _ _ _ h]; omega
theorem LK {rows : List (List D)} {lo n eC n' : Nat} (h : lo + n <= rows.length) (h' : lo + n <= eC) : cut (JY rows lo n) eC n' = cut rows eC n' := by
 unfold cut
 congr 1
 have hl : (rows.take lo ++ (cut rows lo n).map (fun r => r.map hol)).length = lo + n := by
  simp only [List.length_append, List.length_map, List.length_take, XH _ _ _ h]; omega
 unfold JY
 rw [List.drop_append, List.drop_eq_nil_of_le (by omega), hl, List.drop_drop, List.nil_append]
 congr 1
 omega
section
variable {P : Program} {T0 : CS} {B : Nat -> Prop} {σ : St} {a : Act} {w w' : World} {X X' : Nat -> Prop} {h : Nat -> Nat -> Hd}
theorem Own.ry {v : Value} {d : D} {S S' : Nat -> Prop} (hs : d.scalar = true) (ho : Own w v d S) : Own w v d S' := by
 cases ho with
 | int k n => exact .int _ _ _
 | bool b => exact .bool _ _
 | str s => exact .str _ _
 | unk v h => exact .unk _ h _
 | sl => cases hs
theorem Own.hol {v : Value} {d : D} {S S' : Nat -> Prop} (ho : Own w v d S) : Own w v (Vm.hol d) S' := by
 cases d with
 | sl s r => exact .unk _ ho.Xy _
 | int k n => exact ho.ry rfl
 | bool b => exact ho.ry rfl
 | str s => exact ho.ry rfl
 | unk => exact ho.ry rfl
theorem wM (d : D) : (hol d).scalar = true := by cases d <;> rfl
theorem LJ {rows : List (List D)} {size lo n : Nat} (hz : ∀ r ∈ rows, r.length = size) (hle : lo + n <= rows.length) {k : Nat} {d : D} (hd : (JY rows lo n).flatten[k]? = some d) :
  (lo * size <= k /\ k < lo * size + n * size /\ ∃ d', rows.flatten[k]? = some d' /\ d = hol d') \/ (¬ (lo * size <= k /\ k < lo * size + n * size) /\ rows.flatten[k]? = some d) := by
 have iV : rows.flatten.length = rows.length * size := YQ rows size hz
 have hm : lo * size + n * size <= rows.length * size := by rw [<- Nat.add_mul]; exact Nat.mul_le_mul_right _ hle
 have e1 : (rows.take lo).flatten = rows.flatten.take (lo * size) := qE rows size hz lo (by omega)
 have e2 : ((cut rows lo n).map (fun r => r.map hol)).flatten = (cut rows.flatten (lo * size) (n * size)).map hol := by
  rw [<- RK rows size hz lo n hle, List.map_flatten]
 have l1 : ((rows.take lo).flatten).length = lo * size := by rw [e1, List.length_take]; omega
 have l2 : (((cut rows lo n).map (fun r => r.map hol)).flatten).length = n * size := by rw [e2, List.length_map, XH _ _ _ (by omega)]
 unfold JY at hd
 rw [List.flatten_append, List.flatten_append] at hd
 by_cases h1 : k < lo * size + n * size
 ·rw [List.getElem?_append_left (by rw [List.length_append, l1, l2]; exact h1)] at hd
  by_cases h0 : k < lo * size
  ·rw [List.getElem?_append_left (by rw [l1]; exact h0), e1, List.getElem?_take, if_pos h0] at hd
   exact .inr ⟨by omega, hd⟩
  ·rw [List.getElem?_append_right (by rw [l1]; omega), l1, e2, List.getElem?_map] at hd
   cases hc : (cut rows.flatten (lo * size) (n * size))[k - lo * size]? with
   | none => rw [hc] at hd; cases hd
   | some d' =>
    rw [hc] at hd
    have := yI _ _ _ _ _ hc
    rw [show lo * size + (k - lo * size) = k by omega] at this
    exact .inl ⟨by omega, h1, d', this, (by cases hd; rfl)⟩
 ·rw [List.getElem?_append_right (by rw [List.length_append, l1, l2]; omega), List.length_append, l1, l2] at hd
  have e3 : (rows.drop (lo + n)).flatten = rows.flatten.drop (lo * size + n * size) := by
   have h2 : (rows.take (lo + n)).flatten ++ (rows.drop (lo + n)).flatten = rows.flatten := by rw [<- List.flatten_append, List.take_append_drop]
   have h3 : (rows.take (lo + n)).flatten.length = lo * size + n * size := by rw [qE rows size hz (lo + n) hle, List.length_take, Nat.add_mul]; omega
   rw [<- h2, <- h3, List.drop_left]
  rw [e3, List.getElem?_drop, show lo * size + n * size + (k - (lo * size + n * size)) = k by omega] at hd
  exact .inr ⟨by omega, hd⟩
theorem Rel.rC (r : Rel T0 B σ a w X h) {u j size lo n : Nat} {rows : List (List D)} (ho : σ.ob u j = .arr true size rows) (hle : lo + n <= rows.length) :
  ∃ (h' : Nat -> Nat -> Hd) (M : Nat -> Prop) (e : TypeId) (zs : List Value), Rel T0 B (σ.Z7 u j (.arr true size (JY rows lo n))) a w X h' /\
   (∀ b, M b -> ¬ B b /\ ¬ X b /\ b < w.heap.size /\ ∀ t i, (σ.Z7 u j (.arr true size (JY rows lo n))).ob t i ≠ .none -> ¬ (h' t i).u b) /\ (∀ t i, (h' t i).v = (h t i).v) /\
   w.ownsRow 0 e size (h u j).v rows.length zs /\ (∀ q ∈ rows, q.length = size) /\ Jo w (cut zs (lo * size) (n * size)) (cut rows lo n).flatten M /\ (∀ v ∈ zs, v.oneCell' = true) := by
 have lV : σ.ob u j ≠ .none := by rw [ho]; simp
 have h0 := r.obj u j
 rw [ho] at h0
 obtain ⟨e, zs, gA, hz, ⟨cj, Sk, o1, o2, o3⟩, hn⟩ := h0
 have iV : rows.flatten.length = rows.length * size := YQ rows size hz
 have hm : lo * size + n * size <= rows.length * size := by rw [<- Nat.add_mul]; exact Nat.mul_le_mul_right _ hle
 let M : Nat -> Prop := fun b => ∃ k, lo * size <= k /\ k < lo * size + n * size /\ Sk k b
 let lQ : Hd := ⟨(h u j).v, (h u j).n, fun b => (h u j).u b /\ ¬ M b⟩
 have hMu : ∀ b, M b -> (h u j).u b /\ blk (h u j).v ≠ some b := fun b ⟨k, _, _, hk⟩ => o2 k b hk
 have hZ : ∀ q ∈ JY rows lo n, q.length = size := by
  intro q hq
  simp only [JY, List.mem_append, List.mem_map] at hq
  rcases hq with (hq | ⟨q', hq, rfl⟩) | hq
  ·exact hz q (List.mem_of_mem_take hq)
  ·rw [List.length_map]; exact hz q' (List.mem_of_mem_drop (List.mem_of_mem_take hq))
  ·exact hz q (List.mem_of_mem_drop hq)
 have hr := r.change (w' := w) lV rfl (fun _ _ => rfl) (fun _ => False) (fun _ hh => hh.elim) (.arr true size (JY rows lo n)) (by rw [ho]; exact ⟨rfl, rfl, (xB hle).symm⟩) lQ rfl (fun b hb => .inl hb.1)
  (fun b hb => ⟨r.ub u j b lV hb, fun lM => (hMu b lM).2 hb⟩) (fun _ => false) (St.xF σ) (.inr rfl) (by
   refine ⟨e, zs, by rw [xB hle]; exact gA, hZ, ⟨?_, fun k => if lo * size <= k /\ k < lo * size + n * size then (fun _ => False) else Sk k, fun k x d hx hd => ?_, fun k b hb => ?_, fun k k' b hb lM => ?_⟩, fun k x d hx hd iK => ?_⟩
   ·rw [cj, YQ _ size hZ, xB hle, iV]
   ·rcases LJ hz hle hd with ⟨h1, h2, d', h3, rfl⟩ | ⟨h1, h2⟩
    ·exact (o1 k x d' hx h3).hol
    ·simp only [h1, if_false]; exact o1 k x d hx h2
   ·dsimp only at hb
    split at hb
    ·exact hb.elim
    ·rename_i hk
     refine ⟨⟨(o2 k b hb).1, fun ⟨k', h1, h2, h3⟩ => ?_⟩, (o2 k b hb).2⟩
     have := o3 k k' b hb h3
     subst this
     exact hk ⟨h1, h2⟩
   ·dsimp only at hb lM
    split at hb
    ·exact hb.elim
    ·split at lM
     ·exact lM.elim
     ·exact o3 k k' b hb lM
   ·rcases LJ hz hle hd with ⟨h1, h2, d', h3, rfl⟩ | ⟨h1, h2⟩
    ·rw [wM] at iK; cases iK
    ·exact hn k x d hx h2 iK)
 have hfc : (cut rows lo n).flatten = cut rows.flatten (lo * size) (n * size) := RK rows size hz lo n hle
 refine ⟨_, M, e, zs, hr, fun b hb => ?_, fun t i => ?_, gA, hz, ?_, fun v hv => ?_⟩
 ·have h1 := r.own u j b lV (hMu b hb).1
  refine ⟨h1.1, h1.2.1, h1.2.2, fun t i lD lM => ?_⟩
  split at lM
  ·exact lM.2 hb
  ·rename_i hc
   have ld : σ.ob t i ≠ .none := by
    rw [St.JH σ u j _ t i lV, if_neg hc] at lD; exact lD
   exact hc (r.inj t i u j b ld lV lM (hMu b hb).1)
 ·split
  ·rename_i hc; rw [hc.1, hc.2]
  ·rfl
 ·rw [hfc]
  have lr : (cut zs (lo * size) (n * size)).length = n * size := XH _ _ _ (by rw [cj, iV]; exact hm)
  refine ⟨by rw [lr, XH _ _ _ (by rw [iV]; exact hm)], fun k b => k < n * size /\ Sk (lo * size + k) b, fun k x d hx hd => ?_, fun k b hb => ⟨lo * size + k, by omega, by omega, hb.2⟩, fun i k b hi hk => by have := o3 _ _ b hi.2 hk.2; omega⟩
  have hk : k < n * size := by rw [<- lr]; exact (List.getElem?_eq_some_iff.1 hx).1
  exact (o1 _ x d (yI _ _ _ _ _ hx) (yI _ _ _ _ _ hd)).mono (fun b hb => ⟨hk, hb⟩)
 ·obtain ⟨k, hk⟩ := List.mem_iff_getElem?.1 hv
  have lN : k < rows.flatten.length := by rw [<- cj]; exact (List.getElem?_eq_some_iff.1 hk).1
  exact (o1 k v _ hk (List.getElem?_eq_getElem lN)).Xy
def B1 (σ : St) (x : V) (size : Nat) (lC : List (List D)) (l : List (Nat × Nat)) : Prop :=
 match x with
 | .one (.nil _) => lC = [] /\ l = []
 | .one (.sref t j lo len) => lo = 0 /\ len = lC.length /\ l = [(t, j)] /\ (σ.ob t j = .arr true size lC \/ (σ.ob t j = .lit size [] /\ lC = []))
 | _ => False
theorem EZ (r : Rel T0 B σ a w X h) {o : Oper} {t : TypeId} {x y : Operand} {d u j lo n : Nat} {rows lC : List (List D)} {l1 : List (Nat × Nat)} (lB : o.op = .call ⟨.builtin .append, #[x, y], #[t, t]⟩) (hd : o.dst = some d)
  (gw : gOf (look P σ t x) = true) (gx : gOf (look P σ t y) = true) (ht : XK P t = true) (hz : QF P (ZU P t) = true) (iI : 0 < P.cellsOf (ZU P t))
  (iX : B1 σ (unc (look P σ t x)) (P.cellsOf (ZU P t)) lC l1) (hy : unc (look P σ t y) = .one (.sref u j lo n)) (ho : σ.ob u j = .arr true (P.cellsOf (ZU P t)) rows) (hle : lo + n <= rows.length) (cy : (u, j) ∉ l1)
  (hH : ((σ.Z7 u j (.arr true (P.cellsOf (ZU P t)) (JY rows lo n))).Zx l1).fresh d = true)
  (l5 : (lC.length + n) * P.bytesOf (ZU P t) <= 140737488355328) (dG : lC.length + n <= 9223372036854775807)
  {K : Act -> World -> Prop} {Q : Exit -> Act -> World -> Prop} (hK : ∀ a' w', Ku T0 B (((σ.Z7 u j (.arr true (P.cellsOf (ZU P t)) (JY rows lo n))).Zx l1).new d (.one (.sref d 0 0 (lC.length + n))) [.arr true (P.cellsOf (ZU P t)) (lC ++ cut rows lo n)]) a' w' -> Y7 B w w' -> K a' w') : o.wp P a w K Q := by
 obtain ⟨ti, hu, hi, gT⟩ := QG ht
 obtain ⟨i, z, row, iw, fE, hP, gW, fJ, im, gJ⟩ := xK hz
 rw [hi] at iw; cases iw
 have dH : P.bytesOf (ZU P t) = ti.bytes := by simp [Program.bytesOf, hi]
 rw [dH] at l5
 rw [<- im] at ho iI hK hH iX
 have fX := r.arg (P := P) t x rfl gw
 have dh := r.arg (P := P) t y rfl gx
 rw [hy] at dh
 have bh : YK (Tof T0 X) h σ.ob w (.sref u j lo n) (a.eval y) := dh
 obtain ⟨_, _, _, base, cap, dL, iU, dY, ev, hb⟩ := bh.2.1 _ _ _ ho
 obtain ⟨h', M, e0, zs, r0, hM, gH, aj, gX, hD, h1c⟩ := r.rC ho hle
 have lV : σ.ob u j ≠ .none := by rw [ho]; simp
 generalize hσ1 : σ.Z7 u j (.arr true ti.size (JY rows lo n)) = σ1 at *
 have gN : ∀ t' i', ¬ (t' = u /\ i' = j) -> σ1.ob t' i' = σ.ob t' i' := fun t' i' lD => by rw [<- hσ1, St.JH σ u j _ t' i' lV, if_neg lD]
 have aq : zs.length = rows.length * ti.size := aj.1
 have bD : lo * ti.size + n * ti.size <= zs.length := by rw [aq, <- Nat.add_mul]; exact Nat.mul_le_mul_right _ hle
 generalize bg : cut zs (lo * ti.size) (n * ti.size) = ys at *
 have gE : ys.length = n * ti.size := by rw [<- bg]; exact XH _ _ _ bD
 have lr : (cut rows lo n).length = n := XH _ _ _ hle
 have bV : ∀ q ∈ cut rows lo n, q.length = ti.size := fun q hq => gX q (List.mem_of_mem_drop (List.mem_of_mem_take hq))
 have gL : ∃ e1 xs, w.ownsRow 0 e1 ti.size (a.eval x) lC.length xs /\ (∀ q ∈ lC, q.length = ti.size) /\ Jo w xs lC.flatten (fun b => JI σ1 h' l1 b /\ blk (a.eval x) ≠ some b) /\ (∀ b, blk (a.eval x) = some b -> JI σ1 h' l1 b) := by
  unfold B1 at iX
  split at iX
  ·rename_i s heq
   obtain ⟨rfl, rfl⟩ := iX
   rw [heq] at fX
   have he : a.eval x = .slice none 0 0 := fX
   rw [he]
   exact ⟨0, [], World.ownsRow_nil w 0 0 _, (by intro q hq; cases hq), Jo.nil _, (fun b hb => by cases hb)⟩
  ·rename_i u2 j2 lo2 aV heq
   obtain ⟨rfl, rfl, rfl, gk⟩ := iX
   rw [heq] at fX
   have fY : YK (Tof T0 X) h σ.ob w (.sref u2 j2 0 lC.length) (a.eval x) := fX
   have lD : ¬ (u2 = u /\ j2 = j) := fun hc => cy (by rw [hc.1, hc.2]; simp)
   have h0 := r0.obj u2 j2
   rw [gN u2 j2 lD] at h0
   rcases gk with gk | ⟨gk, rfl⟩
   ·obtain ⟨_, iN, _⟩ := fY.2.1 _ _ _ gk
    have he : a.eval x = (h' u2 j2).v := by rw [gH]; exact iN rfl rfl
    rw [gk] at h0
    obtain ⟨e, xs, lG, bE, lE, hn⟩ := h0
    have eV : σ1.ob u2 j2 ≠ .none := by rw [gN u2 j2 lD, gk]; simp
    rw [he]
    exact ⟨e, xs, lG, bE, lE.mono (fun b hb => ⟨⟨(u2, j2), by simp, eV, hb.1⟩, hb.2⟩), fun b hb => ⟨(u2, j2), by simp, eV, r0.ub u2 j2 b eV hb⟩⟩
   ·obtain ⟨_, iN, _⟩ := fY.2.2 _ _ gk
    have he : a.eval x = (h' u2 j2).v := by rw [gH]; exact iN rfl rfl
    rw [gk] at h0
    obtain ⟨e, xs, lG, bE, lE⟩ := h0
    have eV : σ1.ob u2 j2 ≠ .none := by rw [gN u2 j2 lD, gk]; simp
    have hxs : xs = [] := by cases lE; rfl
    subst hxs
    rw [he]
    exact ⟨e, [], lG, (by intro q hq; cases hq), Jo.nil _, fun b hb => ⟨(u2, j2), by simp, eV, r0.ub u2 j2 b eV hb⟩⟩
  ·exact iX.elim
 obtain ⟨e1, xs, lG, ah, dJ, iZ⟩ := gL
 have fu : ∀ q ∈ lC ++ cut rows lo n, q.length = ti.size := by
  intro q hq
  rcases List.mem_append.1 hq with hq | hq
  ·exact ah q hq
  ·exact bV q hq
 have iv : ∀ b, JI σ1 h' l1 b -> M b -> False := by
  rintro b ⟨p, hp, lD, iP⟩ hb
  exact (hM b hb).2.2.2 p.1 p.2 lD iP
 have r1 := r0.Zx l1
 have lY := r0.yN l1
 have lN := St.yY hH
 let N : Nat -> Prop := fun b => JI σ1 h' l1 b \/ M b
 have hN : ∀ b, N b -> ¬ B b /\ ¬ X b /\ b < w.heap.size /\ ∀ u' i', (σ1.Zx l1).ob u' i' ≠ .none -> ¬ (h' u' i').u b := by
  rintro b (hb | hb)
  ·exact lY b hb
  ·obtain ⟨q1, q2, q3, q4⟩ := hM b hb
   refine ⟨q1, q2, q3, fun u' i' lD => q4 u' i' ?_⟩
   rw [St.Kl] at lD
   split at lD
   ·exact absurd rfl lD
   ·exact lD
 have key : ∀ (v' : Value) (w' : World) (e2 : TypeId), (Builtin.append_ #[t, t] o.type #[a.eval x, a.eval y]).run P w = .ok v' w' -> w'.ownsRow 0 e2 ti.size v' (lC.length + n) (xs ++ ys) ->
   w.grownBy w' (blk (a.eval x)) -> (∀ b, blk v' = some b -> (w.heap.size <= b /\ b < w'.heap.size) \/ blk (a.eval x) = some b) -> o.wp P a w K Q := by
  intro v' w' e2 lT lU iC fK
  unfold Oper.wp
  have gY : (execOp a.eval o).run P w = .ok (.value v') w' := by
   simp only [execOp, lB, resolve, invoke, builtin, Sem.run_bind, Sem.run_pure, Result.andThen_ok, List.map_toArray, List.map_cons, List.map_nil, lT]
  rw [gY, Oper.upon_value, hd]
  refine hK _ _ ⟨X, fun u' j' => if u' = d then ⟨v', fun k => ((xs ++ ys)[k]?).getD undef, fun b => blk v' = some b \/ (N b /\ blk (a.eval x) ≠ some b)⟩ else h' u' j', ?_⟩
   ⟨iC.os, iC.tape, iC.output, iC.size, fun k hk => iC.block k (r.hB k hk) (fun e => (hN k (.inl (iZ k e.symm))).1 hk)⟩
  have iH : ((σ1.Zx l1).new d (.one (.sref d 0 0 (lC.length + n))) [.arr true ti.size (lC ++ cut rows lo n)]).ob d 0 = .arr true ti.size (lC ++ cut rows lo n) := by rw [St.Ko]; simp [lN, Yr]
  have hC : (lC ++ cut rows lo n).length = lC.length + n := by rw [List.length_append, lr]
  have iY : w'.ownsRow 0 e2 ti.size v' (lC ++ cut rows lo n).length (xs ++ ys) := by rw [hC]; exact lU
  have lS : ∀ b, blk (a.eval x) ≠ some b -> b < w.heap.size -> w'.heap[b]? = w.heap[b]? := fun b hb hl => iC.block b hl (fun e => hb e.symm)
  have aw : Jo w' (xs ++ ys) (lC ++ cut rows lo n).flatten (fun b => (blk v' = some b \/ (N b /\ blk (a.eval x) ≠ some b)) /\ blk v' ≠ some b) := by
   rw [List.flatten_append]
   have h1 : Jo w' xs lC.flatten (fun b => JI σ1 h' l1 b /\ blk (a.eval x) ≠ some b) := dJ.Tz (fun b hb => lS b hb.2 (lY b hb.1).2.2.1)
   have fq : ∀ b, M b -> blk (a.eval x) ≠ some b := fun b hb e => iv b (iZ b e) hb
   have h2 : Jo w' ys (cut rows lo n).flatten M := hD.Tz (fun b hb => lS b (fq b hb) (hM b hb).2.2.1)
   refine (h1.append h2 (fun b iz iJ => iv b iz.1 iJ)).mono (fun b hb => ?_)
   have hg : N b /\ blk (a.eval x) ≠ some b := by
    rcases hb with hb | hb
    ·exact ⟨.inl hb.1, hb.2⟩
    ·exact ⟨.inr hb, fq b hb⟩
   refine ⟨.inr hg, fun e => ?_⟩
   rcases fK b e with hl | hl
   ·have := (hN b hg.1).2.2.1; omega
   ·exact hg.2 hl
  refine r1.tY hH N iC.size (fun k hk lD => iC.block k hk (fun e => lD (.inl (iZ k e.symm)))) (fun b hb => ⟨(hN b hb).1, (hN b hb).2.1, fun u' j' _ lD => (hN b hb).2.2.2 u' j' lD⟩) (fun _ hb => hb) (fun _ hb => .inl hb) _ _ [.arr true ti.size (lC ++ cut rows lo n)]
   (fun _ => ⟨v', fun k => ((xs ++ ys)[k]?).getD undef, fun b => blk v' = some b \/ (N b /\ blk (a.eval x) ≠ some b)⟩) ?_ (fun j' => ?_) (fun j' b _ hb => .inl hb) (fun j' b lD lM => ?_) (fun j1 j2 b lD ld _ _ => ?_)
  ·refine ⟨KO lU, fun q' lW lF hh => ?_, fun lW lF hh => by rw [iH] at hh; cases hh⟩
   rw [iH] at hh; cases hh
   simp only [if_true]
   have := UD iY
   rw [hC] at this ⊢
   exact this
  ·cases j' with
   | zero => exact ⟨e2, xs ++ ys, iY, fu, aw, fun k x d hx _ _ => by simp [hx]⟩
   | succ j' => simp [Yr, zR]
  ·rcases lM with lM | lM
   ·rcases fK b lM with h1 | h1
    ·exact ⟨.inl h1.1, fun hx => by have := (r.hX b hx).2; omega, h1.2⟩
    ·have h3 : N b := .inl (iZ b h1)
     have h2 := hN b h3
     exact ⟨.inr h3, h2.2.1, by have := iC.size; omega⟩
   ·have h2 := hN b lM.1
    exact ⟨.inr lM.1, h2.2.1, by have := iC.size; omega⟩
  ·have : ∀ j, Yr [Ob.arr true ti.size (lC ++ cut rows lo n)] j ≠ .none -> j = 0 := by
    intro j hj
    cases j with
    | zero => rfl
    | succ j => simp [Yr] at hj
   rw [this j1 lD, this j2 ld]
 cases base with
 | none =>
  have bw := ev rfl
  subst bw
  have hn0 : n = 0 := by omega
  subst hn0
  have hys0 : ys = [] := List.eq_nil_of_length_eq_zero (by rw [gE]; simp)
  have lk : ∃ base cap, a.eval x = .slice base lC.length cap /\ lC.length <= cap /\ (base = none -> cap = 0) := by
   rcases lG.2 with ⟨h1, h2⟩ | ⟨g, cap, cur, h1, _, _, ij, _⟩
   ·exact ⟨none, 0, by rw [h1, h2], by omega, fun _ => rfl⟩
   ·exact ⟨_, cap, h1, ij, (fun hh => by cases hh)⟩
  obtain ⟨base, cap, hex, ij, cJ⟩ := lk
  refine key (a.eval x) w e1 ?_ (by rw [hys0]; simpa using lG) ⟨rfl, rfl, rfl, Nat.le_refl _, fun _ _ _ => rfl⟩ (fun b hb => .inr hb)
  rw [dL, hex]
  exact yL t o.type _ ti hu hi base lC.length cap ij cJ
 | some ad =>
  have lK : ∀ k v, ys[k]? = some v -> w.cell? (ad.add k) = some v := by
   intro k v hv
   have gF : 0 < n := by
    rcases Nat.eq_zero_or_pos n with h0 | h0
    ·have hk := (List.getElem?_eq_some_iff.1 hv).1
     rw [gE, h0] at hk
     simp at hk
    ·exact h0
   obtain ⟨b, fG, hh, gU⟩ := hb gF
   cases gU
   rcases aj.2 with ⟨bY, _⟩ | ⟨g, eU, cur, gH, _, bQ, ij, gD, iy, gO⟩
   ·rw [hh] at bY; cases bY
   ·rw [hh] at gH; cases gH
    rw [<- bg] at hv
    have h1 := yI _ _ _ _ _ hv
    rw [xG]
    refine zj bQ _ _ ?_
    rw [<- gO, List.getElem?_take] at h1
    split at h1
    ·exact h1
    ·cases h1
  have h1y : ∀ v ∈ ys, v.oneCell' = true := fun v hv => h1c v (by rw [<- bg] at hv; exact List.mem_of_mem_drop (List.mem_of_mem_take hv))
  obtain ⟨v', w', e2, lT, lU, iC, fK⟩ := jl (P := P) (w := w) t o.type _ e1 ti z hu hi fE fJ (by omega) (a.eval x) lC.length xs lG ad n cap ys gE lK h1y (by simp only [maxLen]; omega) l5
  refine key v' w' e2 ?_ lU iC fK
  rw [dL]; exact lT
end
def pR (w : World) (res : List (List D)) (e : Ending) (w' : World) : Prop :=
 ∃ (vs : List Value) (lf : List (List Value)), e = .returned (M8 vs) /\ Below w.heap.size w w' /\ YA Kr vs lf /\ YA (fun (cs : List Value) (row : List D) => cs.length = row.length) lf res /\
  Jo w' lf.flatten res.flatten (fun b => w.heap.size <= b /\ b < w'.heap.size)
def Yv (P : Program) (f : FuncId) (args res : List (List D)) : Prop :=
 MP P f = true /\ ∀ (T : CS) (w : World) (lu : List Value), (∀ b k, T b k -> b < w.heap.size) -> YA (fun v row => ∃ cs, Kr v cs /\ YA (Rd T w) cs row) lu args -> Calls P f lu.toArray w (pR w res)
theorem kV {α β : Type} {R : α -> β -> Prop} : ∀ {lf : List (List α)} {res : List (List β)}, YA (fun (cs : List α) (row : List β) => cs.length = row.length) lf res -> (∀ (k : Nat) (x : α) (d : β), lf.flatten[k]? = some x -> res.flatten[k]? = some d -> R x d) -> YA (fun cs row => YA R cs row) lf res := by
 intro lf res lE
 induction lE with
 | nil => intro _; exact .nil
 | @cons cs row lf res hl _ ih =>
  intro hk
  refine .cons (YA.jf hl (fun k x d hx hd => hk k x d ?_ ?_)) (ih (fun k x d hx hd => hk (cs.length + k) x d ?_ ?_))
  ·rw [List.flatten_cons, List.getElem?_append_left (List.getElem?_eq_some_iff.1 hx).1]; exact hx
  ·rw [List.flatten_cons, List.getElem?_append_left (List.getElem?_eq_some_iff.1 hd).1]; exact hd
  ·rw [List.flatten_cons, List.getElem?_append_right (by omega)]; simpa using hx
  ·rw [List.flatten_cons, List.getElem?_append_right (by omega), hl]; simpa using hd
theorem Yv.rd {P : Program} {f : FuncId} {args res : List (List D)} (hs : Yv P f args res) : Qz P f false args res := by
 refine ⟨hs.1, fun T w lu hT ha => (hs.2 T w lu hT ha).mono ?_⟩
 rintro e w' ⟨vs, lf, he, hb, hf, hl, ⟨_, Sk, h1, h2, h3⟩⟩
 refine ⟨vs, lf, fun b => w.heap.size <= b /\ b < w'.heap.size, he, hb, fun b hb => hb, hf, kV hl (fun k x d hx hd => ?_), fun hh => by cases hh⟩
 simp only [xg, Bool.false_eq_true, if_false]
 exact (h1 k x d hx hd).rd (fun b k' hb => .inr (h2 k b hb))
def YO : List Bool -> List D -> List Ob
 | _, [] => []
 | q :: qs, .sl size rows :: ds => .arr q size rows :: YO qs ds
 | [], .sl size rows :: ds => .arr true size rows :: YO [] ds
 | qs, _ :: ds => .none :: YO qs.tail ds
def TH : List Bool -> List D -> Prop
 | _, [] => True
 | q :: qs, .sl _ rows :: ds => (q = false -> ∀ r ∈ rows, ∀ x ∈ r, x.scalar = true) /\ TH qs ds
 | [], .sl _ _ :: ds => TH [] ds
 | qs, _ :: ds => TH qs.tail ds
theorem JF : ∀ (qs : List Bool) (ds : List D) (k : Nat), TH qs ds -> (∀ size rows, ds[k]? = some (.sl size rows) -> ∃ q, Yr (YO qs ds) k = .arr q size rows /\ (q = false -> ∀ r ∈ rows, ∀ x ∈ r, x.scalar = true)) /\ (Yr (YO qs ds) k ≠ .none -> ∃ size rows, ds[k]? = some (.sl size rows))
 | qs, [], k, _ => ⟨fun size rows h => by simp at h, fun h => by cases qs <;> simp [YO, Yr] at h⟩
 | q :: qs, .sl size rows :: ds, 0, hf => ⟨fun s r h => by simp at h; obtain ⟨rfl, rfl⟩ := h; exact ⟨q, by simp [YO, Yr], hf.1⟩, fun _ => ⟨size, rows, by simp⟩⟩
 | [], .sl size rows :: ds, 0, hf => ⟨fun s r h => by simp at h; obtain ⟨rfl, rfl⟩ := h; exact ⟨true, by simp [YO, Yr], fun h => by cases h⟩, fun _ => ⟨size, rows, by simp⟩⟩
 | qs, .int k n :: ds, 0, hf => ⟨fun s r h => by simp at h, fun h => by cases qs <;> simp [YO, Yr] at h⟩
 | qs, .bool b :: ds, 0, hf => ⟨fun s r h => by simp at h, fun h => by cases qs <;> simp [YO, Yr] at h⟩
 | qs, .str s :: ds, 0, hf => ⟨fun s r h => by simp at h, fun h => by cases qs <;> simp [YO, Yr] at h⟩
 | qs, .unk :: ds, 0, hf => ⟨fun s r h => by simp at h, fun h => by cases qs <;> simp [YO, Yr] at h⟩
 | q :: qs, .sl size rows :: ds, k + 1, hf => by
  have := JF qs ds k hf.2
  simpa [YO, Yr] using this
 | [], .sl size rows :: ds, k + 1, hf => by
  have := JF [] ds k hf
  simpa [YO, Yr] using this
 | qs, .int _ _ :: ds, k + 1, hf => by
  have := JF qs.tail ds k (by cases qs <;> exact hf)
  cases qs <;> simpa [YO, Yr] using this
 | qs, .bool _ :: ds, k + 1, hf => by
  have := JF qs.tail ds k (by cases qs <;> exact hf)
  cases qs <;> simpa [YO, Yr] using this
 | qs, .str _ :: ds, k + 1, hf => by
  have := JF qs.tail ds k (by cases qs <;> exact hf)
  cases qs <;> simpa [YO, Yr] using this
 | qs, .unk :: ds, k + 1, hf => by
  have := JF qs.tail ds k (by cases qs <;> exact hf)
  cases qs <;> simpa [YO, Yr] using this
section
variable {P : Program} {T0 : CS} {B : Nat -> Prop} {σ : St} {a : Act} {w w' : World} {X X' : Nat -> Prop} {h : Nat -> Nat -> Hd}
theorem AI (r : Rel T0 B σ a w X h) {o : Oper} {c : Call} {f : FuncId} {d : Nat} {rows res : List (List D)} (qs : List Bool) (lB : o.op = .call c) (hc : c.callee = .value (.func f)) (hd : o.dst = some d) (hH : σ.fresh d = true)
  (lH : Qp P σ c.args.toList c.argTypes.toList rows) (hs : Yv P f rows res) (hq : TH qs res.flatten)
  {K : Act -> World -> Prop} {Q : Exit -> Act -> World -> Prop} (hK : ∀ a' w', Ku T0 B (σ.new d (VS d res) (YO qs res.flatten)) a' w' -> Y7 B w w' -> K a' w') : o.wp P a w K Q := by
 have lN := St.yY hH
 unfold Oper.wp
 rw [W2 lB hc hs.1, Oper.upon_enter]
 have dO := r.Qp false lH (fun hh => by cases hh)
 simp only [Bool.false_eq_true, if_false] at dO
 refine (hs.2 (Pw T0 X h σ) w _ (fun b k hb => r.Cv hb) dO).mono ?_
 rintro e w' ⟨vs, lf, rfl, gI, lk, hlen, ⟨_, Sk, h1, h2, h3⟩⟩
 rw [hd]
 have hex : ∀ j, ∃ hd : Hd, (∀ c, lf.flatten[j]? = some c -> hd.v = c) /\ (∀ size rows, res.flatten[j]? = some (.sl size rows) -> (∀ b, hd.u b -> Sk j b) /\ (∀ b, blk hd.v = some b -> hd.u b) /\ ∀ T h ob, zR T h ob w' hd (.arr true size rows) /\ ((∀ r ∈ rows, ∀ x ∈ r, x.scalar = true) -> zR T h ob w' hd (.arr false size rows))) := by
  intro j
  have iV : lf.flatten.length = res.flatten.length := by
   have := kV (R := fun _ _ => True) hlen (fun _ _ _ _ _ => trivial)
   exact (jx this).length
  cases hj : res.flatten[j]? with
  | none => exact ⟨Hd.of ((lf.flatten[j]?).getD undef), fun c lg => by simp [Hd.of, lg], fun size rows hh => by cases hh⟩
  | some dd =>
   have fk : j < lf.flatten.length := by rw [iV]; exact (List.getElem?_eq_some_iff.1 hj).1
   have eT : lf.flatten[j]? = some lf.flatten[j] := List.getElem?_eq_getElem fk
   cases dd with
   | int k n => exact ⟨Hd.of lf.flatten[j], fun c lg => by rw [eT] at lg; cases lg; rfl, fun size rows hh => by cases hh⟩
   | bool k => exact ⟨Hd.of lf.flatten[j], fun c lg => by rw [eT] at lg; cases lg; rfl, fun size rows hh => by cases hh⟩
   | str k => exact ⟨Hd.of lf.flatten[j], fun c lg => by rw [eT] at lg; cases lg; rfl, fun size rows hh => by cases hh⟩
   | unk => exact ⟨Hd.of lf.flatten[j], fun c lg => by rw [eT] at lg; cases lg; rfl, fun size rows hh => by cases hh⟩
   | sl size rows =>
    have ho := h1 j _ _ eT hj
    generalize hv : lf.flatten[j] = v at ho
    cases ho with
    | sl v size rows S e xs da ho hz hb hl hk gS lQ =>
     refine ⟨⟨v, fun k => (xs[k]?).getD undef, Sk j⟩, fun c lg => by rw [eT, hv] at lg; cases lg; rfl, fun lW lF hh => ?_⟩
     cases hh
     refine ⟨fun b hb => hb, hb, fun T h ob => ⟨⟨e, xs, ho, hz, ⟨hl, da, hk, fun k b hb => gS k b hb, lQ⟩, fun k x d hx _ _ => by simp [hx]⟩, fun iA => ⟨e, xs, ho, hz, YA.jf hl (fun k x d hx hd => ?_)⟩⟩⟩
     obtain ⟨r0, g4, hdr⟩ := List.mem_flatten.1 (List.mem_of_getElem? hd)
     have iK := iA r0 g4 d hdr
     have := hk k x d hx hd
     cases this with
     | int k n => exact .int _ _
     | bool b => exact .bool _
     | str s => exact .str _
     | unk v h => exact .unk _ h
     | sl => cases iK
 obtain ⟨hf, ee⟩ := Classical.axiomOfChoice hex
 refine hK _ _ ⟨X, fun t j => if t = d then hf j else h t j, ?_⟩ (Y7.Ha gI r.hB)
 have lV : ∀ j, (σ.new d (VS d res) (YO qs res.flatten)).ob d j = Yr (YO qs res.flatten) j := fun j => by rw [St.Ko]; simp [lN]
 have gV : YA (fun cs row => YA (Wj (Tof T0 X) w') cs row) lf res := by
  refine kV hlen (fun k x d hx hd => ?_)
  have ho := h1 k x d hx hd
  cases ho with
  | int k n => exact Rd.int _ _
  | bool b => exact Rd.bool _
  | str s => exact Rd.str _
  | unk v h => exact Rd.unk _ h
  | sl v size rows S e xs da ho hz hb hl hk gS lQ => exact ⟨e, xs, ho⟩
 refine r.new hH (Below.grownBy gI) (fun b hb => hb) (fun b hb => .inl hb) (VS d res) (M8 vs) (YO qs res.flatten) hf ?_ (fun j => ?_) (fun j b lD hb => ?_) (fun j b lD hb => ?_) (fun j j' b lD ld hb lM => ?_)
 ·exact Ax (h := fun t j => if t = d then hf j else h t j) (ob := (σ.new d (VS d res) (YO qs res.flatten)).ob) (t := d) lk gV (fun i size rows hi => by
   obtain ⟨q, fF, _⟩ := (JF qs res.flatten i hq).1 size rows hi
   exact ⟨q, by rw [lV]; exact fF⟩) (fun i c hi => by simp only [if_true]; exact (ee i).1 c hi)
 ·by_cases lD : Yr (YO qs res.flatten) j = .none
  ·rw [lD]; trivial
  ·obtain ⟨size, rows, hj⟩ := (JF qs res.flatten j hq).2 lD
   obtain ⟨q, fF, hqf⟩ := (JF qs res.flatten j hq).1 size rows hj
   rw [fF]
   have := ((ee j).2 size rows hj).2.2 (Tof T0 X) (fun t j => if t = d then hf j else h t j) (σ.new d (VS d res) (YO qs res.flatten)).ob
   cases q with
   | true => exact this.1
   | false => exact this.2 (hqf rfl)
 ·obtain ⟨size, rows, hj⟩ := (JF qs res.flatten j hq).2 lD
  exact ((ee j).2 size rows hj).2.1 b hb
 ·obtain ⟨size, rows, hj⟩ := (JF qs res.flatten j hq).2 lD
  have := h2 j b (((ee j).2 size rows hj).1 b hb)
  exact ⟨this.1, fun hx => by have := (r.hX b hx).2; omega, this.2⟩
 ·obtain ⟨size, rows, hj⟩ := (JF qs res.flatten j hq).2 lD
  obtain ⟨lW, lF, gn⟩ := (JF qs res.flatten j' hq).2 ld
  exact h3 j j' b (((ee j).2 size rows hj).1 b hb) (((ee j').2 lW lF gn).1 b lM)
end
end Go.Vm
