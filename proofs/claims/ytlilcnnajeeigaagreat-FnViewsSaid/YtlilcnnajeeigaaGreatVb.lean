/- An abstract machine ON the model of Go, by value, and that it is sound: part Vb. No condition. -/
import Derived.Test.YtlilcnnajeeigaaGreatVa
set_option linter.unusedVariables false
set_option linter.unusedSimpArgs false
namespace Go.Vm
open Go.RowKit
section
variable {P : Program} {T0 : CS} {B : Nat -> Prop} {σ : St} {a : Act} {w w' : World} {X X' : Nat -> Prop} {h : Nat -> Nat -> Hd}
theorem Zr.FP {T T' : CS} {h h' : Nat -> Nat -> Hd} {ob vn : Nat -> Nat -> Ob} (hT : ∀ b k v, T b k -> w.cell? ⟨b, k, none⟩ = some v -> w'.cell? ⟨b, k, none⟩ = some v /\ T' b k) (hc : ∀ t j, Cpt h h' ob vn t j)
  {x : At} {v : Value} (r : Zr T h ob w x v) : Zr T' h' vn w' x v := by
 obtain ⟨d, hd⟩ : ∃ d, x.ref d = false := by
  cases x with
  | sref t j lo len => exact ⟨t + 1, by simp [At.ref]⟩
  | ptr t j i c => exact ⟨t + 1, by simp [At.ref]⟩
  | bptr t c => exact ⟨t + 1, by simp [At.ref]⟩
  | fn f t => exact ⟨t + 1, by simp [At.ref]⟩
  | tref t j i c o => exact ⟨t + 1, by simp [At.ref]⟩
  | any => exact ⟨0, rfl⟩
  | d x => exact ⟨0, rfl⟩
  | nil s => exact ⟨0, rfl⟩
  | rptr r c => exact ⟨0, rfl⟩
 exact Zr.carry hT (d := d) (fun t j _ => hc t j) hd r
def jz (p : At -> Bool) : List At -> Bool
 | [] => false
 | x :: xs => p x || jz p xs
def V.L3 (p : At -> Bool) : V -> Bool
 | .one x => p x
 | .agg xs => jz p xs
 | _ => false
def Nn (p : At -> Bool) : List V -> Bool
 | [] => false
 | x :: xs => x.L3 p || Nn p xs
def V.KO (p : At -> Bool) : V -> Bool
 | .tup xs => Nn p xs
 | .cnd _ x => x.L3 p
 | .fix _ x => x.L3 p
 | .one x => p x
 | .agg xs => jz p xs
 | .any => false
def Jf (p : At -> Bool) : List Ob -> Bool
 | [] => false
 | .box cells :: os => jz p cells || Jf p os
 | .lit _ rows :: os => jz p rows.flatten || Jf p os
 | _ :: os => Jf p os
def St.KO (p : At -> Bool) : St -> Bool
 | [] => false
 | e :: σ => e.1.KO p || Jf p e.2 || St.KO p σ
def At.isT (t : Nat) : At -> Bool
 | .tref u _ _ _ _ => u == t
 | _ => false
theorem yE : ∀ (xs : List At), jz (fun _ => false) xs = false
 | [] => rfl
 | _ :: xs => by simp [jz, yE xs]
theorem RE : ∀ (xs : List V), Nn (fun _ => false) xs = false
 | [] => rfl
 | x :: xs => by cases x <;> simp [Nn, V.L3, yE, RE xs]
theorem Iq (x : V) : x.L3 (fun _ => false) = false := by cases x <;> simp [V.L3, yE]
theorem zT (x : V) : x.KO (fun _ => false) = false := by cases x <;> simp [V.KO, yE, RE, Iq]
theorem qD : ∀ (os : List Ob), Jf (fun _ => false) os = false
 | [] => rfl
 | o :: os => by cases o <;> simp [Jf, yE, qD os]
theorem St.zT : ∀ (σ : St), St.KO (fun _ => false) σ = false
 | [] => rfl
 | e :: σ => by simp [St.KO, Go.Vm.zT, Go.Vm.qD, St.zT σ]
theorem St.Tr {p : At -> Bool} : ∀ {σ : St}, σ.KO p = false -> ∀ t, (σ.get t).KO p = false
 | [], _, t => by simp [St.get, V.KO]
 | e :: σ, h, 0 => by simp only [St.KO, Bool.or_eq_false_iff] at h; exact h.1.1
 | e :: σ, h, t + 1 => by
  simp only [St.KO, Bool.or_eq_false_iff] at h
  have := St.Tr h.2 t
  simpa [St.get] using this
theorem Ng {p : At -> Bool} : ∀ {os : List Ob}, Jf p os = false -> ∀ j, Jf p [YB os j] = false
 | [], _, j => by simp [YB, Jf]
 | o :: os, h, 0 => by cases o <;> simp_all [YB, Jf]
 | o :: os, h, j + 1 => by
  have h2 : Jf p os = false := by cases o <;> simp_all [Jf]
  have := Ng h2 j
  simpa [YB] using this
theorem St.R6 {p : At -> Bool} : ∀ {σ : St}, σ.KO p = false -> ∀ t j, Jf p [σ.ob t j] = false
 | [], _, t, j => by simp [St.ob, Jf]
 | e :: σ, h, 0, j => by simp only [St.KO, Bool.or_eq_false_iff] at h; exact Ng h.1.2 j
 | e :: σ, h, t + 1, j => by
  simp only [St.KO, Bool.or_eq_false_iff] at h
  have := St.R6 h.2 t j
  simpa [St.ob] using this
theorem R4 {T T' : CS} {h h' : Nat -> Nat -> Hd} {ob vn : Nat -> Nat -> Ob} {p : At -> Bool} (f : ∀ {x : At} {v : Value}, p x = false -> Zr T h ob w x v -> Zr T' h' vn w' x v) {xs : List At} {vs : List Value} (hx : jz p xs = false)
  (r : Zg (Zr T h ob w) xs vs) : Zg (Zr T' h' vn w') xs vs := by
 induction r with
 | nil => exact .nil
 | cons r _ ih =>
  simp only [jz, Bool.or_eq_false_iff] at hx
  exact .cons (f hx.1 r) (ih hx.2)
theorem QV.map {T T' : CS} {h h' : Nat -> Nat -> Hd} {ob vn : Nat -> Nat -> Ob} {p : At -> Bool} (f : ∀ {x : At} {v : Value}, p x = false -> Zr T h ob w x v -> Zr T' h' vn w' x v) {x : V} {v : Value} (hx : x.L3 p = false)
  (r : QV T h ob w x v) : QV T' h' vn w' x v := by
 cases x with
 | any => exact r
 | one x => exact f hx r
 | agg xs => obtain ⟨cs, e, r⟩ := r; exact ⟨cs, e, R4 f hx r⟩
 | tup xs => exact r.elim
 | cnd g x => exact r.elim
 | fix u x => exact r.elim
theorem XW.map {T T' : CS} {h h' : Nat -> Nat -> Hd} {ob vn : Nat -> Nat -> Ob} {p : At -> Bool} (f : ∀ {x : At} {v : Value}, p x = false -> Zr T h ob w x v -> Zr T' h' vn w' x v) {x : V} {v : Value} (hx : x.KO p = false)
  (r : XW T h ob w x v) : XW T' h' vn w' x v := by
 cases x with
 | any => exact r
 | one x => exact f hx r
 | agg xs => obtain ⟨cs, e, r⟩ := r; exact ⟨cs, e, R4 f hx r⟩
 | tup xs =>
  obtain ⟨vs, e, r⟩ := r
  refine ⟨vs, e, ?_⟩
  clear e
  generalize vs.toList = vl at r
  simp only [V.KO] at hx
  induction r with
  | nil => exact .nil
  | cons r _ ih =>
   simp only [Nn, Bool.or_eq_false_iff] at hx
   exact .cons (QV.map f hx.1 r) (ih hx.2)
 | cnd g x => exact ⟨fun hg => QV.map f hx (r.1 hg), r.2⟩
 | fix u x => exact ⟨r.1, QV.map f hx r.2⟩
theorem X6.map {T T' : CS} {h h' : Nat -> Nat -> Hd} {ob vn : Nat -> Nat -> Ob} {p : At -> Bool} (f : ∀ {x : At} {v : Value}, p x = false -> Zr T h ob w x v -> Zr T' h' vn w' x v)
  (hT : ∀ b k v, T b k -> w.cell? ⟨b, k, none⟩ = some v -> w'.cell? ⟨b, k, none⟩ = some v /\ T' b k) {hd : Hd} {o : Ob}
  (vN : o ≠ .none -> ∀ b, blk hd.v = some b -> hd.u b) (hb : o ≠ .none -> ∀ b, hd.u b -> w'.heap[b]? = w.heap[b]?) (hx : Jf p [o] = false) (r : X6 T h ob w hd o) : X6 T' h' vn w' hd o := by
 cases o with
 | none => trivial
 | box cells =>
  obtain ⟨b, cs, e, hv, hh, wG⟩ := r
  simp only [Jf, Bool.or_false] at hx
  exact ⟨b, cs, e, hv, by rw [hb (by simp) b (vN (by simp) b (by rw [hv]; rfl))]; exact hh, R4 f hx wG⟩
 | arr q size rows =>
  have hk : ∀ {e : TypeId} {n : Nat} {xs : List Value}, w.ownsRow 0 e size hd.v n xs -> w'.ownsRow 0 e size hd.v n xs := fun ho => Kw (fun b h => hb (by simp) b (vN (by simp) b h)) ho
  cases q with
  | false =>
   obtain ⟨e, xs, ho, hz, wG⟩ := r
   exact ⟨e, xs, hk ho, hz, wG.imp fun _ _ => Rd.mono hT⟩
  | true =>
   obtain ⟨e, xs, ho, hz, wG, hn⟩ := r
   exact ⟨e, xs, hk ho, hz, wG.SP (fun b h => hb (by simp) b h.1), hn⟩
 | lit size rows =>
  obtain ⟨e, xs, ho, hz, wG⟩ := r
  simp only [Jf, Bool.or_false] at hx
  exact ⟨e, xs, Kw (fun b h => hb (by simp) b (vN (by simp) b h)) ho, hz, R4 f hx wG⟩
def Ob.F6 : Ob -> Ob -> Prop
 | .arr q s r, .arr q' s' r' => q = q' /\ s = s' /\ r.length = r'.length
 | .lit s r, .lit s' r' => s = s' /\ r.length = r'.length
 | .box _, .box _ => True
 | _, _ => False
theorem Rel.change (r : Rel T0 B σ a w X h) {t j : Nat} (wY : σ.ob t j ≠ .none) (vK : w'.heap.size = w.heap.size) (hw : ∀ k, ¬ (h t j).u k -> w'.heap[k]? = w.heap[k]?) (M : Nat -> Prop)
  (hM : ∀ b, M b -> ¬ B b /\ ¬ X b /\ b < w.heap.size /\ ∀ u i, σ.ob u i ≠ .none -> ¬ (h u i).u b) (o' : Ob) (uT : (σ.ob t j).F6 o') (wQ : Hd) (hv : wQ.v = (h t j).v) (hu : ∀ b, wQ.u b -> (h t j).u b \/ M b) (vN : ∀ b, blk wQ.v = some b -> wQ.u b)
  (p : At -> Bool) (hp : σ.KO p = false) (hn : (∀ u i c o, p (.tref t u i c o) = true) \/ wQ.n = (h t j).n)
  (tS : X6 (Tof T0 X) (fun u i => if u = t /\ i = j then wQ else h u i) (σ.Zh t j o').ob w' wQ o') : Rel T0 B (σ.Zh t j o') a w' X (fun u i => if u = t /\ i = j then wQ else h u i) := by
 have vI : ∀ u i, ¬ (u = t /\ i = j) -> (σ.Zh t j o').ob u i = σ.ob u i := by
  intro u i wC
  rw [St.Xf σ t j o' u i wY, if_neg wC]
 have vF : (σ.Zh t j o').ob t j = o' := by rw [St.Xf σ t j o' t j wY]; simp
 have hT : ∀ b k v, Tof T0 X b k -> w.cell? ⟨b, k, none⟩ = some v -> w'.cell? ⟨b, k, none⟩ = some v /\ Tof T0 X b k := by
  intro b' k v wW wM
  refine ⟨?_, wW⟩
  have wC : ¬ (h t j).u b' := by
   intro vx
   have wL := r.own t j b' wY vx
   rcases wW with wW | wW
   ·exact wL.1 (r.hT _ _ wW)
   ·exact wL.2.1 wW
  rw [World.cell?_of_block (hw b' wC)]; exact wM
 have nO : ∀ u i, ((fun u i => if u = t /\ i = j then wQ else h u i) u i).v = (h u i).v := by
  intro u i
  by_cases hc : u = t /\ i = j
  ·simp only [hc, and_self, if_true]; exact hv
  ·simp only [hc, if_false]
 have pt : ∀ u i q size rows, (σ.Zh t j o').ob u i = .arr q size rows -> ∃ wR, σ.ob u i = .arr q size wR /\ wR.length = rows.length := by
  intro u i q size rows ho
  by_cases hc : u = t /\ i = j
  ·obtain ⟨rfl, rfl⟩ := hc
   rw [vF] at ho; subst ho
   cases vA : σ.ob u i with
   | arr q0 s0 r0 => rw [vA] at uT; obtain ⟨rfl, rfl, hl⟩ := uT; exact ⟨r0, rfl, hl⟩
   | none => rw [vA] at uT; exact uT.elim
   | box c => rw [vA] at uT; exact uT.elim
   | lit s r => rw [vA] at uT; exact uT.elim
  ·rw [vI u i hc] at ho; exact ⟨rows, ho, rfl⟩
 have gT : ∀ u i size rows, (σ.Zh t j o').ob u i = .lit size rows -> ∃ wR, σ.ob u i = .lit size wR /\ wR.length = rows.length := by
  intro u i size rows ho
  by_cases hc : u = t /\ i = j
  ·obtain ⟨rfl, rfl⟩ := hc
   rw [vF] at ho; subst ho
   cases vA : σ.ob u i with
   | arr q0 s0 r0 => rw [vA] at uT; exact uT.elim
   | none => rw [vA] at uT; exact uT.elim
   | box c => rw [vA] at uT; exact uT.elim
   | lit s r => rw [vA] at uT; obtain ⟨rfl, hl⟩ := uT; exact ⟨r, rfl, hl⟩
  ·rw [vI u i hc] at ho; exact ⟨rows, ho, rfl⟩
 have pC : ∀ u i cells, (σ.Zh t j o').ob u i = .box cells -> ∃ vP, σ.ob u i = .box vP := by
  intro u i cells ho
  by_cases hc : u = t /\ i = j
  ·obtain ⟨rfl, rfl⟩ := hc
   rw [vF] at ho; subst ho
   cases vA : σ.ob u i with
   | arr q0 s0 r0 => rw [vA] at uT; exact uT.elim
   | none => rw [vA] at uT; exact uT.elim
   | box c => exact ⟨c, rfl⟩
   | lit s r => rw [vA] at uT; exact uT.elim
  ·rw [vI u i hc] at ho; exact ⟨cells, ho⟩
 have at_ : ∀ {x : At} {v : Value}, p x = false -> Zr (Tof T0 X) h σ.ob w x v -> Zr (Tof T0 X) (fun u i => if u = t /\ i = j then wQ else h u i) (σ.Zh t j o').ob w' x v := by
  intro x v pA rx
  cases x with
  | any => exact rx
  | d x => exact Rd.mono hT rx
  | nil s => exact rx
  | sref u i lo len =>
   refine ⟨rx.1, fun q size rows ho => ?_, fun size rows ho => ?_⟩
   ·obtain ⟨wR, vA, hl⟩ := pt u i q size rows ho
    rw [nO, <- hl]; exact rx.2.1 q size wR vA
   ·obtain ⟨wR, vA, hl⟩ := gT u i size rows ho
    rw [nO, <- hl]; exact rx.2.2 size wR vA
  | ptr u i k c =>
   refine ⟨rx.1, fun q size rows ho => ?_⟩
   obtain ⟨wR, vA, hl⟩ := pt u i q size rows ho
   rw [nO]; exact rx.2 q size wR vA
  | bptr u c =>
   refine ⟨rx.1, fun cells ho => ?_⟩
   obtain ⟨vP, vA⟩ := pC u 0 cells ho
   rw [nO]; exact rx.2 vP vA
  | fn f u =>
   refine ⟨rx.1, fun cells ho => ?_⟩
   obtain ⟨vP, vA⟩ := pC u 0 cells ho
   rw [nO]; exact rx.2 vP vA
  | tref u i k c o =>
   refine ⟨rx.1, fun size rows ho => ?_⟩
   obtain ⟨wR, vA, hl⟩ := pt u i true size rows ho
   have h1 := rx.2 size wR vA
   by_cases hc : u = t /\ i = j
   ·obtain ⟨rfl, rfl⟩ := hc
    rcases hn with hn | hn
    ·rw [hn] at pA; cases pA
    ·simp only [and_self, if_true, hn]; exact h1
   ·simp only [hc, if_false]; exact h1
  | rptr rr c =>
   obtain ⟨b, off, g, e, hk⟩ := rx
   exact ⟨b, off, g, e, fun k d hd => ⟨(hT _ _ _ (hk k d hd).2.1 (hk k d hd).1).1, (hk k d hd).2.1, Rd.mono hT (hk k d hd).2.2⟩⟩
 have vJ : ∀ u i, (σ.Zh t j o').ob u i ≠ .none -> σ.ob u i ≠ .none := by
  intro u i wx
  by_cases vx : u = t /\ i = j
  ·obtain ⟨rfl, rfl⟩ := vx; exact wY
  ·rw [vI u i vx] at wx; exact wx
 refine ⟨by rw [r.size, St.Yr], r.defers, by rw [vK]; exact r.hB, fun b hb => by rw [vK]; exact r.hX b hb, r.hT, fun u vx => ?_, fun u i => ?_, fun u i b' wC wW => ?_, fun u i b' wC wW => ?_, fun u i u' i' b' wC wz vM wo => ?_⟩
 ·rw [St.Yr] at vx
  rw [St.XT]; exact XW.map at_ (St.Tr hp u) (r.slot u vx)
 ·by_cases hc : u = t /\ i = j
  ·obtain ⟨rfl, rfl⟩ := hc; rw [vF]; simp only [and_self, if_true]; exact tS
  ·rw [vI u i hc]
   simp only [hc, if_false]
   exact X6.map at_ hT (fun ho b => r.ub u i b ho) (fun ho b hb => hw b (fun ov => hc (r.inj u i t j b ho wY hb ov))) (St.R6 hp u i) (r.obj u i)
 ·by_cases hc : u = t /\ i = j
  ·simp only [hc, and_self, if_true] at wW ⊢; exact vN b' wW
  ·simp only [hc, if_false] at wW ⊢; exact r.ub u i b' (vJ u i wC) wW
 ·rw [vK]
  by_cases hc : u = t /\ i = j
  ·simp only [hc, and_self, if_true] at wW
   rcases hu b' wW with h1 | h1
   ·exact r.own t j b' wY h1
   ·have := hM b' h1; exact ⟨this.1, this.2.1, this.2.2.1⟩
  ·simp only [hc, if_false] at wW; exact r.own u i b' (vJ u i wC) wW
 ·by_cases hc : u = t /\ i = j
  ·by_cases wu : u' = t /\ i' = j
   ·exact ⟨by rw [hc.1, wu.1], by rw [hc.2, wu.2]⟩
   ·simp only [hc, and_self, if_true] at vM
    simp only [wu, if_false] at wo
    rcases hu b' vM with h1 | h1
    ·have := r.inj t j u' i' b' wY (vJ u' i' wz) h1 wo
     rw [hc.1, hc.2]; exact this
    ·exact absurd wo ((hM b' h1).2.2.2 u' i' (vJ u' i' wz))
  ·by_cases wu : u' = t /\ i' = j
   ·simp only [wu, and_self, if_true] at wo
    simp only [hc, if_false] at vM
    rcases hu b' wo with h1 | h1
    ·have := r.inj u i t j b' (vJ u i wC) wY vM h1
     rw [wu.1, wu.2]; exact this
    ·exact absurd vM ((hM b' h1).2.2.2 u i (vJ u i wC))
   ·simp only [hc, if_false] at vM
    simp only [wu, if_false] at wo
    exact r.inj u i u' i' b' (vJ u i wC) (vJ u' i' wz) vM wo
theorem Rel.Hh (r : Rel T0 B σ a w X h) {t j : Nat} (wY : σ.ob t j ≠ .none) (vK : w'.heap.size = w.heap.size) (hw : ∀ k, ¬ (h t j).u k -> w'.heap[k]? = w.heap[k]?)
  (o' : Ob) (uT : (σ.ob t j).F6 o') (tS : X6 (Tof T0 X) h (σ.Zh t j o').ob w' (h t j) o') : Rel T0 B (σ.Zh t j o') a w' X h := by
 have hh : (fun u i => if u = t /\ i = j then h t j else h u i) = h := by
  funext u i
  by_cases hc : u = t /\ i = j
  ·simp [hc]
  ·simp [hc]
 have := r.change wY vK hw (fun _ => False) (fun _ hh => hh.elim) o' uT (h t j) rfl (fun b hb => .inl hb) (fun b hb => r.ub t j b wY hb) (fun _ => false) (St.zT σ) (.inr rfl) (by rw [hh]; exact tS)
 rw [hh] at this; exact this
theorem run_store {T : TypeId} {ti : TypeInfo} (hi : P.info? T = some ti) {g o : Nat} {e : TypeId} {cur : Array Value} {val : Value} (hg : w.heap[g]? = some (.cells cur e (0, 0))) (vK : val.cells.size = P.cellsOf T) (hle : o + P.cellsOf T <= cur.size) (h1 : ∀ u ∈ val.cells.toList, u.oneCell' = true) :
  (Instr.storeAt T (.pointer (some ⟨g, o, none⟩)) val).run P w = .ok () (w.setRow g (place cur.toList o val.cells.toList).toArray) := by
 have wa := run_storeCells_at P g o e val.cells.toList 0 cur w hg (by simp; omega) h1
 have wC : ¬ val.cells.size ≠ P.cellsOf T := by omega
 simp only [Instr.storeAt, Instr.sureAddr, storeVar, Sem.run_bind, Sem.run_pure, Result.andThen_ok, X5 hi, if_neg wC]
 rw [wa]
 simp [place]
theorem Y0.setRow {B : Nat -> Prop} {g : Nat} (hg : ¬ B g) (cs : Array Value) : Y0 B w (w.setRow g cs) :=
 ⟨rfl, rfl, rfl, by simp [World.setRow], fun k hk => setRow_other w g k cs (fun e => hg (e ▸ hk))⟩
theorem PO (r : Rel T0 B σ a w X h) {o : Oper} {T : TypeId} {x y : Operand} (wA : o.op = .store T x y) (hd : o.dst = none) (ht : ym P T = true) (sL : gOf (look P σ 0 x) = true) (sM : gOf (look P σ T y) = true)
  {t c : Nat} (hx : unc (look P σ 0 x) = .one (.bptr t c)) {cells : List At} (ho : σ.ob t 0 = .box cells) (vg : (unc (look P σ T y)).flat = true) (hl : (unc (look P σ T y)).cells.length = P.cellsOf T) (hle : c + P.cellsOf T <= cells.length)
  {K : Act -> World -> Prop} {Q : Exit -> Act -> World -> Prop} (hK : ∀ a' w', QK T0 B (σ.Zh t 0 (.box (place cells c (unc (look P σ T y)).cells))) a' w' -> Y0 B w w' -> K a' w') : o.wp P a w K Q := by
 obtain ⟨_, ti, _, hi, _, _⟩ := qe ht
 have nP := r.arg (P := P) 0 x hx sL
 obtain ⟨b, cs, e, hb, he, hh, wG⟩ := r.box ho nP
 have hy := qP vg (r.arg (P := P) T y rfl sM)
 have uc := hy.length
 have wk := wG.length
 have e1 : cs.toList.length = cs.size := Array.length_toList
 have e2 : (a.eval y).cells.toList.length = (a.eval y).cells.size := Array.length_toList
 have wV := run_store (P := P) (w := w) hi (o := c) (val := a.eval y) hh (by omega) (by omega) (fun u hu => by obtain ⟨x', _, tO⟩ := hy.mem hu; exact Zr.XG tO)
 have wY : σ.ob t 0 ≠ .none := by rw [ho]; simp
 have vE : blk (h t 0).v = some b := by rw [hb]; rfl
 have hB := r.DU wY vE
 have vN := r.ub t 0 b wY vE
 unfold Oper.wp
 simp only [execOp, wA, he, Sem.run_bind, wV, Result.andThen_ok, Sem.run_pure, Oper.upon_skip, hd]
 refine hK _ _ ⟨X, h, ?_⟩ (Y0.setRow hB.1 _)
 have vj := setRow_heap w b cs (place cs.toList c (a.eval y).cells.toList).toArray e (0, 0) hh
 refine r.Hh wY (by simp [World.setRow]) (fun k hk => setRow_other w b k _ (fun e => hk (e ▸ vN))) _ (by rw [ho]; trivial) ?_
 have r2 : Rel T0 B (σ.Zh t 0 (.box (place cells c (unc (look P σ T y)).cells))) a (w.setRow b (place cs.toList c (a.eval y).cells.toList).toArray) X h -> True := fun _ => trivial
 have hT : ∀ b' k v, Tof T0 X b' k -> w.cell? ⟨b', k, none⟩ = some v -> (w.setRow b (place cs.toList c (a.eval y).cells.toList).toArray).cell? ⟨b', k, none⟩ = some v /\ Tof T0 X b' k := by
  intro b' k v wW wM
  refine ⟨?_, wW⟩
  have wC : b' ≠ b := by
   rintro rfl
   rcases wW with wW | wW
   ·exact hB.1 (r.hT _ _ wW)
   ·exact hB.2.1 wW
  rw [World.cell?_of_block (setRow_other w b b' _ wC)]; exact wM
 have vI : ∀ u i, ¬ (u = t /\ i = 0) -> (σ.Zh t 0 (.box (place cells c (unc (look P σ T y)).cells))).ob u i = σ.ob u i := by
  intro u i wC
  rw [St.Xf σ t 0 _ u i wY, if_neg wC]
 have vF : (σ.Zh t 0 (.box (place cells c (unc (look P σ T y)).cells))).ob t 0 = .box (place cells c (unc (look P σ T y)).cells) := by rw [St.Xf σ t 0 _ t 0 wY]; simp
 have m9 : ∀ u i, Cpt h h σ.ob (σ.Zh t 0 (.box (place cells c (unc (look P σ T y)).cells))).ob u i := by
  intro u i
  by_cases hu : u = t /\ i = 0
  ·obtain ⟨rfl, rfl⟩ := hu
   refine ⟨fun q size rows wX => ?_, fun size rows wX => ?_, fun wJ wX => ⟨rfl, cells, ho⟩⟩
   ·rw [vF] at wX; cases wX
   ·rw [vF] at wX; cases wX
  ·exact Cpt.same rfl (vI u i hu)
 have at_ : ∀ {x : At} {v : Value}, Zr (Tof T0 X) h σ.ob w x v -> Zr (Tof T0 X) h (σ.Zh t 0 (.box (place cells c (unc (look P σ T y)).cells))).ob (w.setRow b (place cs.toList c (a.eval y).cells.toList).toArray) x v := fun rx => Zr.FP hT m9 rx
 refine ⟨b, _, e, hb, vj, ?_⟩
 have := (wG.place c hy).imp (fun _ _ => at_)
 simpa using this
end
end Go.Vm
namespace Go.Vm
open Go.RowKit
section
variable {P : Program} {T0 : CS} {B : Nat -> Prop} {σ : St} {a : Act} {w w' : World} {X X' : Nat -> Prop} {h : Nat -> Nat -> Hd}
theorem K0 {α : Type} (size c : Nat) (ds : List α) (hc : c + ds.length <= size) : ∀ (rows : List (List α)) (i : Nat) (row : List α), rows[i]? = some row -> (∀ r ∈ rows, r.length = size) ->
  (rows.set i (place row c ds)).flatten = place rows.flatten (i * size + c) ds
 | [], i, row, hr, _ => by simp at hr
 | r0 :: rows, 0, row, hr, hz => by
  simp at hr; subst hr
  have h0 : r0.length = size := hz r0 (by simp)
  simp only [List.set_cons_zero, List.flatten_cons, place, Nat.zero_mul, Nat.zero_add]
  rw [List.take_append_of_le_length (by omega), List.drop_append_of_le_length (by omega)]
  simp
 | r0 :: rows, i + 1, row, hr, hz => by
  have h0 : r0.length = size := hz r0 (by simp)
  have ih := K0 size c ds hc rows i row (by simpa using hr) (fun r hr => hz r (by simp [hr]))
  rw [List.set_cons_succ, List.flatten_cons, ih, List.flatten_cons]
  unfold place
  have e1 : (i + 1) * size + c = r0.length + (i * size + c) := by rw [h0, Nat.add_mul]; omega
  have e2 : (i + 1) * size + c + ds.length = r0.length + (i * size + c + ds.length) := by rw [h0, Nat.add_mul]; omega
  rw [e2, e1, List.take_length_add_append, List.drop_length_add_append]
  simp
theorem Pn {α : Type} (l : List α) (n off : Nat) (xs : List α) (hl : off + xs.length <= n) (hn : n <= l.length) : (place l off xs).take n = place (l.take n) off xs := by
 unfold place
 rw [List.take_take, Nat.min_eq_left (by omega), List.drop_take]
 rw [List.take_append, List.take_append]
 simp only [List.length_append, List.length_take]
 rw [Nat.min_eq_left (by omega), List.take_of_length_le (l := List.take off l) (by simp; omega), List.take_of_length_le (l := xs) (by omega)]
theorem yh {α : Type} (l : List α) (o : Nat) (xs : List α) (hl : o + xs.length <= l.length) (k : Nat) (v : α) (hv : (place l o xs)[k]? = some v) :
  (o <= k /\ k < o + xs.length /\ xs[k - o]? = some v) \/ (¬ (o <= k /\ k < o + xs.length) /\ l[k]? = some v) := by
 unfold place at hv
 have h1 : (l.take o).length = o := by simp; omega
 rcases Nat.lt_or_ge k o with hk | hk
 ·rw [List.append_assoc, List.getElem?_append_left (by omega), List.getElem?_take, if_pos hk] at hv
  exact .inr ⟨by omega, hv⟩
 ·rw [List.append_assoc, List.getElem?_append_right (by omega), h1] at hv
  rcases Nat.lt_or_ge (k - o) xs.length with s3 | s3
  ·rw [List.getElem?_append_left s3] at hv
   exact .inl ⟨hk, by omega, hv⟩
  ·rw [List.getElem?_append_right s3, List.getElem?_drop] at hv
   refine .inr ⟨by omega, ?_⟩
   rw [show o + xs.length + (k - o - xs.length) = k by omega] at hv; exact hv
theorem Pt (r : Rel T0 B σ a w X h) {o : Oper} {T : TypeId} {x y : Operand} (wA : o.op = .store T x y) (hd : o.dst = none) (ht : ym P T = true) (sL : gOf (look P σ 0 x) = true) (sM : gOf (look P σ T y) = true)
  {t j i c : Nat} (hx : unc (look P σ 0 x) = .one (.ptr t j i c)) {q : Bool} {size : Nat} {rows : List (List D)} (ho : σ.ob t j = .arr q size rows) (hi : i < rows.length) {ds : List D} (vg : (unc (look P σ T y)).flat = true) (sv : rowOf σ (unc (look P σ T y)).cells = some ds) (wa : Ql (unc (look P σ T y)).cells = true)
  (hl : ds.length = P.cellsOf T) (hle : c + P.cellsOf T <= size) (hq : q = true -> (∀ d ∈ ds, d.scalar = true) /\ ∀ k d, k < P.cellsOf T -> (rows.getD i [])[c + k]? = some d -> d.scalar = true)
  {K : Act -> World -> Prop} {Q : Exit -> Act -> World -> Prop} (hK : ∀ a' w', QK T0 B (σ.Zh t j (.arr q size (rows.set i (place (rows.getD i []) c ds)))) a' w' -> Y0 B w w' -> K a' w') : o.wp P a w K Q := by
 obtain ⟨_, ti, _, my, _, _⟩ := qe ht
 have nP := r.arg (P := P) 0 x hx sL
 obtain ⟨b, cap, cur, e, xs, hb, he, hh, vr, uE, uB, uv, hz, sa, wG, wL⟩ := r.arr ho nP
 have hy := qP vg (r.arg (P := P) T y rfl sM)
 have pQ := r.rowOf true sv hy (fun _ => wa)
 simp only [if_true] at pQ
 have uc := pQ.length
 have e2 : (a.eval y).cells.toList.length = (a.eval y).cells.size := Array.length_toList
 have e3 : cur.toList.length = cur.size := Array.length_toList
 have we : rows[i]? = some (rows.getD i []) := by simp [List.getD_eq_getElem?_getD, List.getElem?_eq_getElem hi]
 have hmul : i * size + size <= rows.length * size := by rw [<- Nat.succ_mul]; exact Nat.mul_le_mul_right _ hi
 have nQ : rows.length * size <= cap * size := Nat.mul_le_mul_right _ vr
 have wV := run_store (P := P) (w := w) my (o := i * size + c) (val := a.eval y) hh (by omega) (by omega) (fun u hu => by obtain ⟨x', _, tO⟩ := hy.mem hu; exact Zr.XG tO)
 have wY : σ.ob t j ≠ .none := by rw [ho]; simp
 have vE : blk (h t j).v = some b := by rw [hb]; rfl
 have hB := r.DU wY vE
 have vN := r.ub t j b wY vE
 unfold Oper.wp
 simp only [execOp, wA, he, Sem.run_bind, wV, Result.andThen_ok, Sem.run_pure, Oper.upon_skip, hd]
 refine hK _ _ ⟨X, h, ?_⟩ (Y0.setRow hB.1 _)
 refine r.Hh wY (by simp [World.setRow]) (fun k hk => setRow_other w b k _ (fun e => hk (e ▸ vN))) _ (by rw [ho]; simp [Ob.F6]) ?_
 have vj := setRow_heap w b cur (place cur.toList (i * size + c) (a.eval y).cells.toList).toArray e (0, 0) hh
 have hT : ∀ b' k v, Tof T0 X b' k -> w.cell? ⟨b', k, none⟩ = some v -> (w.setRow b (place cur.toList (i * size + c) (a.eval y).cells.toList).toArray).cell? ⟨b', k, none⟩ = some v /\ Tof T0 X b' k := by
  intro b' k v wW wM
  refine ⟨?_, wW⟩
  have wC : b' ≠ b := by
   rintro rfl
   rcases wW with wW | wW
   ·exact hB.1 (r.hT _ _ wW)
   ·exact hB.2.1 wW
  rw [World.cell?_of_block (setRow_other w b b' _ wC)]; exact wM
 have oq : xs.length = rows.length * size := by rw [sa, Z8 rows size hz]
 have tr : (rows.getD i []).length = size := hz _ (List.mem_of_getElem? we)
 have vv : (w.setRow b (place cur.toList (i * size + c) (a.eval y).cells.toList).toArray).ownsRow 0 e size (h t j).v (rows.set i (place (rows.getD i []) c ds)).length (place xs (i * size + c) (a.eval y).cells.toList) := by
  refine ⟨?_, .inr ⟨b, cap, _, by simpa using hb, Nat.zero_le _, vj, by simpa using vr, uE, ?_, ?_⟩⟩
  ·rw [XE _ _ _ (by omega), oq]; simp
  ·simp only [List.size_toArray]
   rw [XE _ _ _ (by omega), e3, uB]
  ·simp only [List.length_set]
   rw [Pn _ _ _ _ (by omega) (by omega), uv]
 have uw : ∀ r ∈ rows.set i (place (rows.getD i []) c ds), r.length = size := by
  intro r' vR
  rcases List.mem_or_eq_of_mem_set vR with vR | vR
  ·exact hz r' vR
  ·rw [vR, XE _ _ _ (by omega), tr]
 cases q with
 | false =>
  refine ⟨e, _, vv, uw, ?_⟩
  rw [K0 size c ds (by omega) rows i _ we hz]
  exact ((wG rfl).imp fun _ _ => Rd.mono hT).place _ (pQ.imp fun _ _ => Rd.mono hT)
 | true =>
  obtain ⟨⟨_, Sk, h1, h2, h3⟩, hn⟩ := wL rfl
  obtain ⟨iI, fM⟩ := hq rfl
  have wM : ∀ k u, (place xs (i * size + c) (a.eval y).cells.toList)[k]? = some u -> (i * size + c <= k /\ k < i * size + c + ds.length /\ (a.eval y).cells.toList[k - (i * size + c)]? = some u) \/ (¬ (i * size + c <= k /\ k < i * size + c + ds.length) /\ xs[k]? = some u) := by
   intro k u hu
   exact yh xs _ _ (by omega) k u hu |>.imp (fun hh => ⟨hh.1, by omega, hh.2.2⟩) (fun hh => ⟨by rw [<- uc]; exact hh.1, hh.2⟩)
  have tz : ∀ k d, (rows.set i (place (rows.getD i []) c ds)).flatten[k]? = some d -> (i * size + c <= k /\ k < i * size + c + ds.length /\ ds[k - (i * size + c)]? = some d) \/ (¬ (i * size + c <= k /\ k < i * size + c + ds.length) /\ rows.flatten[k]? = some d) := by
   intro k d uA
   rw [K0 size c ds (by omega) rows i _ we hz] at uA
   exact yh _ _ _ (by rw [Z8 rows size hz]; omega) k d uA
  refine ⟨e, _, vv, uw, ⟨?_, Sk, fun k u d hu uA => ?_, h2, h3⟩, fun k u d hu uA vV => ?_⟩
  ·rw [XE _ _ _ (by omega), sa, Z8 rows size hz, Z8 _ size uw]; simp
  ·rcases wM k u hu with ⟨p1, p2, p3⟩ | ⟨p1, p3⟩
   ·rcases tz k d uA with ⟨_, _, p4⟩ | ⟨p4, _⟩
    ·obtain ⟨d', wQ, vR⟩ := pQ.get _ _ p3
     rw [p4] at wQ; cases wQ
     have hs := iI d (List.mem_of_getElem? p4)
     cases vR with
     | int k n => exact .int _ _ _
     | bool b => exact .bool _ _
     | str s => exact .str _ _
     | unk v h => exact .unk _ h _
     | nil => simp [D.scalar] at hs
     | sl => simp [D.scalar] at hs
    ·exact absurd ⟨p1, p2⟩ p4
   ·rcases tz k d uA with ⟨p4, p5, _⟩ | ⟨_, p4⟩
    ·exact absurd ⟨p4, p5⟩ p1
    ·refine (h1 k u d p3 p4).SP (fun b' wW => setRow_other w b b' _ ?_)
     rintro rfl
     exact (h2 k b' wW).2 vE
  ·rcases tz k d uA with ⟨p4, p5, p6⟩ | ⟨p4, p6⟩
   ·have := iI d (List.mem_of_getElem? p6)
    rw [vV] at this; cases this
   ·rcases wM k u hu with ⟨p1, p2, _⟩ | ⟨_, p3⟩
    ·exact absurd ⟨p1, p2⟩ p4
    ·exact hn k u d p3 p6 vV
end
end Go.Vm
namespace Go.Vm
open Go.RowKit
section
variable {P : Program} {T0 : CS} {B : Nat -> Prop} {σ : St} {a : Act} {w w' : World} {X X' : Nat -> Prop} {h : Nat -> Nat -> Hd}
theorem Tz (t ty e e0 : TypeId) (i : TypeInfo) (ht : P.underlying t = some (.slice e)) (hi : P.info? e = some i)
  (g sA pv : Nat) (cur : Array Value) (hg : w.heap[g]? = some (.cells cur e0 (0, 0)))
  (a : Addr) (m c : Nat) (news : List Value) (hl : news.length = m * i.size) (uJ : ∀ j u, news[j]? = some u -> w.cell? (a.add j) = some u) (h1 : ∀ u ∈ news, u.oneCell' = true)
  (tT : sA + m <= pv) (pw : sA * i.size + news.length <= cur.size) :
  (Builtin.append_ #[t, t] ty #[.slice (some ⟨g, 0, none⟩) sA pv, .slice (some a) m c]).run P w =
   .ok (.slice (some ⟨g, 0, none⟩) (sA + m) pv) (w.setRow g (cur.toList.take (sA * i.size) ++ news ++ cur.toList.drop (sA * i.size + news.length)).toArray) := by
 have hf := run_firstCells_some (P := P) w i.size m a m c news hl uJ
 have wa := run_storeCells_at P g (sA * i.size) e0 news 0 cur w hg (by simpa using pw) h1
 simp only [Nat.add_zero] at wa
 simp [Builtin.append_, run_underlying ht, sizeOf, typeInfo, hi, Builtin.lenOf, tT, hf, Addr.add_lit, wa]
theorem Vx (t ty e e0 : TypeId) (i : TypeInfo) (z : Value) (ht : P.underlying t = some (.slice e)) (hi : P.info? e = some i) (hz : i.zero = some z)
  (sB : z.cells.size = i.size) (vK : 0 < i.size) (v : Value) (n : Nat) (xs : List Value) (wL : w.ownsRow 0 e0 i.size v n xs)
  (a : Addr) (m c : Nat) (news : List Value) (hl : news.length = m * i.size) (uJ : ∀ j u, news[j]? = some u -> w.cell? (a.add j) = some u) (h1 : ∀ u ∈ news, u.oneCell' = true)
  (mv : n + m <= maxLen) (vi : (n + m) * i.bytes <= 140737488355328) :
  ∃ v' w' e1, (Builtin.append_ #[t, t] ty #[v, .slice (some a) m c]).run P w = .ok v' w' /\ w'.ownsRow 0 e1 i.size v' (n + m) (xs ++ news) /\ w.grownBy w' (blk v) /\
   (∀ b, blk v' = some b -> (w.heap.size <= b /\ b < w'.heap.size) \/ blk v = some b) := by
 have hlen : (xs ++ news).length = (n + m) * i.size := by rw [List.length_append, wL.1, hl, Nat.add_mul]
 rcases wL.2 with ⟨rfl, rfl⟩ | ⟨g, cap, cur, rfl, _, hg, v9, pL, uB, nL⟩
 ·have hx : xs = [] := List.eq_nil_of_length_eq_zero (by simpa using wL.1)
  subst hx
  obtain ⟨v', w', hr, ho, uK, _⟩ := run_append_own (P := P) w w.heap.size t ty e i z i.size i.bytes ht hi hz rfl rfl sB vK (.slice none 0 0) 0 [] (World.ownsRow_nil w _ e i.size) a m c news hl uJ h1 mv vi (Nat.le_refl _)
  refine ⟨v', w', e, hr, ?_, uK, fun b hb => .inl ?_⟩
  ·refine ⟨ho.1, ho.2.imp id ?_⟩
   rintro ⟨g, cap, cur, hv, _, rest⟩
   exact ⟨g, cap, cur, hv, Nat.zero_le _, rest⟩
  ·have wW : v'.ownBlock = some b := by
    cases v' with
    | slice o l c => cases o with
     | none => simp [blk] at hb
     | some ad => simpa [blk, Value.ownBlock] using hb
    | pointer o => rcases ho.2 with ⟨hv, _⟩ | ⟨g, cap, cur, hv, _⟩ <;> cases hv
    | _ => simp [blk] at hb
   exact ho.lt b wW
 ·by_cases tT : n + m <= cap
  ·have pw : n * i.size + news.length <= cur.size := by rw [hl, uB, <- Nat.add_mul]; exact Nat.mul_le_mul_right _ tT
   have hr := Tz (P := P) (w := w) t ty e e0 i ht hi g n cap cur hg a m c news hl uJ h1 tT pw
   refine ⟨_, _, e0, hr, ⟨hlen, .inr ⟨g, cap, _, rfl, Nat.zero_le _, setRow_heap w g cur _ e0 _ hg, tT, pL, ?_, ?_⟩⟩, ⟨rfl, rfl, rfl, by simp [World.setRow], fun k _ hk => setRow_other w g k _ (fun e => hk (by simp [blk, e]))⟩, fun b hb => .inr (by simpa [blk] using hb)⟩
   ·simp only [List.size_toArray, List.length_append, List.length_take, List.length_drop, Array.length_toList]
    omega
   ·rw [nL, <- hlen]
    exact List.take_left
  ·have holds : ∀ j u, xs[j]? = some u -> w.cell? ((⟨g, 0, none⟩ : Addr).add j) = some u := wL.cells (g := g) rfl
   have lA : n + m <= 9223372036854775807 := by simp only [maxLen] at mv; omega
   have hr := run_append_grow (P := P) w t ty e i z ht hi hz ⟨g, 0, none⟩ n cap xs wL.1 holds a m c news hl uJ (by omega) (by omega) (growslice_fits (by omega) vi)
   have uk := grownCap_ge w (n + m) cap e
   have lB : grownCap w (n + m) cap e <= maxLen := grownCap_le_maxLen w (n + m) cap e mv
   refine ⟨_, _, e, hr, ⟨hlen, .inr ⟨w.heap.size, _, _, rfl, Nat.zero_le _, heap_alloc_new w.drew _, uk, lB, ?_, ?_⟩⟩, ⟨rfl, rfl, rfl, by simp, fun k hk _ => (World.grownBy_alloc w.drew _ none).block k hk (by simp)⟩, fun b hb => .inl ?_⟩
   ·simp only [Array.size_append, List.size_toArray, size_zeroCells, sB, wL.1, hl, <- Nat.add_mul]
    congr 1
    omega
   ·simp only [Array.toList_append, List.append_assoc]
    rw [<- List.append_assoc, <- hlen]
    exact List.take_left
   ·simp [blk] at hb; subst hb; simp
theorem qZ (t ty e : TypeId) (i : TypeInfo) (ht : P.underlying t = some (.slice e)) (hi : P.info? e = some i) (base : Option Addr) (n cap : Nat) (v9 : n <= cap) (hb : base = none -> cap = 0) :
  (Builtin.append_ #[t, t] ty #[.slice base n cap, .slice none 0 0]).run P w = .ok (.slice base n cap) w := by
 cases base with
 | none =>
  have := hb rfl; subst this
  have : n = 0 := by omega
  subst this
  simp [Builtin.append_, run_underlying ht, sizeOf, typeInfo, hi, Builtin.lenOf, Builtin.firstCells]
 | some ad => simp [Builtin.append_, run_underlying ht, sizeOf, typeInfo, hi, Builtin.lenOf, Builtin.firstCells, v9, storeCells]
theorem Rel.less (r : Rel T0 B σ a w X h) {σ' : St} (hl : σ'.length = σ.length) (vC : ∀ t, σ'.get t = σ.get t) (hk : ∀ t j, σ'.ob t j ≠ .none -> σ'.ob t j = σ.ob t j) : Rel T0 B σ' a w X h := by
 have back : ∀ t j o, σ'.ob t j = o -> o ≠ .none -> σ.ob t j = o := by
  intro t j o ho wC
  rw [<- hk t j (by rw [ho]; exact wC)]; exact ho
 have at_ : ∀ {x : At} {v : Value}, (fun _ : At => false) x = false -> Zr (Tof T0 X) h σ.ob w x v -> Zr (Tof T0 X) h σ'.ob w x v := by
  intro x v _ rx
  cases x with
  | any => exact rx
  | d x => exact rx
  | nil s => exact rx
  | sref u i lo len => exact ⟨rx.1, fun q size rows ho => rx.2.1 q size rows (back u i _ ho (by simp)), fun size rows ho => rx.2.2 size rows (back u i _ ho (by simp))⟩
  | ptr u i k c => exact ⟨rx.1, fun q size rows ho => rx.2 q size rows (back u i _ ho (by simp))⟩
  | bptr u c => exact ⟨rx.1, fun cells ho => rx.2 cells (back u 0 _ ho (by simp))⟩
  | fn f u => exact ⟨rx.1, fun cells ho => rx.2 cells (back u 0 _ ho (by simp))⟩
  | tref u i k c o => exact ⟨rx.1, fun size rows ho => rx.2 size rows (back u i _ ho (by simp))⟩
  | rptr rr c => exact rx
 have vJ : ∀ u i, σ'.ob u i ≠ .none -> σ.ob u i ≠ .none := fun u i hn => by rw [<- hk u i hn]; exact hn
 refine ⟨by rw [r.size, hl], r.defers, r.hB, r.hX, r.hT, fun u hu => ?_, fun u i => ?_, fun u i b hn => r.ub u i b (vJ u i hn), fun u i b hn => r.own u i b (vJ u i hn), fun u i u' i' b hn wx => r.inj u i u' i' b (vJ u i hn) (vJ u' i' wx)⟩
 ·rw [vC u]; exact XW.map at_ (zT _) (r.slot u (by omega))
 ·by_cases hn : σ'.ob u i = .none
  ·rw [hn]; trivial
  ·rw [hk u i hn]
   exact X6.map at_ (fun b k v hb hc => ⟨hc, hb⟩) (fun ho b => r.ub u i b ho) (fun _ _ _ => rfl) (qD _) (r.obj u i)
theorem St.jy (σ : St) (t j u i : Nat) : (σ.Zh t j .none).ob u i = if u = t /\ i = j then .none else σ.ob u i := by
 by_cases wY : σ.ob t j = .none
 ·have key : ∀ (σ : St) (t u : Nat), σ.ob t j = .none -> (σ.Zh t j .none).ob u i = σ.ob u i := by
   intro σ
   induction σ with
   | nil => intro t u _; simp [St.Zh]
   | cons e σ ih =>
    intro t u ho
    cases t with
    | zero => cases u with
     | zero =>
      simp only [St.Zh, St.ob, List.getElem?_cons_zero, IJ] at ho ⊢
      split
      ·rename_i hh; rw [hh.1, ho]
      ·rfl
     | succ u => simp [St.Zh, St.ob]
    | succ t => cases u with
     | zero => simp [St.Zh, St.ob]
     | succ u =>
      have := ih t u (by simpa [St.ob] using ho)
      simp only [St.ob, St.Zh] at this ⊢; simpa using this
  rw [key σ t u wY]
  split
  ·rename_i hh; rw [hh.1, hh.2]; exact wY
  ·rfl
 ·exact St.Xf σ t j _ u i wY
theorem Rel.drop (r : Rel T0 B σ a w X h) (t j : Nat) : Rel T0 B (σ.Zh t j .none) a w X h := by
 refine r.less (St.Yr _ _ _ _) (fun u => St.XT _ _ _ _ u) (fun u i hn => ?_)
 rw [St.jy] at hn ⊢
 split
 ·rename_i hh; rw [if_pos hh] at hn; exact absurd rfl hn
 ·rfl
def St.Zq : St -> List (Nat × Nat) -> St
 | σ, [] => σ
 | σ, p :: l => St.Zq (σ.Zh p.1 p.2 .none) l
theorem St.KJ : ∀ (l : List (Nat × Nat)) (σ : St), (σ.Zq l).length = σ.length
 | [], σ => rfl
 | p :: l, σ => by rw [St.Zq, St.KJ l, St.Yr]
theorem St.xP : ∀ (l : List (Nat × Nat)) (σ : St) (t : Nat), (σ.Zq l).get t = σ.get t
 | [], σ, t => rfl
 | p :: l, σ, t => by rw [St.Zq, St.xP l, St.XT]
theorem St.JD : ∀ (l : List (Nat × Nat)) (σ : St) (t j : Nat), (σ.Zq l).ob t j = if (t, j) ∈ l then .none else σ.ob t j
 | [], σ, t, j => by simp [St.Zq]
 | p :: l, σ, t, j => by
  rw [St.Zq, St.JD l, St.jy]
  by_cases h1 : (t, j) ∈ l
  ·simp [h1]
  ·by_cases h2 : t = p.1 /\ j = p.2
   ·have : (t, j) = p := by rw [h2.1, h2.2]
    rw [if_neg h1, if_pos h2, if_pos (by rw [this]; simp)]
   ·have : ¬ (t, j) = p := fun e => h2 (by rw [<- e]; exact ⟨rfl, rfl⟩)
    simp [h1, h2, this]
theorem Rel.Zq (r : Rel T0 B σ a w X h) (l : List (Nat × Nat)) : Rel T0 B (σ.Zq l) a w X h := by
 refine r.less (St.KJ l σ) (St.xP l σ) (fun u i hn => ?_)
 rw [St.JD] at hn ⊢
 split
 ·rename_i hh; rw [if_pos hh] at hn; exact absurd rfl hn
 ·rfl
end
end Go.Vm
namespace Go.Vm
open Go.RowKit
section
variable {P : Program} {T0 : CS} {B : Nat -> Prop} {σ : St} {a : Act} {w w' : World} {X X' : Nat -> Prop} {h : Nat -> Nat -> Hd}
theorem zJ {T : TypeId} (hz : XH P T = true) : ∃ i z row, P.info? T = some i /\ i.zero = some z /\ xG P 12 T = some row /\ i.size = row.length /\ z.cells.size = i.size /\ i.size = P.cellsOf T /\ (∀ T' h ob w, Zg (Zr T' h ob w) row z.cells.toList) := by
 have uP : ∃ row, xG P 12 T = some row := by
  unfold XH at hz
  split at hz
  ·rename_i row i hr hi; exact ⟨row, hr⟩
  ·cases hz
 obtain ⟨row, hr⟩ := uP
 obtain ⟨i, z, hi, tP, vK, wG⟩ := OM hz hr
 refine ⟨i, z, row, hi, tP, hr, vK, ?_, by simp [Program.cellsOf, hi], wG⟩
 have := (wG (fun _ _ => True) (fun _ _ => Hd.of undef) (fun _ _ => .none) default).length
 have e1 : z.cells.toList.length = z.cells.size := Array.length_toList
 omega
def JG (σ : St) (x : V) (size : Nat) (news : List (List D)) : Prop :=
 match x with
 | .one (.d (.sl s rows)) => s = size /\ news = rows
 | .one (.nil _) => news = []
 | .one (.sref t j lo len) => ∃ rows, σ.ob t j = .arr false size rows /\ lo + len <= rows.length /\ news = cut rows lo len
 | _ => False
def WR (σ : St) (x : V) (size : Nat) (wI : List (List D)) (σ1 : St) : Prop :=
 match x with
 | .one (.nil _) => wI = [] /\ σ1 = σ
 | .one (.sref t j lo len) => ∃ rows, σ.ob t j = .arr false size rows /\ lo = 0 /\ len <= rows.length /\ wI = rows.take len /\ σ1 = σ.Zh t j .none
 | _ => False
theorem GG (v : Value) (n : Nat) : blk (ID v n) = blk v := by
 cases v with
 | slice o _ _ => cases o <;> rfl
 | _ => rfl
theorem MW (rows : List (List D)) (size : Nat) (hz : ∀ r ∈ rows, r.length = size) (len : Nat) (hle : len <= rows.length) : (rows.take len).flatten = rows.flatten.take (len * size) := by
 induction rows generalizing len with
 | nil => simp
 | cons r rows ih =>
  cases len with
  | zero => simp
  | succ len =>
   have h1 := hz r (by simp)
   have h2 := ih (fun q hq => hz q (by simp [hq])) len (by simpa using hle)
   have h3 : (len + 1) * size = r.length + len * size := by rw [Nat.add_mul, h1]; omega
   rw [List.take_succ_cons, List.flatten_cons, List.flatten_cons, h2, h3, List.take_length_add_append]
theorem Mj {e : TypeId} {size : Nat} {v : Value} {n len : Nat} {xs : List Value} (ho : w.ownsRow 0 e size v n xs) (hle : len <= n) : w.ownsRow 0 e size (ID v len) len (xs.take (len * size)) := by
 have hm : len * size <= n * size := Nat.mul_le_mul_right _ hle
 refine ⟨by rw [List.length_take, ho.1]; omega, ?_⟩
 rcases ho.2 with ⟨rfl, rfl⟩ | ⟨g, cap, cur, rfl, hx, hg, v9, pL, uB, uv⟩
 ·have : len = 0 := by omega
  subst this
  exact .inl ⟨rfl, rfl⟩
 ·refine .inr ⟨g, cap, cur, rfl, hx, hg, by omega, pL, uB, ?_⟩
  rw [<- uv, List.take_take]
  congr 1
  omega
theorem Nt (r : Rel T0 B σ a w X h) {x : V} {v : Value} {size : Nat} {news : List (List D)} (hs : JG σ x size news) (hv : XW (Tof T0 X) h σ.ob w x v) :
  (∀ n ∈ news, n.length = size) /\ ((v = .slice none 0 0 /\ news = []) \/ ∃ ad c xs, v = .slice (some ad) news.length c /\ (∀ j u, xs[j]? = some u -> w.cell? (ad.add j) = some u) /\ Zg (Rd (Tof T0 X) w) xs news.flatten) := by
 unfold JG at hs
 split at hs
 ·rename_i s rows
  obtain ⟨rfl, rfl⟩ := hs
  refine ⟨Oc (show Rd _ _ _ _ from hv), ?_⟩
  cases (show Rd _ _ _ _ from hv) with
  | nil => exact .inl ⟨rfl, rfl⟩
  | sl ad len cap s rows g hl hc hm hz sK hg hr =>
   refine .inr ⟨ad, cap, (List.range news.flatten.length).map g, by rw [hl], fun j u hu => ?_, ?_⟩
   ·rw [List.getElem?_map] at hu
    rcases Nat.lt_or_ge j news.flatten.length with hj | hj
    ·rw [List.getElem?_range hj] at hu
     cases hu
     have wC : news.flatten ≠ [] := by intro he; rw [he] at hj; simp at hj
     have := (hg j _ (List.getElem?_eq_getElem hj)).1
     obtain ⟨b, off, sp⟩ := ad
     have := sK wC
     simp at this; subst this
     rw [yA]; assumption
    ·rw [List.getElem?_eq_none (by simpa using hj)] at hu; cases hu
   ·refine Zg.J2 (by simp) (fun k u d hu hd => ?_)
    rw [List.getElem?_map] at hu
    have hk := (List.getElem?_eq_some_iff.1 hd).1
    rw [List.getElem?_range hk] at hu
    cases hu
    exact hr k d hd
 ·subst hs
  exact ⟨(by intro n hn; cases hn), .inl ⟨hv, rfl⟩⟩
 ·rename_i t j lo len
  obtain ⟨rows, ho, hle, rfl⟩ := hs
  have h0 := r.obj t j
  rw [ho] at h0
  obtain ⟨e, xs, ⟨hl, wL⟩, hz, wG⟩ := h0
  refine ⟨fun x hx => hz x (List.mem_of_mem_drop (List.mem_of_mem_take hx)), ?_⟩
  have tg : Zr (Tof T0 X) h σ.ob w (.sref t j lo len) v := hv
  obtain ⟨_, _, _, base, cap, rfl, vr, _, po, hb⟩ := tg.2.1 _ size rows ho
  have wk : (cut rows lo len).length = len := XO _ _ _ hle
  by_cases vO : 0 < len
  ·obtain ⟨b, tQ, hh, rfl⟩ := hb vO
   rcases wL with ⟨hn, _⟩ | ⟨g, r7, cur, tg, _, mq, v9, uE, uB, uv⟩
   ·rw [hh] at hn; cases hn
   ·rw [hh] at tg; cases tg
    refine .inr ⟨_, cap, cut xs (lo * size) (len * size), by rw [wk], fun j u hu => ?_, ?_⟩
    ·have h1 := zF _ _ _ _ _ hu
     rw [yA]
     refine Jw mq _ _ ?_
     rw [<- uv, List.getElem?_take] at h1
     split at h1
     ·exact h1
     ·cases h1
    ·have oq : xs.length = rows.length * size := by rw [wG.length, Z8 rows size hz]
     have hmul : lo * size + len * size <= rows.length * size := by rw [<- Nat.add_mul]; exact Nat.mul_le_mul_right _ hle
     refine Zg.J2 ?_ (fun k u d hu hd => ?_)
     ·rw [XO _ _ _ (by omega), Z8 (cut rows lo len) size (fun x hx => hz x (List.mem_of_mem_drop (List.mem_of_mem_take hx))), wk]
     ·have h1 := zF _ _ _ _ _ hu
      have h2 := zW rows size lo len hz k d hd
      obtain ⟨d', wQ, hr⟩ := wG.get _ _ h1
      rw [h2] at wQ; cases wQ
      exact hr
  ·have : len = 0 := by omega
   subst this
   have ux : cut rows lo 0 = [] := by simp [cut]
   rw [ux]
   cases base with
   | none => have := po rfl; subst this; exact .inl ⟨rfl, rfl⟩
   | some ad => exact .inr ⟨ad, cap, [], rfl, by simp, .nil⟩
 ·exact hs.elim
theorem Ma (r : Rel T0 B σ a w X h) {o : Oper} {t : TypeId} {x y : Operand} {d : Nat} {wI news : List (List D)} {σ1 : St} (wA : o.op = .call ⟨.builtin .append, #[x, y], #[t, t]⟩) (hd : o.dst = some d)
  (sL : gOf (look P σ t x) = true) (sM : gOf (look P σ t y) = true) (ht : Ya P t = true) (hz : XH P (ZD P t) = true) (vO : 0 < P.cellsOf (ZD P t))
  (uF : WR σ (unc (look P σ t x)) (P.cellsOf (ZD P t)) wI σ1) (uy : JG σ (unc (look P σ t y)) (P.cellsOf (ZD P t)) news) (vG : σ1.fresh d = true)
  (vi : (wI.length + news.length) * P.bytesOf (ZD P t) <= 140737488355328) (px : wI.length + news.length <= 9223372036854775807)
  {K : Act -> World -> Prop} {Q : Exit -> Act -> World -> Prop} (hK : ∀ a' w', QK T0 B (σ1.new d (.one (.sref d 0 0 (wI.length + news.length))) [.arr false (P.cellsOf (ZD P t)) (wI ++ news)]) a' w' -> Y0 B w w' -> K a' w') : o.wp P a w K Q := by
 obtain ⟨ti, hu, hi, uz⟩ := Y8 ht
 obtain ⟨i, z, row, vZ, tP, uP, u4, sB, v3, uQ⟩ := zJ hz
 rw [hi] at vZ; cases vZ
 have py : P.bytesOf (ZD P t) = ti.bytes := by simp [Program.bytesOf, hi]
 rw [py] at vi
 rw [<- v3] at uF uy vO hK
 have pD := r.arg (P := P) t x rfl sL
 have mM := r.arg (P := P) t y rfl sM
 obtain ⟨nH, vV⟩ := Nt r uy mM
 have vf : ∃ e0 xs, w.ownsRow 0 e0 ti.size (a.eval x) wI.length xs /\ (∀ q ∈ wI, q.length = ti.size) /\ Zg (Rd (Tof T0 X) w) xs wI.flatten /\ Rel T0 B σ1 a w X h /\
   (∀ b, blk (a.eval x) = some b -> ¬ B b /\ ¬ X b /\ b < w.heap.size /\ ∀ u j, σ1.ob u j ≠ .none -> ¬ (h u j).u b) := by
  unfold WR at uF
  split at uF
  ·rename_i s heq
   obtain ⟨rfl, rfl⟩ := uF
   rw [heq] at pD
   have he : a.eval x = .slice none 0 0 := pD
   rw [he]
   exact ⟨0, [], World.ownsRow_nil w 0 0 _, (by intro q hq; cases hq), .nil, r, (fun b hb => by cases hb)⟩
  ·rename_i u j lo len heq
   obtain ⟨rows, ho, rfl, hle, rfl, rfl⟩ := uF
   rw [heq] at pD
   have p9 : Zr (Tof T0 X) h σ.ob w (.sref u j 0 len) (a.eval x) := pD
   obtain ⟨_, _, tE, _⟩ := p9.2.1 _ _ _ ho
   have he : a.eval x = ID (h u j).v len := tE rfl
   have h0 := r.obj u j
   rw [ho] at h0
   obtain ⟨e, xs, wL, pB, wG⟩ := h0
   have wY : σ.ob u j ≠ .none := by rw [ho]; simp
   have mX : (rows.take len).length = len := by rw [List.length_take]; omega
   have vg : (rows.take len).flatten = rows.flatten.take (len * ti.size) := MW rows ti.size pB len hle
   refine ⟨e, xs.take (len * ti.size), by rw [he, mX]; exact Mj wL hle, fun q hq => pB q (List.mem_of_mem_take hq), by rw [vg]; exact wG.take _, r.drop u j, fun b hb => ?_⟩
   rw [he, GG] at hb
   have iJ := r.ub u j b wY hb
   have vv := r.own u j b wY iJ
   refine ⟨vv.1, vv.2.1, vv.2.2, fun u' j' wC wW => ?_⟩
   have lC : σ.ob u' j' ≠ .none := by
    intro hh
    rw [St.Xf σ u j _ u' j' wY] at wC
    split at wC
    ·exact wC rfl
    ·exact wC hh
   have := r.inj u j u' j' b wY lC iJ wW
   obtain ⟨rfl, rfl⟩ := this
   rw [St.Xf σ u j _ u j wY] at wC
   simp at wC
  ·exact uF.elim
 obtain ⟨e0, xs, wL, mz, pz, r1, vE⟩ := vf
 have oA : ∀ q ∈ wI ++ news, q.length = ti.size := by
  intro q hq
  rcases List.mem_append.1 hq with hq | hq
  ·exact mz q hq
  ·exact nH q hq
 have key : ∀ (v' : Value) (w' : World) (e1 : TypeId) (ys : List Value), (Builtin.append_ #[t, t] o.type #[a.eval x, a.eval y]).run P w = .ok v' w' -> w'.ownsRow 0 e1 ti.size v' (wI.length + news.length) (xs ++ ys) ->
   Zg (Rd (Tof T0 X) w) ys news.flatten -> w.grownBy w' (blk (a.eval x)) -> (∀ b, blk v' = some b -> (w.heap.size <= b /\ b < w'.heap.size) \/ blk (a.eval x) = some b) -> o.wp P a w K Q := by
  intro v' w' e1 ys wV wX rJ uK pP
  have wN := St.Jr vG
  have hT : ∀ b k v, Tof T0 X b k -> w.cell? ⟨b, k, none⟩ = some v -> w'.cell? ⟨b, k, none⟩ = some v /\ Tof T0 X b k := by
   intro b k v hb wM
   refine ⟨?_, hb⟩
   have wC : some b ≠ blk (a.eval x) := by
    intro e
    have h1 := vE b e.symm
    rcases hb with hb | hb
    ·exact h1.1 (r.hT b k hb)
    ·exact h1.2.1 hb
   rw [World.cell?_of_block (uK.block b (r.Tlt hb) wC)]; exact wM
  unfold Oper.wp
  have rN : (execOp a.eval o).run P w = .ok (.value v') w' := by
   simp only [execOp, wA, resolve, invoke, builtin, Sem.run_bind, Sem.run_pure, Result.andThen_ok, List.map_toArray, List.map_cons, List.map_nil, wV]
  rw [rN, Oper.upon_value, hd]
  refine hK _ _ ⟨X, fun u j => if u = d then Hd.of v' else h u j, ?_⟩ ⟨uK.os, uK.tape, uK.output, uK.size, fun k hk => uK.block k (r.hB k hk) (fun e => (vE k e.symm).1 hk)⟩
  have vU : (σ1.new d (.one (.sref d 0 0 (wI.length + news.length))) [.arr false ti.size (wI ++ news)]).ob d 0 = .arr false ti.size (wI ++ news) := by rw [St.X7]; simp [wN, YB]
  have ua : w'.ownsRow 0 e1 ti.size v' (wI ++ news).length (xs ++ ys) := by rw [List.length_append]; exact wX
  have tU : Zg (Rd (Tof T0 X) w') (xs ++ ys) (wI ++ news).flatten := by
   rw [List.flatten_append]
   exact (pz.imp fun _ _ => Rd.mono hT).append (rJ.imp fun _ _ => Rd.mono hT)
  refine r1.F8 vG (fun b => blk (a.eval x) = some b) uK.size (fun k hk wC => uK.block k hk (fun e => wC e.symm)) (fun b hb => ⟨(vE b hb).1, (vE b hb).2.1, fun u j _ wC => (vE b hb).2.2.2 u j wC⟩) (fun _ hb => hb) (fun _ hb => .inl hb) _ _ [.arr false ti.size (wI ++ news)] (fun _ => Hd.of v') ?_ (fun j => ?_) (fun j b _ hb => hb) (fun j b wC wW => ?_) (fun j j' b wC wz _ _ => ?_)
  ·refine ⟨Ji wX, fun q' wZ wT hh => ?_, fun wZ wT hh => by rw [vU] at hh; cases hh⟩
   rw [vU] at hh; cases hh
   simp only [if_true, List.length_append]
   have := V9 ua
   rwa [List.length_append] at this
  ·cases j with
   | zero => exact ⟨e1, xs ++ ys, ua, oA, tU⟩
   | succ j => simp [YB, X6]
  ·rcases pP b wW with h1 | h1
   ·exact ⟨.inl h1.1, fun hx => by have := (r.hX b hx).2; omega, h1.2⟩
   ·have h2 := vE b h1
    exact ⟨.inr h1, h2.2.1, by have := uK.size; omega⟩
  ·have : ∀ j, YB [Ob.arr false ti.size (wI ++ news)] j ≠ .none -> j = 0 := by
    intro j hj
    cases j with
    | zero => rfl
    | succ j => simp [YB] at hj
   rw [this j wC, this j' wz]
 rcases vV with ⟨nM, rfl⟩ | ⟨ad, c, ys, nM, wM, rJ⟩
 ·have wi : ∃ base cap, a.eval x = .slice base wI.length cap /\ wI.length <= cap /\ (base = none -> cap = 0) := by
   rcases wL.2 with ⟨h1, h2⟩ | ⟨g, cap, cur, h1, _, _, v9, _⟩
   ·exact ⟨none, 0, by rw [h1, h2], by omega, fun _ => rfl⟩
   ·exact ⟨_, cap, h1, v9, (fun hh => by cases hh)⟩
  obtain ⟨base, cap, hex, v9, nF⟩ := wi
  refine key (a.eval x) w e0 [] ?_ (by simpa using wL) .nil ⟨rfl, rfl, rfl, Nat.le_refl _, fun _ _ _ => rfl⟩ (fun b hb => .inr hb)
  rw [hex, nM]
  exact qZ t o.type _ ti hu hi base wI.length cap v9 nF
 ·have uc : ys.length = news.length * ti.size := by rw [rJ.length, Z8 news ti.size nH]
  obtain ⟨v', w', e1, wV, wX, uK, pP⟩ := Vx (P := P) (w := w) t o.type _ e0 ti z hu hi tP sB (by omega) (a.eval x) wI.length xs wL ad news.length c ys uc wM
   (fun u vx => by
    obtain ⟨k, hk⟩ := List.mem_iff_getElem?.1 vx
    obtain ⟨d', _, vR⟩ := rJ.get k u hk
    exact Rd.XG vR) (by simp only [maxLen]; omega) vi
  refine key v' w' e1 ys ?_ wX rJ uK pP
  rw [nM]; exact wV
end
end Go.Vm
namespace Go.Vm
open Go.RowKit
section
variable {P : Program} {T0 : CS} {B : Nat -> Prop} {σ : St} {a : Act} {w w' : World} {X X' : Nat -> Prop} {h : Nat -> Nat -> Hd}
def Td (P : Program) (σ : St) (T : TypeId) (size : Nat) : List (Nat × Operand) -> Nat -> List (List D) -> Prop
 | [], _, rs => rs = []
 | (i, x) :: ps, k, rs => i = k /\ gOf (look P σ T x) = true /\ (unc (look P σ T x)).flat = true /\ Ql (unc (look P σ T x)).cells = true /\
   ∃ r rest, rowOf σ (unc (look P σ T x)).cells = some r /\ r.length = size /\ Td P σ T size ps (k + 1) rest /\ rs = r :: rest
theorem RB {α : Type} (l : List α) (o : Nat) (xs ys : List α) (hl : o + (xs ++ ys).length <= l.length) : place (place l o xs) (o + xs.length) ys = place l o (xs ++ ys) := by
 simp only [List.length_append] at hl
 unfold place
 have h1 : (l.take o ++ xs).length = o + xs.length := by simp; omega
 have h2 : (l.take o ++ xs ++ l.drop (o + xs.length)).take (o + xs.length) = l.take o ++ xs := by
  rw [List.take_append_of_le_length (by omega), List.take_of_length_le (by omega)]
 have h3 : (l.take o ++ xs ++ l.drop (o + xs.length)).drop (o + xs.length + ys.length) = l.drop (o + (xs ++ ys).length) := by
  rw [show o + xs.length + ys.length = (l.take o ++ xs).length + ys.length by omega, List.drop_length_add_append, List.drop_drop]
  congr 1; simp; omega
 rw [h2, h3]; simp
theorem Se (r : Rel T0 B σ a w X h) (T : TypeId) (size : Nat) : ∀ (ps : List (Nat × Operand)) (k : Nat) (rs : List (List D)) (cells : Array Value), Td P σ T size ps k rs -> (k + ps.length) * size <= cells.size ->
   ∃ wJ ys, Instr.fill (fun i => some (i * size, size)) cells (ps.map fun x => (x.1, a.eval x.2)) = some wJ /\ wJ.toList = place cells.toList (k * size) ys /\ Zg (Rd (Tof T0 X) w) ys rs.flatten /\ (∀ q ∈ rs, q.length = size) /\ rs.length = ps.length
 | [], k, rs, cells, hb, _ => by cases hb; exact ⟨cells, [], rfl, by simp [place], .nil, (by intro q hq; cases hq), rfl⟩
 | (i, x) :: ps, k, rs, cells, hb, hl => by
  obtain ⟨rfl, hg, hf, wa, r0, rest, uo, hlen, hb, rfl⟩ := hb
  have hx := qP hf (r.arg (P := P) T x rfl hg)
  have pQ := r.rowOf true uo hx (fun _ => wa)
  simp only [if_true] at pQ
  have r9 := pQ.length
  have e1 : cells.toList.length = cells.size := Array.length_toList
  have e2 : (a.eval x).cells.toList.length = (a.eval x).cells.size := Array.length_toList
  have hmul : (i + (ps.length + 1)) * size = i * size + size + ps.length * size := by rw [Nat.add_mul, Nat.add_mul]; omega
  simp only [List.length_cons] at hl
  have heq := WQ (i * size) (a.eval x).cells cells (by omega)
  have u4 : ((a.eval x).cells.zipIdx.foldl (fun cs x => cs.setIfInBounds (i * size + x.2) x.1) cells).size = cells.size := by
   rw [<- Array.length_toList, heq, XE _ _ _ (by omega), e1]
  have nR : (i + 1 + ps.length) * size = i * size + size + ps.length * size := by rw [Nat.add_mul, Nat.add_mul]; omega
  obtain ⟨wJ, ys, h1, h2, h3, h4, h5⟩ := Se r T size ps (i + 1) rest _ hb (by rw [u4]; omega)
  have uc : ys.length = ps.length * size := by rw [h3.length, Z8 rest size h4, h5]
  refine ⟨wJ, (a.eval x).cells.toList ++ ys, ?_, ?_, ?_, ?_, by simp [h5]⟩
  ·simp only [List.map_cons, Instr.fill]
   rw [if_neg (by simp; omega)]
   exact h1
  ·rw [h2, heq]
   rw [show (i + 1) * size = i * size + (a.eval x).cells.toList.length by rw [Nat.add_mul]; omega]
   exact RB _ _ _ _ (by simp; omega)
  ·rw [List.flatten_cons]; exact pQ.append h3
  ·intro q hq
   rcases List.mem_cons.1 hq with rfl | hq
   ·exact hlen
   ·exact h4 q hq
theorem SF (r : Rel T0 B σ a w X h) {o : Oper} {T : TypeId} {n : Nat} {parts : Array (Nat × Operand)} {d : Nat} {rows : List (List D)} (wA : o.op = .buildSlice T n parts) (hd : o.dst = some d) (vG : σ.fresh d = true)
  (ht : Ya P T = true) (hz : XH P (ZD P T) = true) (vO : 0 < P.cellsOf (ZD P T)) (hn : parts.toList.length = n) (iH : n * P.cellsOf (ZD P T) <= 16777216) (hb : Td P σ (ZD P T) (P.cellsOf (ZD P T)) parts.toList 0 rows)
  {K : Act -> World -> Prop} {Q : Exit -> Act -> World -> Prop} (hK : ∀ a' w', QK T0 B (σ.new d (.one (.sref d 0 0 rows.length)) [.arr false (P.cellsOf (ZD P T)) rows]) a' w' -> Y0 B w w' -> K a' w') : o.wp P a w K Q := by
 obtain ⟨ti, hu, hi, uz⟩ := Y8 ht
 obtain ⟨i, z, row, vZ, tP, uP, u4, sB, v3, uQ⟩ := zJ hz
 rw [hi] at vZ; cases vZ
 have uI : (zeroValue (ZD P T)).run P w = .ok z w := by simp [zeroValue, typeInfo, hi, tP]
 obtain ⟨zero, hzero⟩ : ∃ zero : Array Value, (n * P.cellsOf (ZD P T) = 0 -> zero = #[]) /\ (¬ n * P.cellsOf (ZD P T) = 0 -> zero = z.cells) := by
  by_cases h0 : n * P.cellsOf (ZD P T) = 0
  ·exact ⟨#[], fun _ => rfl, fun hh => absurd h0 hh⟩
  ·exact ⟨z.cells, fun hh => absurd hh h0, fun _ => rfl⟩
 obtain ⟨wJ, ys, h1, h2, h3, h4, h5⟩ := Se r (ZD P T) (P.cellsOf (ZD P T)) parts.toList 0 rows ((Array.range (n * P.cellsOf (ZD P T))).map (zero[· % zero.size]!)) hb (by simp [hn])
 have uc : ys.length = n * P.cellsOf (ZD P T) := by rw [h3.length, Z8 rows _ h4, h5, hn]
 have wk : wJ.toList = ys := by
  rw [h2]
  unfold place
  simp [uc]
 have uZ : (parts.map fun (x : Nat × Operand) => (x.1, a.eval x.2)).toList = parts.toList.map fun x => (x.1, a.eval x.2) := by simp
 have wV : (execOp a.eval o).run P w = .ok (.value (.slice (some ⟨w.heap.size, 0, none⟩) n n)) (w.alloc (.cells wJ (ZD P T))) := by
  have u5 : ¬ (n * P.cellsOf (ZD P T) > 2 ^ 24) := by omega
  by_cases h0 : n * P.cellsOf (ZD P T) = 0
  ·have tj := hzero.1 h0
   subst tj
   simp only [execOp, wA, Instr.buildSlice, Sem.run_bind, run_underlying hu, Result.andThen_ok, X5 hi, if_neg u5, if_pos h0, uZ, h1, newRow, Sem.run_pure, run_newObj_alloc]
  ·have tj := hzero.2 h0
   subst tj
   simp only [execOp, wA, Instr.buildSlice, Sem.run_bind, run_underlying hu, Result.andThen_ok, X5 hi, if_neg u5, if_neg h0, uI, uZ, h1, newRow, Sem.run_pure, run_newObj_alloc]
 unfold Oper.wp
 rw [wV, Oper.upon_value, hd]
 have hlen : rows.length = n := by rw [h5, hn]
 have hT : ∀ b k v, Tof T0 X b k -> w.cell? ⟨b, k, none⟩ = some v -> (w.alloc (.cells wJ (ZD P T))).cell? ⟨b, k, none⟩ = some v /\ Tof T0 X b k := by
  intro b k v hb wM
  refine ⟨?_, hb⟩
  rw [World.cell?_of_block ((World.grownBy_alloc w (.cells wJ (ZD P T)) none).block b (r.Tlt hb) (by simp))]; exact wM
 have rO : wJ.size = n * P.cellsOf (ZD P T) := by rw [<- Array.length_toList, wk, uc]
 have uE : n <= maxLen := by
  have : n <= n * P.cellsOf (ZD P T) := Nat.le_mul_of_pos_right _ vO
  simp only [maxLen]; omega
 have := r.Gr vG (World.grownBy_alloc w (.cells wJ (ZD P T)) none) (.slice (some ⟨w.heap.size, 0, none⟩) n n) (size := P.cellsOf (ZD P T)) (rows := rows)
  ⟨ZD P T, ys, ⟨by rw [uc, hlen], .inr ⟨w.heap.size, n, wJ, by rw [hlen], Nat.zero_le _, heap_alloc_new w _, by omega, uE, rO, by rw [wk, hlen, List.take_of_length_le (by omega)]⟩⟩, h4, h3.imp fun _ _ => Rd.mono hT⟩
  (fun b hb => by simp [blk] at hb; subst hb; exact ⟨Nat.le_refl _, by simp⟩)
 exact hK _ _ this.1 this.2
theorem My (r : Rel T0 B σ a w X h) {o : Oper} {T : TypeId} {n : Nat} {parts : Array (Nat × Operand)} {d : Nat} {rows : List (List D)} (wA : o.op = .buildSlice T n parts) (hd : o.dst = some d)
  (ht : Ya P T = true) (hz : XH P (ZD P T) = true) (vO : 0 < P.cellsOf (ZD P T)) (hn : parts.toList.length = n) (iH : n * P.cellsOf (ZD P T) <= 16777216) (hb : Td P σ (ZD P T) (P.cellsOf (ZD P T)) parts.toList 0 rows)
  {K : Act -> World -> Prop} {Q : Exit -> Act -> World -> Prop} (hK : ∀ a' w', QK T0 B (σ.put d (.one (.d (.sl (P.cellsOf (ZD P T)) rows)))) a' w' -> Y0 B w w' -> K a' w') : o.wp P a w K Q := by
 obtain ⟨ti, hu, hi, uz⟩ := Y8 ht
 obtain ⟨i, z, row, vZ, tP, uP, u4, sB, v3, uQ⟩ := zJ hz
 rw [hi] at vZ; cases vZ
 have uI : (zeroValue (ZD P T)).run P w = .ok z w := by simp [zeroValue, typeInfo, hi, tP]
 obtain ⟨zero, hzero⟩ : ∃ zero : Array Value, (n * P.cellsOf (ZD P T) = 0 -> zero = #[]) /\ (¬ n * P.cellsOf (ZD P T) = 0 -> zero = z.cells) := by
  by_cases h0 : n * P.cellsOf (ZD P T) = 0
  ·exact ⟨#[], fun _ => rfl, fun hh => absurd h0 hh⟩
  ·exact ⟨z.cells, fun hh => absurd hh h0, fun _ => rfl⟩
 obtain ⟨wJ, ys, h1, h2, h3, h4, h5⟩ := Se r (ZD P T) (P.cellsOf (ZD P T)) parts.toList 0 rows ((Array.range (n * P.cellsOf (ZD P T))).map (zero[· % zero.size]!)) hb (by simp [hn])
 have uc : ys.length = n * P.cellsOf (ZD P T) := by rw [h3.length, Z8 rows _ h4, h5, hn]
 have wk : wJ.toList = ys := by
  rw [h2]
  unfold place
  simp [uc]
 have uZ : (parts.map fun (x : Nat × Operand) => (x.1, a.eval x.2)).toList = parts.toList.map fun x => (x.1, a.eval x.2) := by simp
 have wV : (execOp a.eval o).run P w = .ok (.value (.slice (some ⟨w.heap.size, 0, none⟩) n n)) (w.alloc (.cells wJ (ZD P T))) := by
  have u5 : ¬ (n * P.cellsOf (ZD P T) > 2 ^ 24) := by omega
  by_cases h0 : n * P.cellsOf (ZD P T) = 0
  ·have tj := hzero.1 h0
   subst tj
   simp only [execOp, wA, Instr.buildSlice, Sem.run_bind, run_underlying hu, Result.andThen_ok, X5 hi, if_neg u5, if_pos h0, uZ, h1, newRow, Sem.run_pure, run_newObj_alloc]
  ·have tj := hzero.2 h0
   subst tj
   simp only [execOp, wA, Instr.buildSlice, Sem.run_bind, run_underlying hu, Result.andThen_ok, X5 hi, if_neg u5, if_neg h0, uI, uZ, h1, newRow, Sem.run_pure, run_newObj_alloc]
 unfold Oper.wp
 rw [wV, Oper.upon_value, hd]
 have hlen : rows.length = n := by rw [h5, hn]
 have s4 := World.grownBy_alloc w (.cells wJ (ZD P T)) none
 have r2 := r.grow (X' := fun b => X b \/ b = w.heap.size) s4 (fun b hb => .inl hb) (fun b hb => hb.imp id (fun hh => by subst hh; exact ⟨Nat.le_refl _, by simp⟩))
 have hT : ∀ b k v, Tof T0 X b k -> w.cell? ⟨b, k, none⟩ = some v -> (w.alloc (.cells wJ (ZD P T))).cell? ⟨b, k, none⟩ = some v /\ Tof T0 (fun b => X b \/ b = w.heap.size) b k := by
  intro b k v hb wM
  refine ⟨?_, hb.imp id .inl⟩
  rw [World.cell?_of_block (s4.block b (r.Tlt hb) (by simp))]; exact wM
 have rO : wJ.size = n * P.cellsOf (ZD P T) := by rw [<- Array.length_toList, wk, uc]
 have uE : n <= maxLen := by
  have : n <= n * P.cellsOf (ZD P T) := Nat.le_mul_of_pos_right _ vO
  simp only [maxLen]; omega
 refine hK _ _ ⟨_, _, r2.put d _ _ ?_⟩ (Y0.kM s4 r.hB)
 exact HL (e := ZD P T) (xs := ys) ⟨by rw [uc, hlen], .inr ⟨w.heap.size, n, wJ, by rw [hlen], Nat.zero_le _, heap_alloc_new w _, by omega, uE, rO, by rw [wk, hlen, List.take_of_length_le (by omega)]⟩⟩ h4 (fun b k hb => by simp [blk] at hb; subst hb; exact .inr (.inr rfl)) (h3.imp fun _ _ => Rd.mono hT)
def zD : List At -> Option (List D)
 | [] => some []
 | .d x :: xs => (zD xs).map (x :: ·)
 | .nil s :: xs => (zD xs).map (.sl s [] :: ·)
 | _ => none
theorem M5 {T : CS} {ob : Nat -> Nat -> Ob} : ∀ {xs : List At} {ds : List D} {vs : List Value}, zD xs = some ds -> Zg (Zr T h ob w) xs vs -> Zg (Rd T w) vs ds
 | [], ds, vs, hz, wG => by cases wG; simp [zD] at hz; subst hz; exact .nil
 | x :: xs, ds, vs, hz, wG => by
  cases wG with
  | cons hx wG =>
   cases x with
   | d x =>
    simp only [zD, Option.map_eq_some_iff] at hz
    obtain ⟨sX, uw, rfl⟩ := hz
    exact .cons hx (M5 uw wG)
   | nil s =>
    simp only [zD, Option.map_eq_some_iff] at hz
    obtain ⟨sX, uw, rfl⟩ := hz
    cases hx
    exact .cons (.nil _) (M5 uw wG)
   | any => simp [zD] at hz
   | sref => simp [zD] at hz
   | ptr => simp [zD] at hz
   | bptr => simp [zD] at hz
   | fn => simp [zD] at hz
   | rptr => simp [zD] at hz
   | tref => simp [zD] at hz
theorem yd {α : Type} (z : List α) (n k : Nat) (hk : k < n * z.length) : (List.replicate n z).flatten[k]? = z[k % z.length]? := by
 induction n generalizing k with
 | zero => simp at hk
 | succ n ih =>
  rw [List.replicate_succ, List.flatten_cons]
  rcases Nat.lt_or_ge k z.length with wN | uk
  ·rw [List.getElem?_append_left wN, Nat.mod_eq_of_lt wN]
  ·rw [List.getElem?_append_right uk, ih (k - z.length) (by rw [Nat.add_mul] at hk; omega)]
   congr 1
   rw [Nat.mod_eq_sub_mod uk]
theorem RZ (r : Rel T0 B σ a w X h) {o : Oper} {T : TypeId} {x : Operand} {d : Nat} {k : IntKind} {n : Nat} {z : List At} {zr : List D} (wA : o.op = .makeSlice T x x) (hd : o.dst = some d) (vG : σ.fresh d = true)
  (ht : Ya P T = true) (hz : XH P (ZD P T) = true) (uP : xG P 12 (ZD P T) = some z) (mK : zD z = some zr) (vO : 0 < P.cellsOf (ZD P T)) (hx : qo P σ x k (n : Int)) (py : P.bytesOf (ZD P T) * n <= 281474976710656) (px : n <= 9223372036854775807)
  {K : Act -> World -> Prop} {Q : Exit -> Act -> World -> Prop} (hK : ∀ a' w', QK T0 B (σ.new d (.one (.sref d 0 0 n)) [.arr false (P.cellsOf (ZD P T)) (List.replicate n zr)]) a' w' -> Y0 B w w' -> K a' w') : o.wp P a w K Q := by
 obtain ⟨ti, hu, hi, uz⟩ := Y8 ht
 obtain ⟨i, zv, row, vZ, tP, rK, u4, sB, v3, uQ⟩ := zJ hz
 rw [hi] at vZ; cases vZ
 rw [uP] at rK; cases rK
 have hex := KW r hx
 have oB : (ti.bytes : Int) * (n : Int) <= 281474976710656 := by
  have : P.bytesOf (ZD P T) = ti.bytes := by simp [Program.bytesOf, hi]
  rw [this] at py
  have h : ((ti.bytes * n : Nat) : Int) <= 281474976710656 := by omega
  rwa [Int.natCast_mul] at h
 have wV := run_make (P := P) w T (ZD P T) ti zv hu hi tP k k n n (by omega) (Int.le_refl _) oB (by omega)
 simp only [Int.toNat_natCast] at wV
 unfold Oper.wp
 simp only [execOp, wA, hex, Sem.run_bind, wV, Result.andThen_ok, Sem.run_pure, Oper.upon_value, hd]
 have pE := M5 mK (uQ (Tof T0 X) h σ.ob w)
 have gU := pE.length
 have e1 : zv.cells.toList.length = zv.cells.size := Array.length_toList
 have sC : zr.length = ti.size := by omega
 have hT : ∀ b k v, Tof T0 X b k -> w.cell? ⟨b, k, none⟩ = some v -> (w.alloc (.cells (madeCells zv.cells (n * ti.size)) (ZD P T))).cell? ⟨b, k, none⟩ = some v /\ Tof T0 X b k := by
  intro b k v hb wM
  refine ⟨?_, hb⟩
  rw [World.cell?_of_block ((World.grownBy_alloc w (.cells (madeCells zv.cells (n * ti.size)) (ZD P T)) none).block b (r.Tlt hb) (by simp))]; exact wM
 have ud : (madeCells zv.cells (n * ti.size)).toList.length = n * ti.size := by rw [Array.length_toList, size_madeCells]
 have rP : ∀ q u, (madeCells zv.cells (n * ti.size)).toList[q]? = some u -> zv.cells.toList[q % ti.size]? = some u := by
  intro q u hq
  have wN : q < n * ti.size := by have := (List.getElem?_eq_some_iff.1 hq).1; omega
  have oC : q % ti.size < zv.cells.size := by rw [sB]; exact Nat.mod_lt _ (by omega)
  have : (madeCells zv.cells (n * ti.size)).toList[q]? = some (zv.cells[q % zv.cells.size]!) := by
   simp [madeCells, wN]
  rw [this] at hq
  cases hq
  rw [sB]
  simp [oC]
 have tU : Zg (Rd (Tof T0 X) w) (madeCells zv.cells (n * ti.size)).toList (List.replicate n zr).flatten := by
  refine Zg.J2 (by rw [ud, Z8 _ ti.size (by intro q hq; rw [List.eq_of_mem_replicate hq]; exact sC)]; simp) (fun q u dd hq uA => ?_)
  have wN : q < n * ti.size := by have := (List.getElem?_eq_some_iff.1 hq).1; omega
  rw [yd zr n q (by rw [sC]; exact wN), sC] at uA
  obtain ⟨d', wQ, vR⟩ := pE.get _ _ (rP q u hq)
  rw [uA] at wQ; cases wQ
  exact vR
 have := r.Gr vG (World.grownBy_alloc w (.cells (madeCells zv.cells (n * ti.size)) (ZD P T)) none) (.slice (some ⟨w.heap.size, 0, none⟩) n n) (size := P.cellsOf (ZD P T)) (rows := List.replicate n zr)
  ⟨ZD P T, (madeCells zv.cells (n * ti.size)).toList, ⟨by rw [ud, v3]; simp, .inr ⟨w.heap.size, n, _, by simp, Nat.zero_le _, heap_alloc_new w _, by simp, by simp only [maxLen]; omega, by rw [size_madeCells, v3], by rw [List.take_of_length_le (by rw [ud, v3]; simp)]⟩⟩,
   (by intro q hq; rw [List.eq_of_mem_replicate hq]; omega), tU.imp fun _ _ => Rd.mono hT⟩
  (fun b hb => by simp [blk] at hb; subst hb; exact ⟨Nat.le_refl _, by simp⟩)
 rw [List.length_replicate] at this
 exact hK _ _ this.1 this.2
end
end Go.Vm
namespace Go.Vm
open Go.RowKit
def QE (l : List UInt8) : List (List D) := l.map fun b => [D.int .u8 (b.toNat : Int)]
def VY (P : Program) (t : TypeId) : Bool := match P.underlying t with
 | some (.slice e) => (match P.underlying e with | some (.int .u8) => true | _ => false)
 | _ => false
theorem S0 {P : Program} {t : TypeId} (ht : VY P t = true) : ∃ e, P.underlying t = some (.slice e) /\ P.underlying e = some (.int .u8) := by
 unfold VY at ht
 split at ht
 ·rename_i e he
  split at ht
  ·rename_i h2; exact ⟨e, he, h2⟩
  ·cases ht
 ·cases ht
theorem kj (l : List UInt8) : (QE l).flatten = l.map fun b => D.int .u8 (b.toNat : Int) := by
 induction l with
 | nil => rfl
 | cons b l ih => simp only [QE, List.map_cons, List.flatten_cons] at ih ⊢; rw [ih]; rfl
section
variable {P : Program} {T0 : CS} {B : Nat -> Prop} {σ : St} {a : Act} {w w' : World} {X X' : Nat -> Prop} {h : Nat -> Nat -> Hd}
theorem UJ (r : Rel T0 B σ a w X h) {o : Oper} {S T : TypeId} {x : Operand} {l : List UInt8} (wA : o.op = .convert S T x) (hg : gOf (look P σ S x) = true) (hS : VY P S = true) (hT : j7 P T = true)
  (uy : JG σ (unc (look P σ S x)) 1 (QE l)) : ∃ val, (execOp a.eval o).run P w = .ok (.value val) w /\ XW (Tof T0 X) h σ.ob w (.one (.d (.str ⟨l.toArray⟩))) val := by
 obtain ⟨e, hs, he⟩ := S0 hS
 have hv := r.arg (P := P) S x rfl hg
 obtain ⟨_, vV⟩ := Nt r uy hv
 refine ⟨.string ⟨l.toArray⟩, ?_, .str _⟩
 rcases vV with ⟨hex, ux⟩ | ⟨ad, c, xs, hex, wM, wG⟩
 ·have hl : l = [] := by cases l with
   | nil => rfl
   | cons b l => simp [QE] at ux
  subst hl
  have hr : (convert S T (.slice none 0 0)).run P w = .ok (.string ⟨#[]⟩) w := by
   rw [run_convert_bytes_string w S T e none 0 0 hs he (zK hT)]
   rfl
  simp only [execOp, wA, hex, Sem.run_bind, hr, Result.andThen_ok, Sem.run_pure, List.toArray]
 ·have hlen : (QE l).length = l.length := by simp [QE]
  rw [hlen] at hex
  have hr := run_convert_bytes_back (P := P) w S T e ad c l hs he (zK hT) (fun j hj => by
   rw [kj] at wG
   obtain ⟨u, hu, hr⟩ := wG.get' j (D.int .u8 (l[j].toNat : Int)) (by simp [hj])
   have := WV hr
   subst this
   exact wM j _ hu)
  simp only [execOp, wA, hex, Sem.run_bind, hr, Result.andThen_ok, Sem.run_pure]
theorem UG (r : Rel T0 B σ a w X h) {o : Oper} {S T : TypeId} {x : Operand} {d : Nat} {s : ByteArray} (wA : o.op = .convert S T x) (hd : o.dst = some d) (hg : gOf (look P σ S x) = true) (hS : j7 P S = true) (hT : VY P T = true)
  (hx : unc (look P σ S x) = .one (.d (.str s))) (vK : s.size <= 9223372036854775807)
  {K : Act -> World -> Prop} {Q : Exit -> Act -> World -> Prop} (hK : ∀ a' w', QK T0 B (σ.put d (.one (.d (.sl 1 (QE s.data.toList))))) a' w' -> Y0 B w w' -> K a' w') : o.wp P a w K Q := by
 obtain ⟨e, uA, he⟩ := S0 hT
 have hex := VT (r.arg (P := P) S x hx hg)
 have wV := run_bytes_of_string (P := P) w S T e s (zK hS) uA he
 unfold Oper.wp
 simp only [execOp, wA, hex, Sem.run_bind, wV, Result.andThen_ok, Sem.run_pure, Oper.upon_value, hd]
 generalize vr : grownCap w s.size 0 e = cap at *
 have uk : s.size <= cap := by rw [<- vr]; exact grownCap_ge w s.size 0 e
 have uE : cap <= maxLen := by rw [<- vr]; exact grownCap_le_maxLen w s.size 0 e (by simp only [maxLen]; omega)
 generalize hw' : w.drew.alloc (.cells (bytesRow s cap) e ((bytesRow s cap).size, (bytesRow s cap).size + 1)) = w'
 have s4 : w.grownBy w' none := by
  rw [<- hw']
  exact ⟨rfl, rfl, rfl, by simp, fun k hk _ => (World.grownBy_alloc w.drew _ none).block k hk (by simp)⟩
 have tS : w'.heap[w.heap.size]? = some (.cells (bytesRow s cap) e ((bytesRow s cap).size, (bytesRow s cap).size + 1)) := by rw [<- hw']; exact heap_alloc_new w.drew _
 have nS : w.heap.size < w'.heap.size := (Array.getElem?_eq_some_iff.1 tS).1
 have r2 := r.grow (X' := fun b => X b \/ b = w.heap.size) s4 (fun b hb => .inl hb) (fun b hb => hb.imp id (fun hh => by subst hh; exact ⟨Nat.le_refl _, nS⟩))
 refine hK _ _ ⟨_, _, r2.put d _ _ ?_⟩ (Y0.kM s4 r.hB)
 have vg := kj s.data.toList
 refine Rd.sl ⟨w.heap.size, 0, none⟩ s.size cap 1 _ (fun k => .int .u8 ((s.data.toList.getD k 0).toNat : Int)) (by simp [QE]) uk uE (by intro q hq; simp [QE] at hq; obtain ⟨b, _, rfl⟩ := hq; rfl) (fun _ => rfl) (fun k dd hk => ?_) (fun k dd hk => ?_)
 ·rw [vg, List.getElem?_map] at hk
  cases hb : s.data.toList[k]? with
  | none => rw [hb] at hk; cases hk
  | some b =>
   refine ⟨?_, .inr (.inr rfl)⟩
   simp only [Nat.zero_add]
   refine Jw tS _ _ ?_
   have lD : k < s.data.size := by have := (List.getElem?_eq_some_iff.1 hb).1; simpa using this
   simp only [bytesRow]
   rw [Array.toList_append, List.getElem?_append_left (by simpa using lD)]
   simp [hb]
 ·rw [vg, List.getElem?_map] at hk
  cases hb : s.data.toList[k]? with
  | none => rw [hb] at hk; cases hk
  | some b =>
   rw [hb] at hk; cases hk
   rw [List.getD_eq_getElem?_getD, hb]
   exact .int _ _
end
end Go.Vm
namespace Go.Vm
open Go.RowKit
def YL : List At -> List (Nat × Nat)
 | [] => []
 | .sref t j _ _ :: xs => (t, j) :: YL xs
 | _ :: xs => YL xs
def mvD (σ : St) : At -> Option D
 | .d (.sl _ _) => none
 | .d x => some x
 | .nil s => some (.sl s [])
 | .sref t j lo len => (match σ.ob t j with | .arr _ size rows => if lo = 0 /\ len = rows.length then some (.sl size rows) else none | _ => none)
 | _ => none
def O3 (σ : St) : At -> Prop
 | .sref t j _ _ => (match σ.ob t j with | .arr false _ rows => ∀ r ∈ rows, ∀ x ∈ r, x.scalar = true | _ => True)
 | _ => True
def Qd (σ : St) : List At -> Option (List D)
 | [] => some []
 | x :: xs => (match mvD σ x, Qd σ xs with | some d, some ds => some (d :: ds) | _, _ => none)
def Xj (σ : St) : List At -> Prop
 | [] => True
 | x :: xs => O3 σ x /\ Xj σ xs
def QY (σ : St) : List (List At) -> Option (List (List D))
 | [] => some []
 | xs :: rest => (match Qd σ xs, QY σ rest with | some r, some rs => some (r :: rs) | _, _ => none)
def QI (σ : St) : List (List At) -> Prop
 | [] => True
 | x :: xs => Xj σ x /\ QI σ xs
theorem RD : ∀ (xs : List At) (i j : Nat) (t u lo len rm uq : Nat), (YL xs).Nodup -> xs[i]? = some (.sref t u lo len) -> xs[j]? = some (.sref t u rm uq) -> i = j := by
 intro xs
 induction xs with
 | nil => intro i j t u lo len rm uq _ hi; simp at hi
 | cons x xs ih =>
  intro i j t u lo len rm uq w9 hi hj
  have mem : ∀ (k lo len : Nat), xs[k]? = some (At.sref t u lo len) -> (t, u) ∈ YL xs := by
   intro k lo len hk
   clear ih w9 hi hj
   induction xs generalizing k with
   | nil => simp at hk
   | cons y ys r5 =>
    cases k with
    | zero => simp at hk; subst hk; simp [YL]
    | succ k =>
     have := r5 k (by simpa using hk)
     cases y <;> simp [YL, this]
  have gV : (YL xs).Nodup := by
   cases x <;> simp only [YL] at w9 <;> first | exact w9 | exact (List.nodup_cons.1 w9).2
  cases i with
  | zero =>
   simp at hi; subst hi
   cases j with
   | zero => rfl
   | succ j =>
    simp only [YL] at w9
    exact absurd (mem j rm uq (by simpa using hj)) (List.nodup_cons.1 w9).1
  | succ i =>
   cases j with
   | zero =>
    simp at hj; subst hj
    simp only [YL] at w9
    exact absurd (mem i lo len (by simpa using hi)) (List.nodup_cons.1 w9).1
   | succ j => rw [ih i j t u lo len rm uq gV (by simpa using hi) (by simpa using hj)]
theorem Np : ∀ {xs : List At} {k t j lo len : Nat}, xs[k]? = some (At.sref t j lo len) -> (t, j) ∈ YL xs
 | [], k, t, j, lo, len, h => by simp at h
 | x :: xs, 0, t, j, lo, len, h => by simp at h; subst h; simp [YL]
 | x :: xs, k + 1, t, j, lo, len, h => by
  have := Np (xs := xs) (k := k) (by simpa using h)
  cases x <;> simp [YL, this]
theorem Kn {σ : St} : ∀ {xs : List At} {ds : List D}, Qd σ xs = some ds -> xs.length = ds.length /\ ∀ (k : Nat) (x : At) (d : D), xs[k]? = some x -> ds[k]? = some d -> mvD σ x = some d
 | [], ds, h => by simp [Qd] at h; subst h; exact ⟨rfl, fun k x d hx => by simp at hx⟩
 | x :: xs, ds, h => by
  simp only [Qd] at h
  split at h
  ·rename_i d sX h1 h2
   cases h
   obtain ⟨hl, ih⟩ := Kn h2
   refine ⟨by simp [hl], fun k y e hy he => ?_⟩
   cases k with
   | zero => simp at hy he; subst hy; subst he; exact h1
   | succ k => exact ih k y e (by simpa using hy) (by simpa using he)
  ·cases h
theorem Tp {σ : St} : ∀ {xs ys : List At} {ds es : List D}, Qd σ xs = some ds -> Qd σ ys = some es -> Qd σ (xs ++ ys) = some (ds ++ es)
 | [], ys, ds, es, h1, h2 => by simp [Qd] at h1; subst h1; simpa using h2
 | x :: xs, ys, ds, es, h1, h2 => by
  simp only [Qd] at h1
  split at h1
  ·rename_i d sX h3 h4
   cases h1
   simp [Qd, h3, Tp h4 h2]
  ·cases h1
theorem KA {σ : St} : ∀ {vL : List (List At)} {rs : List (List D)}, QY σ vL = some rs -> Qd σ vL.flatten = some rs.flatten /\ vL.length = rs.length /\ ∀ n, (∀ x ∈ vL, x.length = n) -> ∀ r ∈ rs, r.length = n
 | [], rs, h => by simp [QY] at h; subst h; exact ⟨rfl, rfl, fun n _ r hr => by cases hr⟩
 | xs :: vL, rs, h => by
  simp only [QY] at h
  split at h
  ·rename_i r oW h1 h2
   cases h
   obtain ⟨i1, i2, i3⟩ := KA h2
   refine ⟨by rw [List.flatten_cons, List.flatten_cons]; exact Tp h1 i1, by simp [i2], fun n hn q hq => ?_⟩
   rcases List.mem_cons.1 hq with rfl | hq
   ·rw [<- (Kn h1).1]; exact hn xs (by simp)
   ·exact i3 n (fun x hx => hn x (by simp [hx])) q hq
  ·cases h
theorem Vs {σ : St} : ∀ {xs : List At}, Xj σ xs -> ∀ (k : Nat) (x : At), xs[k]? = some x -> O3 σ x
 | [], _, k, x, hx => by simp at hx
 | y :: xs, h, 0, x, hx => by simp at hx; subst hx; exact h.1
 | y :: xs, h, k + 1, x, hx => Vs h.2 k x (by simpa using hx)
theorem Wt {σ : St} : ∀ {xs ys : List At}, Xj σ xs -> Xj σ ys -> Xj σ (xs ++ ys)
 | [], _, _, h => h
 | _ :: _, _, h1, h2 => ⟨h1.1, Wt h1.2 h2⟩
theorem Jz {σ : St} : ∀ {vL : List (List At)}, QI σ vL -> Xj σ vL.flatten
 | [], _ => trivial
 | xs :: vL, h => by rw [List.flatten_cons]; exact Wt h.1 (Jz h.2)
section
variable {P : Program} {T0 : CS} {B : Nat -> Prop} {σ : St} {a : Act} {w w' : World} {X X' : Nat -> Prop} {h : Nat -> Nat -> Hd}
theorem Rd.own {T : CS} {v : Value} {d : D} {S : Nat -> Prop} (hs : d.scalar = true) (hr : Rd T w v d) : Own w v d S := by
 cases hr with
 | int k n => exact .int _ _ _
 | bool b => exact .bool _ _
 | str s => exact .str _ _
 | unk v h => exact .unk _ h _
 | nil => cases hs
 | sl => cases hs
theorem Rel.E6 (r : Rel T0 B σ a w X h) {t j : Nat} {q : Bool} {size : Nat} {rows : List (List D)} (ho : σ.ob t j = .arr q size rows) (hq : q = false -> ∀ r ∈ rows, ∀ x ∈ r, x.scalar = true) : Own w (h t j).v (.sl size rows) (h t j).u := by
 have h0 := r.obj t j
 have vN := r.ub t j
 rw [ho] at h0 vN
 cases q with
 | false =>
  obtain ⟨e, xs, uX, hz, wG⟩ := h0
  refine .sl _ size rows _ e xs (fun _ _ => False) uX hz (fun b hb => vN b (by simp) hb) wG.length (fun k x d hx hd => ?_) (fun k b hb => hb.elim) (fun i j b hb => hb.elim)
  obtain ⟨d', wQ, hr⟩ := wG.get k x hx
  rw [hd] at wQ; cases wQ
  obtain ⟨r0, uo, hdr⟩ := List.mem_flatten.1 (List.mem_of_getElem? hd)
  exact Rd.own (hq rfl r0 uo d hdr) hr
 | true =>
  obtain ⟨e, xs, uX, hz, ⟨hl, Sk, h1, h2, h3⟩, hn⟩ := h0
  exact .sl _ size rows _ e xs Sk uX hz (fun b hb => vN b (by simp) hb) hl h1 (fun k b hb => h2 k b hb) h3
def JH (σ : St) (h : Nat -> Nat -> Hd) (l : List (Nat × Nat)) (b : Nat) : Prop := ∃ p ∈ l, σ.ob p.1 p.2 ≠ .none /\ (h p.1 p.2).u b
theorem Um (r : Rel T0 B σ a w X h) {xs : List At} {vs : List Value} {ds : List D} (wG : Zg (Zr (Tof T0 X) h σ.ob w) xs vs) (vq : Qd σ xs = some ds) (wb : Xj σ xs) (w9 : (YL xs).Nodup) : QU w vs ds (JH σ h (YL xs)) := by
 obtain ⟨hl, vq⟩ := Kn vq
 refine ⟨by rw [<- wG.length, hl], fun k b => ∃ t j lo len, xs[k]? = some (.sref t j lo len) /\ σ.ob t j ≠ .none /\ (h t j).u b, fun k v d hv hd => ?_, ?_, ?_⟩
 ·obtain ⟨x, hx, hr⟩ := wG.get' k v hv
  have hm := vq k x d hx hd
  have ho := Vs wb k x hx
  cases x with
  | d x =>
   cases x with
   | sl s rows => simp [mvD] at hm
   | int k n => simp [mvD] at hm; subst hm; exact Rd.own rfl hr
   | bool b => simp [mvD] at hm; subst hm; exact Rd.own rfl hr
   | str s => simp [mvD] at hm; subst hm; exact Rd.own rfl hr
   | unk => simp [mvD] at hm; subst hm; exact Rd.own rfl hr
  | nil s =>
   simp [mvD] at hm; subst hm
   cases hr
   exact .sl _ s [] _ 0 [] (fun _ _ => False) (World.ownsRow_nil w 0 0 s) (by intro q hq; cases hq) (fun b hb => by cases hb) rfl (fun k x d hx => by simp at hx) (fun k b hb => hb.elim) (fun i j b hb => hb.elim)
  | sref t j lo len =>
   simp only [mvD] at hm
   split at hm
   ·rename_i q size rows wY
    split at hm
    ·rename_i hc
     obtain ⟨rfl, rfl⟩ := hc
     cases hm
     obtain ⟨_, uH, _⟩ := hr.2.1 q size rows wY
     rw [uH rfl rfl]
     refine (r.E6 wY (fun hq => ?_)).mono (fun b hb => ⟨t, j, 0, rows.length, hx, by rw [wY]; simp, hb⟩)
     subst hq
     simp only [O3, wY] at ho; exact ho
    ·cases hm
   ·cases hm
  | any => simp [mvD] at hm
  | ptr => simp [mvD] at hm
  | bptr => simp [mvD] at hm
  | fn => simp [mvD] at hm
  | rptr => simp [mvD] at hm
  | tref => simp [mvD] at hm
 ·rintro k b ⟨t, j, lo, len, hx, wC, hu⟩
  exact ⟨(t, j), Np hx, wC, hu⟩
 ·rintro i k b ⟨t, j, lo, len, hx, wC, hu⟩ ⟨t', j', rm, uq, tO, wz, vx⟩
  obtain ⟨rfl, rfl⟩ := r.inj t j t' j' b wC wz hu vx
  exact RD xs i k t j lo len rm uq w9 hx tO
theorem QU.append {xs ys : List Value} {ds es : List D} {S S' : Nat -> Prop} (h1 : QU w xs ds S) (h2 : QU w ys es S') (hd : ∀ b, S b -> S' b -> False) : QU w (xs ++ ys) (ds ++ es) (fun b => S b \/ S' b) := by
 obtain ⟨l1, Sk, a1, a2, a3⟩ := h1
 obtain ⟨l2, rn, b1, b2, b3⟩ := h2
 refine ⟨by simp [l1, l2], fun k => if k < xs.length then Sk k else rn (k - xs.length), fun k x d hx wQ => ?_, fun k b hb => ?_, fun i j b hi hj => ?_⟩
 ·by_cases hk : k < xs.length
  ·simp only [hk, if_true]
   rw [List.getElem?_append_left hk] at hx
   rw [List.getElem?_append_left (by omega)] at wQ
   exact a1 k x d hx wQ
  ·simp only [hk, if_false]
   rw [List.getElem?_append_right (by omega)] at hx
   rw [List.getElem?_append_right (by omega), <- l1] at wQ
   exact b1 _ x d hx wQ
 ·by_cases hk : k < xs.length
  ·simp only [hk, if_true] at hb; exact .inl (a2 k b hb)
  ·simp only [hk, if_false] at hb; exact .inr (b2 _ b hb)
 ·by_cases vZ : i < xs.length
  ·simp only [vZ, if_true] at hi
   by_cases uY : j < xs.length
   ·simp only [uY, if_true] at hj; exact a3 i j b hi hj
   ·simp only [uY, if_false] at hj; exact (hd b (a2 i b hi) (b2 _ b hj)).elim
  ·simp only [vZ, if_false] at hi
   by_cases uY : j < xs.length
   ·simp only [uY, if_true] at hj; exact (hd b (a2 j b hj) (b2 _ b hi)).elim
   ·simp only [uY, if_false] at hj
    have := b3 _ _ b hi hj; omega
theorem QU.mono {xs : List Value} {ds : List D} {S S' : Nat -> Prop} (hS : ∀ b, S b -> S' b) (h1 : QU w xs ds S) : QU w xs ds S' := by
 obtain ⟨l1, Sk, a1, a2, a3⟩ := h1
 exact ⟨l1, Sk, a1, fun k b hb => hS b (a2 k b hb), a3⟩
theorem QU.nil (S : Nat -> Prop) : QU w [] [] S := ⟨rfl, fun _ _ => False, fun k x d hx => by simp at hx, fun _ _ hb => hb.elim, fun _ _ _ hb => hb.elim⟩
theorem Rel.zN (r : Rel T0 B σ a w X h) (l : List (Nat × Nat)) (b : Nat) (hb : JH σ h l b) : ¬ B b /\ ¬ X b /\ b < w.heap.size /\ ∀ u i, (σ.Zq l).ob u i ≠ .none -> ¬ (h u i).u b := by
 obtain ⟨p, hp, wC, hu⟩ := hb
 have ho := r.own p.1 p.2 b wC hu
 refine ⟨ho.1, ho.2.1, ho.2.2, fun u i hn vx => ?_⟩
 rw [St.JD] at hn
 split at hn
 ·exact hn rfl
 ·rename_i mw
  obtain ⟨h1, h2⟩ := r.inj p.1 p.2 u i b wC hn hu vx
  exact mw (by rw [<- h1, <- h2]; exact hp)
end
end Go.Vm
namespace Go.Vm
open Go.RowKit
section
variable {P : Program} {T0 : CS} {B : Nat -> Prop} {σ : St} {a : Act} {w w' : World} {X X' : Nat -> Prop} {h : Nat -> Nat -> Hd}
def TN (P : Program) (σ : St) (T : TypeId) (size : Nat) : List (Nat × Operand) -> Nat -> List (List At) -> Prop
 | [], _, rs => rs = []
 | (i, x) :: ps, k, rs => i = k /\ gOf (look P σ T x) = true /\ (unc (look P σ T x)).flat = true /\ (unc (look P σ T x)).cells.length = size /\
   ∃ rest, TN P σ T size ps (k + 1) rest /\ rs = (unc (look P σ T x)).cells :: rest
theorem Ld (r : Rel T0 B σ a w X h) (T : TypeId) (size : Nat) : ∀ (ps : List (Nat × Operand)) (k : Nat) (rs : List (List At)) (cells : Array Value), TN P σ T size ps k rs -> (k + ps.length) * size <= cells.size ->
   ∃ wJ ys, Instr.fill (fun i => some (i * size, size)) cells (ps.map fun x => (x.1, a.eval x.2)) = some wJ /\ wJ.toList = place cells.toList (k * size) ys /\ Zg (Zr (Tof T0 X) h σ.ob w) rs.flatten ys /\ (∀ q ∈ rs, q.length = size) /\ rs.length = ps.length
 | [], k, rs, cells, hb, _ => by cases hb; exact ⟨cells, [], rfl, by simp [place], .nil, (by intro q hq; cases hq), rfl⟩
 | (i, x) :: ps, k, rs, cells, hb, hl => by
  obtain ⟨rfl, hg, hf, hlen, rest, hb, rfl⟩ := hb
  have hx := qP hf (r.arg (P := P) T x rfl hg)
  have r9 := hx.length
  have e1 : cells.toList.length = cells.size := Array.length_toList
  have e2 : (a.eval x).cells.toList.length = (a.eval x).cells.size := Array.length_toList
  have hmul : (i + (ps.length + 1)) * size = i * size + size + ps.length * size := by rw [Nat.add_mul, Nat.add_mul]; omega
  simp only [List.length_cons] at hl
  have heq := WQ (i * size) (a.eval x).cells cells (by omega)
  have u4 : ((a.eval x).cells.zipIdx.foldl (fun cs x => cs.setIfInBounds (i * size + x.2) x.1) cells).size = cells.size := by
   rw [<- Array.length_toList, heq, XE _ _ _ (by omega), e1]
  have nR : (i + 1 + ps.length) * size = i * size + size + ps.length * size := by rw [Nat.add_mul, Nat.add_mul]; omega
  obtain ⟨wJ, ys, h1, h2, h3, h4, h5⟩ := Ld r T size ps (i + 1) rest _ hb (by rw [u4]; omega)
  have uc : ys.length = ps.length * size := by rw [<- h3.length, Z8 rest size h4, h5]
  refine ⟨wJ, (a.eval x).cells.toList ++ ys, ?_, ?_, ?_, ?_, by simp [h5]⟩
  ·simp only [List.map_cons, Instr.fill]
   rw [if_neg (by simp; omega)]
   exact h1
  ·rw [h2, heq]
   rw [show (i + 1) * size = i * size + (a.eval x).cells.toList.length by rw [Nat.add_mul]; omega]
   exact RB _ _ _ _ (by simp; omega)
  ·rw [List.flatten_cons]; exact hx.append h3
  ·intro q hq
   rcases List.mem_cons.1 hq with rfl | hq
   ·exact hlen
   ·exact h4 q hq
theorem VD (r : Rel T0 B σ a w X h) {o : Oper} {T : TypeId} {n : Nat} {parts : Array (Nat × Operand)} {d : Nat} {rows : List (List At)} (wA : o.op = .buildSlice T n parts) (hd : o.dst = some d) (vG : σ.fresh d = true)
  (ht : Ya P T = true) (hz : XH P (ZD P T) = true) (vO : 0 < P.cellsOf (ZD P T)) (hn : parts.toList.length = n) (iH : n * P.cellsOf (ZD P T) <= 16777216) (hb : TN P σ (ZD P T) (P.cellsOf (ZD P T)) parts.toList 0 rows) (gJ : Zw d rows.flatten = false)
  {K : Act -> World -> Prop} {Q : Exit -> Act -> World -> Prop} (hK : ∀ a' w', QK T0 B (σ.new d (.one (.sref d 0 0 rows.length)) [.lit (P.cellsOf (ZD P T)) rows]) a' w' -> Y0 B w w' -> K a' w') : o.wp P a w K Q := by
 obtain ⟨ti, hu, hi, uz⟩ := Y8 ht
 obtain ⟨i, z, row, vZ, tP, uP, u4, sB, v3, uQ⟩ := zJ hz
 rw [hi] at vZ; cases vZ
 have uI : (zeroValue (ZD P T)).run P w = .ok z w := by simp [zeroValue, typeInfo, hi, tP]
 obtain ⟨zero, hzero⟩ : ∃ zero : Array Value, (n * P.cellsOf (ZD P T) = 0 -> zero = #[]) /\ (¬ n * P.cellsOf (ZD P T) = 0 -> zero = z.cells) := by
  by_cases h0 : n * P.cellsOf (ZD P T) = 0
  ·exact ⟨#[], fun _ => rfl, fun hh => absurd h0 hh⟩
  ·exact ⟨z.cells, fun hh => absurd hh h0, fun _ => rfl⟩
 obtain ⟨wJ, ys, h1, h2, h3, h4, h5⟩ := Ld r (ZD P T) (P.cellsOf (ZD P T)) parts.toList 0 rows ((Array.range (n * P.cellsOf (ZD P T))).map (zero[· % zero.size]!)) hb (by simp [hn])
 have uc : ys.length = n * P.cellsOf (ZD P T) := by rw [<- h3.length, Z8 rows _ h4, h5, hn]
 have wk : wJ.toList = ys := by
  rw [h2]
  unfold place
  simp [uc]
 have uZ : (parts.map fun (x : Nat × Operand) => (x.1, a.eval x.2)).toList = parts.toList.map fun x => (x.1, a.eval x.2) := by simp
 have wV : (execOp a.eval o).run P w = .ok (.value (.slice (some ⟨w.heap.size, 0, none⟩) n n)) (w.alloc (.cells wJ (ZD P T))) := by
  have u5 : ¬ (n * P.cellsOf (ZD P T) > 2 ^ 24) := by omega
  by_cases h0 : n * P.cellsOf (ZD P T) = 0
  ·have tj := hzero.1 h0
   subst tj
   simp only [execOp, wA, Instr.buildSlice, Sem.run_bind, run_underlying hu, Result.andThen_ok, X5 hi, if_neg u5, if_pos h0, uZ, h1, newRow, Sem.run_pure, run_newObj_alloc]
  ·have tj := hzero.2 h0
   subst tj
   simp only [execOp, wA, Instr.buildSlice, Sem.run_bind, run_underlying hu, Result.andThen_ok, X5 hi, if_neg u5, if_neg h0, uI, uZ, h1, newRow, Sem.run_pure, run_newObj_alloc]
 unfold Oper.wp
 rw [wV, Oper.upon_value, hd]
 have hlen : rows.length = n := by rw [h5, hn]
 have hg := World.grownBy_alloc w (.cells wJ (ZD P T)) none
 have wN := St.Jr vG
 have hT : ∀ b k v, Tof T0 X b k -> w.cell? ⟨b, k, none⟩ = some v -> (w.alloc (.cells wJ (ZD P T))).cell? ⟨b, k, none⟩ = some v /\ Tof T0 X b k := by
  intro b k v hb wM
  refine ⟨?_, hb⟩
  rw [World.cell?_of_block (hg.block b (r.Tlt hb) (by simp))]; exact wM
 have rO : wJ.size = n * P.cellsOf (ZD P T) := by rw [<- Array.length_toList, wk, uc]
 have uE : n <= maxLen := by
  have : n <= n * P.cellsOf (ZD P T) := Nat.le_mul_of_pos_right _ vO
  simp only [maxLen]; omega
 have wL : (w.alloc (.cells wJ (ZD P T))).ownsRow 0 (ZD P T) (P.cellsOf (ZD P T)) (.slice (some ⟨w.heap.size, 0, none⟩) n n) rows.length ys :=
  ⟨by rw [uc, hlen], .inr ⟨w.heap.size, n, wJ, by rw [hlen], Nat.zero_le _, heap_alloc_new w _, by omega, uE, rO, by rw [wk, hlen, List.take_of_length_le (by omega)]⟩⟩
 refine hK _ _ ⟨X, fun t j => if t = d then Hd.of (.slice (some ⟨w.heap.size, 0, none⟩) n n) else h t j, ?_⟩ (Y0.kM hg r.hB)
 have vU : (σ.new d (.one (.sref d 0 0 rows.length)) [.lit (P.cellsOf (ZD P T)) rows]).ob d 0 = .lit (P.cellsOf (ZD P T)) rows := by rw [St.X7]; simp [wN, YB]
 have hc : ∀ t j, t ≠ d -> Cpt h (fun t j => if t = d then Hd.of (.slice (some ⟨w.heap.size, 0, none⟩) n n) else h t j) σ.ob (σ.new d (.one (.sref d 0 0 rows.length)) [.lit (P.cellsOf (ZD P T)) rows]).ob t j := by
  intro t j wC
  have he : (σ.new d (.one (.sref d 0 0 rows.length)) [.lit (P.cellsOf (ZD P T)) rows]).ob t j = σ.ob t j := by rw [St.X7, if_neg (fun hh => wC hh.1)]
  exact Cpt.same (by simp [wC]) he
 refine r.new vG hg (fun _ hb => hb) (fun _ hb => .inl hb) _ _ [.lit (P.cellsOf (ZD P T)) rows] (fun _ => Hd.of (.slice (some ⟨w.heap.size, 0, none⟩) n n)) ?_ (fun j => ?_) (fun j b _ hb => hb) (fun j b _ wW => ?_) (fun j j' b wC wz _ _ => ?_)
 ·refine ⟨Ji wL, fun q' wZ wT wX => (by rw [vU] at wX; cases wX), fun wZ wT wX => ?_⟩
  rw [vU] at wX; cases wX
  simp only [if_true]
  exact V9 wL
 ·cases j with
  | zero => exact ⟨ZD P T, ys, wL, h4, qL hT hc gJ h3⟩
  | succ j => simp [YB, X6]
 ·simp [Hd.of, blk] at wW; subst wW
  refine ⟨Nat.le_refl _, fun tO => ?_, by simp⟩
  have := (r.hX _ tO).2; omega
 ·have : ∀ j, YB [Ob.lit (P.cellsOf (ZD P T)) rows] j ≠ .none -> j = 0 := by
   intro j hj
   cases j with
   | zero => rfl
   | succ j => simp [YB] at hj
  rw [this j wC, this j' wz]
theorem Ix {T : CS} {ob : Nat -> Nat -> Ob} : ∀ {xs : List At} {ds : List D} {vs : List Value}, zD xs = some ds -> Zg (Zr T h ob w) xs vs -> (∀ x ∈ xs, ∀ s r, x ≠ .d (.sl s r)) -> ∀ (w' : World) (S : Nat -> Prop) (k : Nat) (v : Value) (d : D), vs[k]? = some v -> ds[k]? = some d -> Own w' v d S
 | [], ds, vs, hz, wG, _, w', S, k, v, d, hv, _ => by cases wG; simp at hv
 | x :: xs, ds, vs, hz, wG, tc, w', S, k, v, d, hv, hd => by
  cases wG with
  | cons hx wG =>
   cases x with
   | d x =>
    simp only [zD, Option.map_eq_some_iff] at hz
    obtain ⟨sX, uw, rfl⟩ := hz
    cases k with
    | zero =>
     simp at hv hd; subst hv; subst hd
     cases x with
     | sl s r => exact absurd rfl (tc _ (by simp) s r)
     | int k n => cases (show Rd _ _ _ _ from hx); exact .int _ _ _
     | bool b => cases (show Rd _ _ _ _ from hx); exact .bool _ _
     | str s => cases (show Rd _ _ _ _ from hx); exact .str _ _
     | unk => exact .unk _ (Rd.XG hx) _
    | succ k => exact Ix uw wG (fun x hx => tc x (by simp [hx])) w' S k v d (by simpa using hv) (by simpa using hd)
   | nil s =>
    simp only [zD, Option.map_eq_some_iff] at hz
    obtain ⟨sX, uw, rfl⟩ := hz
    cases k with
    | zero =>
     simp at hv hd; subst hv; subst hd
     cases hx
     exact .sl _ s [] _ 0 [] (fun _ _ => False) (World.ownsRow_nil w' 0 0 s) (by intro q hq; cases hq) (fun b hb => by cases hb) rfl (fun k x d hx => by simp at hx) (fun k b hb => hb.elim) (fun i j b hb => hb.elim)
    | succ k => exact Ix uw wG (fun x hx => tc x (by simp [hx])) w' S k v d (by simpa using hv) (by simpa using hd)
   | any => simp [zD] at hz
   | sref => simp [zD] at hz
   | ptr => simp [zD] at hz
   | bptr => simp [zD] at hz
   | fn => simp [zD] at hz
   | rptr => simp [zD] at hz
   | tref => simp [zD] at hz
def H5 (σ : St) (x : V) (size : Nat) (wI : List (List D)) (l : List (Nat × Nat)) : Prop :=
 match x with
 | .one (.nil _) => wI = [] /\ l = []
 | .one (.sref t j lo len) => σ.ob t j = .arr true size wI /\ lo = 0 /\ len = wI.length /\ l = [(t, j)]
 | _ => False
def GS (σ : St) (x : V) (size : Nat) (news : List (List D)) (l : List (Nat × Nat)) : Prop :=
 match x with
 | .one (.sref t j lo len) => ∃ rows, σ.ob t j = .lit size rows /\ lo = 0 /\ len = rows.length /\ QY σ rows = some news /\ QI σ rows /\ l = YL rows.flatten
 | _ => False
theorem Oa (r : Rel T0 B σ a w X h) {o : Oper} {t : TypeId} {x y : Operand} {d : Nat} {wI news : List (List D)} {l1 l2 : List (Nat × Nat)} (wA : o.op = .call ⟨.builtin .append, #[x, y], #[t, t]⟩) (hd : o.dst = some d)
  (sL : gOf (look P σ t x) = true) (sM : gOf (look P σ t y) = true) (ht : Ya P t = true) (hz : XH P (ZD P t) = true) (vO : 0 < P.cellsOf (ZD P t))
  (uF : H5 σ (unc (look P σ t x)) (P.cellsOf (ZD P t)) wI l1) (uy : GS σ (unc (look P σ t y)) (P.cellsOf (ZD P t)) news l2) (w9 : (l1 ++ l2).Nodup) (vG : (σ.Zq (l1 ++ l2)).fresh d = true)
  (vi : (wI.length + news.length) * P.bytesOf (ZD P t) <= 140737488355328) (px : wI.length + news.length <= 9223372036854775807)
  {K : Act -> World -> Prop} {Q : Exit -> Act -> World -> Prop} (hK : ∀ a' w', QK T0 B ((σ.Zq (l1 ++ l2)).new d (.one (.sref d 0 0 (wI.length + news.length))) [.arr true (P.cellsOf (ZD P t)) (wI ++ news)]) a' w' -> Y0 B w w' -> K a' w') : o.wp P a w K Q := by
 obtain ⟨ti, hu, hi, uz⟩ := Y8 ht
 obtain ⟨i, z, row, vZ, tP, uP, u4, sB, v3, uQ⟩ := zJ hz
 rw [hi] at vZ; cases vZ
 have py : P.bytesOf (ZD P t) = ti.bytes := by simp [Program.bytesOf, hi]
 rw [py] at vi
 rw [<- v3] at uF uy vO hK
 have pD := r.arg (P := P) t x rfl sL
 have mM := r.arg (P := P) t y rfl sM
 obtain ⟨t2, j2, rows, gM, rM, vq, vz, r9⟩ : ∃ t2 j2 rows, unc (look P σ t y) = .one (.sref t2 j2 0 rows.length) /\ σ.ob t2 j2 = .lit ti.size rows /\ QY σ rows = some news /\ QI σ rows /\ l2 = YL rows.flatten := by
  unfold GS at uy
  split at uy
  ·rename_i t2 j2 lo len heq
   obtain ⟨rows, ho, rfl, rfl, hm, hk, rfl⟩ := uy
   exact ⟨t2, j2, rows, heq, ho, hm, hk, rfl⟩
  ·exact uy.elim
 subst r9
 obtain ⟨m0, nI, m3⟩ := KA vq
 have nT := Jz vz
 rw [gM] at mM
 have h0 := r.obj t2 j2
 rw [rM] at h0
 obtain ⟨e2, ys, ua, mL, tU⟩ := h0
 obtain ⟨_, p7, _⟩ := mM.2.2 _ _ rM
 have nU : a.eval y = (h t2 j2).v := p7 rfl rfl
 have nH : ∀ q ∈ news, q.length = ti.size := m3 _ mL
 have tV := Um r tU m0 nT (List.nodup_append.1 w9).2.1
 have vf : ∃ e0 xs, w.ownsRow 0 e0 ti.size (a.eval x) wI.length xs /\ (∀ q ∈ wI, q.length = ti.size) /\ QU w xs wI.flatten (fun b => JH σ h l1 b /\ blk (a.eval x) ≠ some b) /\ (∀ b, blk (a.eval x) = some b -> JH σ h l1 b) := by
  unfold H5 at uF
  split at uF
  ·rename_i s heq
   obtain ⟨rfl, rfl⟩ := uF
   rw [heq] at pD
   have he : a.eval x = .slice none 0 0 := pD
   rw [he]
   exact ⟨0, [], World.ownsRow_nil w 0 0 _, (by intro q hq; cases hq), QU.nil _, (fun b hb => by cases hb)⟩
  ·rename_i u j lo len heq
   obtain ⟨ho, rfl, rfl, rfl⟩ := uF
   rw [heq] at pD
   have p9 : Zr (Tof T0 X) h σ.ob w (.sref u j 0 wI.length) (a.eval x) := pD
   obtain ⟨_, uH, _⟩ := p9.2.1 _ _ _ ho
   have he : a.eval x = (h u j).v := uH rfl rfl
   have h0 := r.obj u j
   rw [ho] at h0
   obtain ⟨e, xs, wL, pB, wG, hn⟩ := h0
   have wY : σ.ob u j ≠ .none := by rw [ho]; simp
   rw [he]
   exact ⟨e, xs, wL, pB, wG.mono (fun b hb => ⟨⟨(u, j), by simp, wY, hb.1⟩, hb.2⟩), fun b hb => ⟨(u, j), by simp, wY, r.ub u j b wY hb⟩⟩
  ·exact uF.elim
 obtain ⟨e0, xs, wL, mz, pz, sN⟩ := vf
 have oA : ∀ q ∈ wI ++ news, q.length = ti.size := by
  intro q hq
  rcases List.mem_append.1 hq with hq | hq
  ·exact mz q hq
  ·exact nH q hq
 have uc : ys.length = news.length * ti.size := by rw [tV.1, Z8 news ti.size nH]
 have tJ : ∀ b, JH σ h l1 b -> JH σ h (YL rows.flatten) b -> False := by
  rintro b ⟨p, hp, wC, hu⟩ ⟨p', su, wz, vx⟩
  obtain ⟨e1, e2⟩ := r.inj p.1 p.2 p'.1 p'.2 b wC wz hu vx
  have uG : p = p' := Prod.ext e1 e2
  subst uG
  exact (List.nodup_append.1 w9).2.2 p hp p su rfl
 have u6 : ∀ b, JH σ h (l1 ++ YL rows.flatten) b ↔ JH σ h l1 b \/ JH σ h (YL rows.flatten) b := by
  intro b
  constructor
  ·rintro ⟨p, hp, hr⟩
   rcases List.mem_append.1 hp with hp | hp
   ·exact .inl ⟨p, hp, hr⟩
   ·exact .inr ⟨p, hp, hr⟩
  ·rintro (⟨p, hp, hr⟩ | ⟨p, hp, hr⟩)
   ·exact ⟨p, by simp [hp], hr⟩
   ·exact ⟨p, by simp [hp], hr⟩
 have r1 := r.Zq (l1 ++ YL rows.flatten)
 have wj := r.zN (l1 ++ YL rows.flatten)
 have wN := St.Jr vG
 have key : ∀ (v' : Value) (w' : World) (e1 : TypeId), (Builtin.append_ #[t, t] o.type #[a.eval x, a.eval y]).run P w = .ok v' w' -> w'.ownsRow 0 e1 ti.size v' (wI.length + news.length) (xs ++ ys) ->
   w.grownBy w' (blk (a.eval x)) -> (∀ b, blk v' = some b -> (w.heap.size <= b /\ b < w'.heap.size) \/ blk (a.eval x) = some b) -> o.wp P a w K Q := by
  intro v' w' e1 wV wX uK pP
  unfold Oper.wp
  have rN : (execOp a.eval o).run P w = .ok (.value v') w' := by
   simp only [execOp, wA, resolve, invoke, builtin, Sem.run_bind, Sem.run_pure, Result.andThen_ok, List.map_toArray, List.map_cons, List.map_nil, wV]
  rw [rN, Oper.upon_value, hd]
  refine hK _ _ ⟨X, fun u j => if u = d then ⟨v', fun k => ((xs ++ ys)[k]?).getD undef, fun b => blk v' = some b \/ (JH σ h (l1 ++ YL rows.flatten) b /\ blk (a.eval x) ≠ some b)⟩ else h u j, ?_⟩
   ⟨uK.os, uK.tape, uK.output, uK.size, fun k hk => uK.block k (r.hB k hk) (fun e => (wj k ((u6 k).2 (.inl (sN k e.symm)))).1 hk)⟩
  have vU : ((σ.Zq (l1 ++ YL rows.flatten)).new d (.one (.sref d 0 0 (wI.length + news.length))) [.arr true ti.size (wI ++ news)]).ob d 0 = .arr true ti.size (wI ++ news) := by rw [St.X7]; simp [wN, YB]
  have ua : w'.ownsRow 0 e1 ti.size v' (wI ++ news).length (xs ++ ys) := by rw [List.length_append]; exact wX
  have wS : ∀ b, blk (a.eval x) ≠ some b -> b < w.heap.size -> w'.heap[b]? = w.heap[b]? := fun b hb hl => uK.block b hl (fun e => hb e.symm)
  have gW : QU w' (xs ++ ys) (wI ++ news).flatten (fun b => (blk v' = some b \/ (JH σ h (l1 ++ YL rows.flatten) b /\ blk (a.eval x) ≠ some b)) /\ blk v' ≠ some b) := by
   rw [List.flatten_append]
   have h1 : QU w' xs wI.flatten (fun b => JH σ h l1 b /\ blk (a.eval x) ≠ some b) := pz.SP (fun b hb => wS b hb.2 (wj b ((u6 b).2 (.inl hb.1))).2.2.1)
   have r4 : ∀ b, JH σ h (YL rows.flatten) b -> blk (a.eval x) ≠ some b := fun b hb e => tJ b (sN b e) hb
   have h2 : QU w' ys news.flatten (JH σ h (YL rows.flatten)) := tV.SP (fun b hb => wS b (r4 b hb) (wj b ((u6 b).2 (.inr hb))).2.2.1)
   refine (h1.append h2 (fun b vM wo => tJ b vM.1 wo)).mono (fun b hb => ?_)
   have hg : JH σ h (l1 ++ YL rows.flatten) b /\ blk (a.eval x) ≠ some b := by
    rcases hb with hb | hb
    ·exact ⟨(u6 b).2 (.inl hb.1), hb.2⟩
    ·exact ⟨(u6 b).2 (.inr hb), r4 b hb⟩
   refine ⟨.inr hg, fun e => ?_⟩
   rcases pP b e with hl | hl
   ·have := (wj b hg.1).2.2.1; omega
   ·exact hg.2 hl
  refine r1.F8 vG (JH σ h (l1 ++ YL rows.flatten)) uK.size (fun k hk wC => uK.block k hk (fun e => wC ((u6 k).2 (.inl (sN k e.symm))))) (fun b hb => ⟨(wj b hb).1, (wj b hb).2.1, fun u j _ wC => (wj b hb).2.2.2 u j wC⟩) (fun _ hb => hb) (fun _ hb => .inl hb) _ _ [.arr true ti.size (wI ++ news)]
   (fun _ => ⟨v', fun k => ((xs ++ ys)[k]?).getD undef, fun b => blk v' = some b \/ (JH σ h (l1 ++ YL rows.flatten) b /\ blk (a.eval x) ≠ some b)⟩) ?_ (fun j => ?_) (fun j b _ hb => .inl hb) (fun j b wC wW => ?_) (fun j j' b wC wz _ _ => ?_)
  ·refine ⟨Ji wX, fun q' wZ wT hh => ?_, fun wZ wT hh => by rw [vU] at hh; cases hh⟩
   rw [vU] at hh; cases hh
   simp only [if_true, List.length_append]
   have := V9 ua
   rwa [List.length_append] at this
  ·cases j with
   | zero => exact ⟨e1, xs ++ ys, ua, oA, gW, fun k x d hx _ _ => by simp [hx]⟩
   | succ j => simp [YB, X6]
  ·rcases wW with wW | wW
   ·rcases pP b wW with h1 | h1
    ·exact ⟨.inl h1.1, fun hx => by have := (r.hX b hx).2; omega, h1.2⟩
    ·have h3 := (u6 b).2 (.inl (sN b h1))
     have h2 := wj b h3
     exact ⟨.inr h3, h2.2.1, by have := uK.size; omega⟩
   ·have h2 := wj b wW.1
    exact ⟨.inr wW.1, h2.2.1, by have := uK.size; omega⟩
  ·have : ∀ j, YB [Ob.arr true ti.size (wI ++ news)] j ≠ .none -> j = 0 := by
    intro j hj
    cases j with
    | zero => rfl
    | succ j => simp [YB] at hj
   rw [this j wC, this j' wz]
 rcases ua.2 with ⟨gO, mG⟩ | ⟨g2, nN, gP, vB, _, uU, gQ, gR, gS, m7⟩
 ·have wU : rows = [] := List.eq_nil_of_length_eq_zero mG
  have uJ : news = [] := List.eq_nil_of_length_eq_zero (by rw [<- nI, mG])
  have gX : ys = [] := List.eq_nil_of_length_eq_zero (by rw [uc, uJ]; simp)
  have wi : ∃ base cap, a.eval x = .slice base wI.length cap /\ wI.length <= cap /\ (base = none -> cap = 0) := by
   rcases wL.2 with ⟨h1, h2⟩ | ⟨g, cap, cur, h1, _, _, v9, _⟩
   ·exact ⟨none, 0, by rw [h1, h2], by omega, fun _ => rfl⟩
   ·exact ⟨_, cap, h1, v9, (fun hh => by cases hh)⟩
  obtain ⟨base, cap, hex, v9, nF⟩ := wi
  refine key (a.eval x) w e0 ?_ (by rw [gX, uJ]; simpa using wL) ⟨rfl, rfl, rfl, Nat.le_refl _, fun _ _ _ => rfl⟩ (fun b hb => .inr hb)
  rw [nU, gO]
  rw [hex]
  exact qZ t o.type _ ti hu hi base wI.length cap v9 nF
 ·have nM : a.eval y = .slice (some ⟨g2, 0, none⟩) news.length nN := by rw [nU, vB, nI]
  have wM : ∀ j u, ys[j]? = some u -> w.cell? ((⟨g2, 0, none⟩ : Addr).add j) = some u := by
   intro j u vx
   rw [yA]
   refine Jw uU _ _ ?_
   rw [<- m7, List.getElem?_take] at vx
   split at vx
   ·simpa using vx
   ·cases vx
  obtain ⟨v', w', e1, wV, wX, uK, pP⟩ := Vx (P := P) (w := w) t o.type _ e0 ti z hu hi tP sB (by omega) (a.eval x) wI.length xs wL ⟨g2, 0, none⟩ news.length nN ys uc wM
   (fun u vx => by
    obtain ⟨x', _, tO⟩ := tU.mem vx
    exact Zr.XG tO) (by simp only [maxLen]; omega) vi
  refine key v' w' e1 ?_ wX uK pP
  rw [nM]; exact wV
theorem QU.pick {xs : List Value} {ds : List D} {S : Nat -> Prop} (h1 : QU w xs ds S) {p q n : Nat} (hp : p <= q) (hq : q + n <= xs.length) : QU w (xs.take p ++ cut xs q n) (ds.take p ++ cut ds q n) S := by
 obtain ⟨hl, Sk, hk, hs, hd⟩ := h1
 have tx : (xs.take p).length = p := by rw [List.length_take]; omega
 have sb : (ds.take p).length = p := by rw [List.length_take]; omega
 refine ⟨by rw [List.length_append, List.length_append, tx, sb, XO _ _ _ hq, XO _ _ _ (by omega)], fun k => if k < p then Sk k else Sk (q + (k - p)), fun k x d hx wQ => ?_, fun k b hb => ?_, fun i j b hi hj => ?_⟩
 ·by_cases nW : k < p
  ·rw [List.getElem?_append_left (by omega)] at hx wQ
   rw [List.getElem?_take, if_pos nW] at hx wQ
   simp only [if_pos nW]
   exact hk k x d hx wQ
  ·rw [List.getElem?_append_right (by omega), tx] at hx
   rw [List.getElem?_append_right (by omega), sb] at wQ
   simp only [if_neg nW]
   exact hk _ x d (zF _ _ _ _ _ hx) (zF _ _ _ _ _ wQ)
 ·dsimp only at hb
  split at hb <;> exact hs _ b hb
 ·dsimp only at hi hj
  split at hi <;> split at hj
  ·exact hd _ _ b hi hj
  ·have := hd _ _ b hi hj; omega
  ·have := hd _ _ b hi hj; omega
  ·have := hd _ _ b hi hj; omega
end
end Go.Vm
namespace Go.Vm
open Go.RowKit
def Nm : List At -> Bool
 | [] => true
 | .d (.sl _ _) :: _ => false
 | _ :: xs => Nm xs
theorem LN : ∀ {xs : List At}, Nm xs = true -> ∀ x ∈ xs, ∀ s r, x ≠ .d (.sl s r)
 | [], _, x, hx, _, _ => by cases hx
 | y :: xs, h, x, hx, s, r => by
  have h2 : Nm xs = true /\ ∀ s r, y ≠ .d (.sl s r) := by
   cases y with
   | d z => cases z with
    | sl s r => cases h
    | _ => exact ⟨h, fun s r e => by cases e⟩
   | _ => exact ⟨h, fun s r e => by cases e⟩
  rcases List.mem_cons.1 hx with rfl | hx
  ·exact h2.2 s r
  ·exact LN h2.1 x hx s r
section
variable {P : Program} {T0 : CS} {B : Nat -> Prop} {σ : St} {a : Act} {w w' : World} {X X' : Nat -> Prop} {h : Nat -> Nat -> Hd}
theorem PN (r : Rel T0 B σ a w X h) {o : Oper} {T : TypeId} {x : Operand} {d : Nat} {k : IntKind} {n : Nat} {z : List At} {zr : List D} (wA : o.op = .makeSlice T x x) (hd : o.dst = some d) (vG : σ.fresh d = true)
  (ht : Ya P T = true) (hz : XH P (ZD P T) = true) (uP : xG P 12 (ZD P T) = some z) (mK : zD z = some zr) (gL : Nm z = true) (vO : 0 < P.cellsOf (ZD P T)) (hx : qo P σ x k (n : Int)) (py : P.bytesOf (ZD P T) * n <= 281474976710656) (px : n <= 9223372036854775807)
  {K : Act -> World -> Prop} {Q : Exit -> Act -> World -> Prop} (hK : ∀ a' w', QK T0 B (σ.new d (.one (.sref d 0 0 n)) [.arr true (P.cellsOf (ZD P T)) (List.replicate n zr)]) a' w' -> Y0 B w w' -> K a' w') : o.wp P a w K Q := by
 obtain ⟨ti, hu, hi, uz⟩ := Y8 ht
 obtain ⟨i, zv, row, vZ, tP, rK, u4, sB, v3, uQ⟩ := zJ hz
 rw [hi] at vZ; cases vZ
 rw [uP] at rK; cases rK
 have hex := KW r hx
 have oB : (ti.bytes : Int) * (n : Int) <= 281474976710656 := by
  have : P.bytesOf (ZD P T) = ti.bytes := by simp [Program.bytesOf, hi]
  rw [this] at py
  have h : ((ti.bytes * n : Nat) : Int) <= 281474976710656 := by omega
  rwa [Int.natCast_mul] at h
 have wV := run_make (P := P) w T (ZD P T) ti zv hu hi tP k k n n (by omega) (Int.le_refl _) oB (by omega)
 simp only [Int.toNat_natCast] at wV
 unfold Oper.wp
 simp only [execOp, wA, hex, Sem.run_bind, wV, Result.andThen_ok, Sem.run_pure, Oper.upon_value, hd]
 have pE := M5 mK (uQ (Tof T0 X) h σ.ob w)
 have gU := pE.length
 have e1 : zv.cells.toList.length = zv.cells.size := Array.length_toList
 have sC : zr.length = ti.size := by omega
 have ud : (madeCells zv.cells (n * ti.size)).toList.length = n * ti.size := by rw [Array.length_toList, size_madeCells]
 have rP : ∀ q u, (madeCells zv.cells (n * ti.size)).toList[q]? = some u -> zv.cells.toList[q % ti.size]? = some u := by
  intro q u hq
  have wN : q < n * ti.size := by have := (List.getElem?_eq_some_iff.1 hq).1; omega
  have oC : q % ti.size < zv.cells.size := by rw [sB]; exact Nat.mod_lt _ (by omega)
  have : (madeCells zv.cells (n * ti.size)).toList[q]? = some (zv.cells[q % zv.cells.size]!) := by
   simp [madeCells, wN]
  rw [this] at hq
  cases hq
  rw [sB]
  simp [oC]
 have tU : QU (w.alloc (.cells (madeCells zv.cells (n * ti.size)) (ZD P T))) (madeCells zv.cells (n * ti.size)).toList (List.replicate n zr).flatten (fun _ => False) := by
  refine ⟨by rw [ud, Z8 _ ti.size (by intro q hq; rw [List.eq_of_mem_replicate hq]; exact sC)]; simp, fun _ _ => False, fun q u dd hq uA => ?_, fun _ _ hb => hb, fun _ _ _ hb => hb.elim⟩
  have wN : q < n * ti.size := by have := (List.getElem?_eq_some_iff.1 hq).1; omega
  rw [yd zr n q (by rw [sC]; exact wN), sC] at uA
  exact Ix mK (uQ (Tof T0 X) h σ.ob w) (LN gL) _ _ _ u dd (rP q u hq) uA
 have := r.Fi vG (World.grownBy_alloc w (.cells (madeCells zv.cells (n * ti.size)) (ZD P T)) none) (.slice (some ⟨w.heap.size, 0, none⟩) n n) (e := ZD P T) (size := P.cellsOf (ZD P T)) (rows := List.replicate n zr) (xs := (madeCells zv.cells (n * ti.size)).toList)
  ⟨by rw [ud, v3]; simp, .inr ⟨w.heap.size, n, _, by simp, Nat.zero_le _, heap_alloc_new w _, by simp, by simp only [maxLen]; omega, by rw [size_madeCells, v3], by rw [List.take_of_length_le (by rw [ud, v3]; simp)]⟩⟩
  (by intro q hq; rw [List.eq_of_mem_replicate hq]; omega) tU
  (fun b hb => by simp [blk] at hb; subst hb; exact ⟨Nat.le_refl _, by simp⟩)
 rw [List.length_replicate] at this
 exact hK _ _ this.1 this.2
theorem QU.place {xs ys : List Value} {ds es : List D} {S S' : Nat -> Prop} (h1 : QU w xs ds S) (h2 : QU w ys es S') (hd : ∀ b, S b -> S' b -> False) (o : Nat) (ho : o + ys.length <= xs.length) : QU w (Vm.place xs o ys) (Vm.place ds o es) (fun b => S b \/ S' b) := by
 obtain ⟨l1, Sk, a1, a2, a3⟩ := h1
 obtain ⟨l2, rn, b1, b2, b3⟩ := h2
 refine ⟨by rw [XE _ _ _ ho, XE _ _ _ (by omega), l1], fun k => if o <= k /\ k < o + ys.length then rn (k - o) else Sk k, fun k x d hx wQ => ?_, fun k b hb => ?_, fun i j b hi hj => ?_⟩
 ·rcases yh xs o ys ho k x hx with ⟨p1, p2, p3⟩ | ⟨p1, p3⟩
  ·rcases yh ds o es (by omega) k d wQ with ⟨_, _, p4⟩ | ⟨p4, _⟩
   ·simp only [p1, p2, and_self, if_true]; exact b1 _ x d p3 p4
   ·exact absurd ⟨p1, by omega⟩ p4
  ·rcases yh ds o es (by omega) k d wQ with ⟨p4, p5, _⟩ | ⟨_, p4⟩
   ·exact absurd ⟨p4, by omega⟩ p1
   ·simp only [p1, if_false]; exact a1 k x d p3 p4
 ·by_cases hk : o <= k /\ k < o + ys.length
  ·simp only [hk, and_self, if_true] at hb; exact .inr (b2 _ b hb)
  ·simp only [hk, if_false] at hb; exact .inl (a2 k b hb)
 ·by_cases vZ : o <= i /\ i < o + ys.length
  ·simp only [vZ, and_self, if_true] at hi
   by_cases uY : o <= j /\ j < o + ys.length
   ·simp only [uY, and_self, if_true] at hj
    have := b3 _ _ b hi hj; omega
   ·simp only [uY, if_false] at hj; exact (hd b (a2 j b hj) (b2 _ b hi)).elim
  ·simp only [vZ, if_false] at hi
   by_cases uY : o <= j /\ j < o + ys.length
   ·simp only [uY, and_self, if_true] at hj; exact (hd b (a2 i b hi) (b2 _ b hj)).elim
   ·simp only [uY, if_false] at hj; exact a3 i j b hi hj
theorem Own.Gn {v : Value} {n : Nat} {s : List (List D)} {S S2 : Nat -> Prop} (uX : Own w v (.sl n s) S) {k q : Nat} (hk : k < s.length) {ys : List Value} {ds : List D} (hy : QU w ys ds S2) (hle : q + ds.length <= n) (hd : ∀ b, S b -> S2 b -> False) :
  ∃ g cap cur e, v = .slice (some ⟨g, 0, none⟩) s.length cap /\ S g /\ w.heap[g]? = some (.cells cur e (0, 0)) /\ k * n + q + ys.length <= cur.size /\ Own (w.setRow g (place cur.toList (k * n + q) ys).toArray) v (.sl n (s.set k (place (s.getD k []) q ds))) (fun b => S b \/ S2 b) := by
 cases uX with
 | sl v size rows S e xs Sk ho hz hb hl va hs wQ =>
  have uc := hy.1
  obtain ⟨sa, ⟨_, h0⟩ | ⟨g, cap, cur, hv, uk, hh, vr, uE, uB, uv⟩⟩ := ho
  ·omega
  have p8 : S g := hb g (by rw [hv]; rfl)
  have we : s[k]? = some (s.getD k []) := by simp [List.getD_eq_getElem?_getD, List.getElem?_eq_getElem hk]
  have hmul : k * n + n <= s.length * n := by rw [<- Nat.succ_mul]; exact Nat.mul_le_mul_right _ hk
  have nQ : s.length * n <= cap * n := Nat.mul_le_mul_right _ vr
  have e3 : cur.toList.length = cur.size := Array.length_toList
  have tr : (s.getD k []).length = n := hz _ (List.mem_of_getElem? we)
  refine ⟨g, cap, cur, e, hv, p8, hh, by omega, ?_⟩
  have vj := setRow_heap w g cur (place cur.toList (k * n + q) ys).toArray e (0, 0) hh
  have wS : ∀ b', b' ≠ g -> (w.setRow g (place cur.toList (k * n + q) ys).toArray).heap[b']? = w.heap[b']? := fun b' wC => setRow_other w g b' _ wC
  have uw : ∀ r ∈ s.set k (place (s.getD k []) q ds), r.length = n := by
   intro r' vR
   rcases List.mem_or_eq_of_mem_set vR with vR | vR
   ·exact hz r' vR
   ·rw [vR, XE _ _ _ (by omega), tr]
  have vE : blk v = some g := by rw [hv]; rfl
  have k1 : QU (w.setRow g (place cur.toList (k * n + q) ys).toArray) xs s.flatten (fun b => S b /\ blk v ≠ some b) :=
   QU.SP (fun b' wW => wS b' (fun e => wW.2 (by rw [e]; exact vE))) (show QU w xs s.flatten (fun b => S b /\ blk v ≠ some b) from ⟨hl, Sk, va, fun k b hb => hs k b hb, wQ⟩)
  have k2 : QU (w.setRow g (place cur.toList (k * n + q) ys).toArray) ys ds S2 := hy.SP (fun b' wW => wS b' (fun e => hd b' (by rw [e]; exact p8) wW))
  have k3 := k1.place k2 (fun b' h1 h2 => hd b' h1.1 h2) (k * n + q) (by rw [sa]; omega)
  rw [<- K0 n q ds (by omega) s k _ we hz] at k3
  obtain ⟨nJ, gN, a1, a2, a3⟩ := k3
  refine .sl v n _ _ e (place xs (k * n + q) ys) gN ⟨?_, .inr ⟨g, cap, _, by simpa using hv, uk, vj, by simpa using vr, uE, ?_, ?_⟩⟩ uw (fun b' wW => .inl (hb b' wW)) nJ a1 (fun k b wW => ?_) a3
  ·rw [XE _ _ _ (by rw [sa]; omega), sa]; simp
  ·simp only [List.size_toArray]
   rw [XE _ _ _ (by omega), e3, uB]
  ·simp only [List.length_set]
   rw [Pn _ _ _ _ (by omega) (by omega), uv]
  ·rcases a2 k b wW with h1 | h1
   ·exact ⟨.inl h1.1, h1.2⟩
   ·exact ⟨.inr h1, fun e => hd b (hb b e) h1⟩
theorem Rg (r : Rel T0 B σ a w X h) {o : Oper} {T : TypeId} {x y : Operand} (wA : o.op = .store T x y) (hd : o.dst = none) (ht : ym P T = true) (sL : gOf (look P σ 0 x) = true) (sM : gOf (look P σ T y) = true)
  {t j i c k q n : Nat} {s : List (List D)} (hx : unc (look P σ 0 x) = .one (.tref t j i c (some (k * n + q)))) {size : Nat} {rows : List (List D)} (ho : σ.ob t j = .arr true size rows) (hi : i < rows.length) (wM : (rows.getD i [])[c]? = some (.sl n s)) (hk : k < s.length)
  {ds : List D} (vg : (unc (look P σ T y)).flat = true) (sv : Qd σ (unc (look P σ T y)).cells = some ds) (wb : Xj σ (unc (look P σ T y)).cells)
  (w9 : (YL (unc (look P σ T y)).cells).Nodup) (nG : (t, j) ∉ YL (unc (look P σ T y)).cells) (hl : ds.length = P.cellsOf T) (hle : q + P.cellsOf T <= n)
  {K : Act -> World -> Prop} {Q : Exit -> Act -> World -> Prop} (hK : ∀ a' w', QK T0 B ((σ.Zq (YL (unc (look P σ T y)).cells)).Zh t j (.arr true size (rows.set i (place (rows.getD i []) c [.sl n (s.set k (place (s.getD k []) q ds))])))) a' w' -> Y0 B w w' -> K a' w') : o.wp P a w K Q := by
 obtain ⟨_, ti, _, my, _, _⟩ := qe ht
 have wY : σ.ob t j ≠ .none := by rw [ho]; simp
 have h0 := r.obj t j
 rw [ho] at h0
 obtain ⟨e, vs, uX, hz, ⟨mH, Sk, o1, o2, o3⟩, hn⟩ := h0
 have we : rows[i]? = some (rows.getD i []) := by simp [List.getD_eq_getElem?_getD, List.getElem?_eq_getElem hi]
 have vh : rows.flatten[i * size + c]? = some (.sl n s) := zc rows size hz i _ we c _ wM
 have wN : i * size + c < vs.length := by rw [mH]; exact (List.getElem?_eq_some_iff.1 vh).1
 have r8 : vs[i * size + c]? = some vs[i * size + c] := List.getElem?_eq_getElem wN
 have iK := hn _ _ _ r8 vh rfl
 have wL := o1 _ _ _ r8 vh
 have hy := qP vg (r.arg (P := P) T y rfl sM)
 have tV := Um r hy sv wb w9
 have uc := tV.1
 have e2 : (a.eval y).cells.toList.length = (a.eval y).cells.size := Array.length_toList
 generalize hL : YL (unc (look P σ T y)).cells = L at *
 have tJ : ∀ b', (h t j).u b' -> JH σ h L b' -> False := by
  rintro b' vx ⟨p, hp, wC, m5⟩
  obtain ⟨q1, q2⟩ := r.inj t j p.1 p.2 b' wY wC vx m5
  exact nG (by rw [q1, q2]; exact hp)
 have lE : ∀ b, Sk (i * size + c) b -> (h t j).u b := fun b hb => (o2 _ b hb).1
 obtain ⟨g, cap, cur, e1, hv, p8, hh, vK, vv⟩ := wL.Gn (q := q) hk tV (by omega) (fun b h1 h2 => tJ b (lE b h1) h2)
 have nP := r.arg (P := P) 0 x hx sL
 have he : a.eval x = .pointer (some ⟨g, k * n + q, none⟩) := by
  obtain ⟨b, n', r7, h1, h2⟩ := nP.2 size rows ho
  rw [iK, hv] at h1
  cases h1; exact h2
 have wV := run_store (P := P) (w := w) my (o := k * n + q) (val := a.eval y) hh (by omega) (by omega) (fun u hu => by obtain ⟨x', _, tO⟩ := hy.mem hu; exact Zr.XG tO)
 have gY := r.own t j g wY (lE g p8)
 have r1 := r.Zq L
 have rQ : (σ.Zq L).ob t j = .arr true size rows := by rw [St.JD, if_neg nG, ho]
 have wj := r.zN L
 have uB : c + 1 <= size := by
  have h1 := (List.getElem?_eq_some_iff.1 wM).1
  have h2 := hz _ (List.mem_of_getElem? we)
  omega
 have lF := K0 size c [D.sl n (s.set k (place (s.getD k []) q ds))] (by simpa using uB) rows i _ we hz
 have lG : i * size + c + [D.sl n (s.set k (place (s.getD k []) q ds))].length <= rows.flatten.length := by rw [<- mH]; simp; omega
 have tr : (rows.getD i []).length = size := hz _ (List.mem_of_getElem? we)
 have uw : ∀ r ∈ rows.set i (place (rows.getD i []) c [D.sl n (s.set k (place (s.getD k []) q ds))]), r.length = size := by
  intro r' vR
  rcases List.mem_or_eq_of_mem_set vR with vR | vR
  ·exact hz r' vR
  ·rw [vR, XE _ _ _ (by rw [tr]; simpa using uB), tr]
 have wS : ∀ b', b' ≠ g -> (w.setRow g (place cur.toList (k * n + q) (a.eval y).cells.toList).toArray).heap[b']? = w.heap[b']? := fun b' wC => setRow_other w g b' _ wC
 have vE : ∀ b, blk (h t j).v = some b -> (w.setRow g (place cur.toList (k * n + q) (a.eval y).cells.toList).toArray).heap[b]? = w.heap[b]? := fun b hb => wS b (fun e => (o2 _ g p8).2 (by rw [<- e]; exact hb))
 unfold Oper.wp
 simp only [execOp, wA, he, Sem.run_bind, wV, Result.andThen_ok, Sem.run_pure, Oper.upon_skip, hd]
 refine hK _ _ ⟨X, _, r1.change (by rw [rQ]; simp) (by simp [World.setRow]) (fun k' va => wS k' (fun e => va (e ▸ lE g p8))) (JH σ h L) (fun b' wW => wj b' wW) _ (by rw [rQ]; simp [Ob.F6])
  ⟨(h t j).v, (h t j).n, fun b' => (h t j).u b' \/ JH σ h L b'⟩ rfl (fun b' wW => wW) (fun b' wW => .inl (r.ub t j b' wY wW)) (fun _ => false) (St.zT _) (.inr rfl) ?_⟩ (Y0.setRow gY.1 _)
 refine ⟨e, vs, by rw [List.length_set]; exact Kw vE uX, uw, ⟨?_, fun k' => if k' = i * size + c then (fun b => Sk (i * size + c) b \/ JH σ h L b) else Sk k', fun k' x dd hx uA => ?_, fun k' b hb => ?_, fun p' q' b hp hq => ?_⟩, fun k' x dd hx uA vV => ?_⟩
 ·rw [lF, XE _ _ _ lG, mH]
 ·rw [lF] at uA
  rcases yh _ _ _ lG k' dd uA with ⟨k1, k2, k3⟩ | ⟨k1, k3⟩
  ·have va : k' = i * size + c := by simp at k2; omega
   subst va
   rw [r8] at hx; cases hx
   simp at k3; subst k3
   simp only [if_true]; exact vv
  ·have va : ¬ k' = i * size + c := fun va => k1 ⟨by omega, by simp; omega⟩
   simp only [va, if_false]
   exact (o1 k' x dd hx k3).SP (fun b hb => wS b (fun e => va (o3 k' _ b hb (by rw [e]; exact p8))))
 ·by_cases va : k' = i * size + c
  ·simp only [va, if_true] at hb
   rcases hb with hb | hb
   ·exact ⟨.inl (o2 _ b hb).1, (o2 _ b hb).2⟩
   ·exact ⟨.inr hb, fun e => tJ b (r.ub t j b wY e) hb⟩
  ·simp only [va, if_false] at hb; exact ⟨.inl (o2 k' b hb).1, (o2 k' b hb).2⟩
 ·by_cases su : p' = i * size + c
  ·by_cases um : q' = i * size + c
   ·rw [su, um]
   ·simp only [su, if_true] at hp
    simp only [um, if_false] at hq
    rcases hp with hp | hp
    ·rw [su]; exact (o3 _ _ b hp hq)
    ·exact (tJ b (o2 q' b hq).1 hp).elim
  ·simp only [su, if_false] at hp
   by_cases um : q' = i * size + c
   ·simp only [um, if_true] at hq
    rcases hq with hq | hq
    ·rw [um]; exact (o3 _ _ b hp hq)
    ·exact (tJ b (o2 p' b hp).1 hq).elim
   ·simp only [um, if_false] at hq; exact o3 p' q' b hp hq
 ·rw [lF] at uA
  rcases yh _ _ _ lG k' dd uA with ⟨k1, k2, k3⟩ | ⟨k1, k3⟩
  ·have va : k' = i * size + c := by simp at k2; omega
   subst va
   rw [r8] at hx; cases hx; exact iK
  ·exact hn k' x dd hx k3 vV
end
section
variable {P : Program} {T0 : CS} {B : Nat -> Prop} {σ : St} {a : Act} {w w' : World} {X X' : Nat -> Prop} {h : Nat -> Nat -> Hd}
def Dv (σ : St) (x : V) (size : Nat) (wI : List (List D)) (l : List (Nat × Nat)) : Prop :=
 match x with
 | .one (.nil _) => wI = [] /\ l = []
 | .one (.sref t j lo len) => lo = 0 /\ len = wI.length /\ l = [(t, j)] /\ (σ.ob t j = .arr true size wI \/ (σ.ob t j = .lit size [] /\ wI = []))
 | _ => False
end
def EP (w : World) (res : List (List D)) (e : Ending) (w' : World) : Prop :=
 ∃ (vs : List Value) (wc : List (List Value)), e = .returned (Vr vs) /\ Below w.heap.size w w' /\ Zg JI vs wc /\ Zg (fun (cs : List Value) (row : List D) => cs.length = row.length) wc res /\
  QU w' wc.flatten res.flatten (fun b => w.heap.size <= b /\ b < w'.heap.size)
def YD (P : Program) (f : FuncId) (args res : List (List D)) : Prop :=
 kJ P f = true /\ ∀ (T : CS) (w : World) (wq : List Value), (∀ b k, T b k -> b < w.heap.size) -> Zg (fun v row => ∃ cs, JI v cs /\ Zg (Rd T w) cs row) wq args -> Calls P f wq.toArray w (EP w res)
theorem K2 {α β : Type} {R : α -> β -> Prop} : ∀ {wc : List (List α)} {res : List (List β)}, Zg (fun (cs : List α) (row : List β) => cs.length = row.length) wc res -> (∀ (k : Nat) (x : α) (d : β), wc.flatten[k]? = some x -> res.flatten[k]? = some d -> R x d) -> Zg (fun cs row => Zg R cs row) wc res := by
 intro wc res wG
 induction wG with
 | nil => intro _; exact .nil
 | @cons cs row wc res hl _ ih =>
  intro hk
  refine .cons (Zg.J2 hl (fun k x d hx hd => hk k x d ?_ ?_)) (ih (fun k x d hx hd => hk (cs.length + k) x d ?_ ?_))
  ·rw [List.flatten_cons, List.getElem?_append_left (List.getElem?_eq_some_iff.1 hx).1]; exact hx
  ·rw [List.flatten_cons, List.getElem?_append_left (List.getElem?_eq_some_iff.1 hd).1]; exact hd
  ·rw [List.flatten_cons, List.getElem?_append_right (by omega)]; simpa using hx
  ·rw [List.flatten_cons, List.getElem?_append_right (by omega), hl]; simpa using hd
theorem YD.rd {P : Program} {f : FuncId} {args res : List (List D)} (hs : YD P f args res) : Xk P f false args res := by
 refine ⟨hs.1, fun T w wq hT ha => (hs.2 T w wq hT ha).mono ?_⟩
 rintro e w' ⟨vs, wc, he, hb, hf, hl, ⟨_, Sk, h1, h2, h3⟩⟩
 refine ⟨vs, wc, fun b => w.heap.size <= b /\ b < w'.heap.size, he, hb, fun b hb => hb, hf, K2 hl (fun k x d hx hd => ?_), fun hh => by cases hh⟩
 simp only [Ki, Bool.false_eq_true, if_false]
 exact (h1 k x d hx hd).rd (fun b k' hb => .inr (h2 k b hb))
def Zs : List Bool -> List D -> List Ob
 | _, [] => []
 | q :: qs, .sl size rows :: ds => .arr q size rows :: Zs qs ds
 | [], .sl size rows :: ds => .arr true size rows :: Zs [] ds
 | qs, _ :: ds => .none :: Zs qs.tail ds
def KQ : List Bool -> List D -> Prop
 | _, [] => True
 | q :: qs, .sl _ rows :: ds => (q = false -> ∀ r ∈ rows, ∀ x ∈ r, x.scalar = true) /\ KQ qs ds
 | [], .sl _ _ :: ds => KQ [] ds
 | qs, _ :: ds => KQ qs.tail ds
theorem YA : ∀ (qs : List Bool) (ds : List D) (k : Nat), KQ qs ds -> (∀ size rows, ds[k]? = some (.sl size rows) -> ∃ q, YB (Zs qs ds) k = .arr q size rows /\ (q = false -> ∀ r ∈ rows, ∀ x ∈ r, x.scalar = true)) /\ (YB (Zs qs ds) k ≠ .none -> ∃ size rows, ds[k]? = some (.sl size rows))
 | qs, [], k, _ => ⟨fun size rows h => by simp at h, fun h => by cases qs <;> simp [Zs, YB] at h⟩
 | q :: qs, .sl size rows :: ds, 0, hf => ⟨fun s r h => by simp at h; obtain ⟨rfl, rfl⟩ := h; exact ⟨q, by simp [Zs, YB], hf.1⟩, fun _ => ⟨size, rows, by simp⟩⟩
 | [], .sl size rows :: ds, 0, hf => ⟨fun s r h => by simp at h; obtain ⟨rfl, rfl⟩ := h; exact ⟨true, by simp [Zs, YB], fun h => by cases h⟩, fun _ => ⟨size, rows, by simp⟩⟩
 | qs, .int k n :: ds, 0, hf => ⟨fun s r h => by simp at h, fun h => by cases qs <;> simp [Zs, YB] at h⟩
 | qs, .bool b :: ds, 0, hf => ⟨fun s r h => by simp at h, fun h => by cases qs <;> simp [Zs, YB] at h⟩
 | qs, .str s :: ds, 0, hf => ⟨fun s r h => by simp at h, fun h => by cases qs <;> simp [Zs, YB] at h⟩
 | qs, .unk :: ds, 0, hf => ⟨fun s r h => by simp at h, fun h => by cases qs <;> simp [Zs, YB] at h⟩
 | q :: qs, .sl size rows :: ds, k + 1, hf => by
  have := YA qs ds k hf.2
  simpa [Zs, YB] using this
 | [], .sl size rows :: ds, k + 1, hf => by
  have := YA [] ds k hf
  simpa [Zs, YB] using this
 | qs, .int _ _ :: ds, k + 1, hf => by
  have := YA qs.tail ds k (by cases qs <;> exact hf)
  cases qs <;> simpa [Zs, YB] using this
 | qs, .bool _ :: ds, k + 1, hf => by
  have := YA qs.tail ds k (by cases qs <;> exact hf)
  cases qs <;> simpa [Zs, YB] using this
 | qs, .str _ :: ds, k + 1, hf => by
  have := YA qs.tail ds k (by cases qs <;> exact hf)
  cases qs <;> simpa [Zs, YB] using this
 | qs, .unk :: ds, k + 1, hf => by
  have := YA qs.tail ds k (by cases qs <;> exact hf)
  cases qs <;> simpa [Zs, YB] using this
section
variable {P : Program} {T0 : CS} {B : Nat -> Prop} {σ : St} {a : Act} {w w' : World} {X X' : Nat -> Prop} {h : Nat -> Nat -> Hd}
theorem LG (r : Rel T0 B σ a w X h) {o : Oper} {c : Call} {f : FuncId} {d : Nat} {rows res : List (List D)} (qs : List Bool) (wA : o.op = .call c) (hc : c.callee = .value (.func f)) (hd : o.dst = some d) (vG : σ.fresh d = true)
  (wK : XP P σ c.args.toList c.argTypes.toList rows) (hs : YD P f rows res) (hq : KQ qs res.flatten)
  {K : Act -> World -> Prop} {Q : Exit -> Act -> World -> Prop} (hK : ∀ a' w', QK T0 B (σ.new d (xZ d res) (Zs qs res.flatten)) a' w' -> Y0 B w w' -> K a' w') : o.wp P a w K Q := by
 have wN := St.Jr vG
 unfold Oper.wp
 rw [qU wA hc hs.1, Oper.upon_enter]
 have rR := r.XP false wK (fun hh => by cases hh)
 simp only [Bool.false_eq_true, if_false] at rR
 refine (hs.2 (Uq T0 X h σ) w _ (fun b k hb => r.MZ hb) rR).mono ?_
 rintro e w' ⟨vs, wc, rfl, vc, wi, hlen, ⟨_, Sk, h1, h2, h3⟩⟩
 rw [hd]
 have hex : ∀ j, ∃ hd : Hd, (∀ c, wc.flatten[j]? = some c -> hd.v = c) /\ (∀ size rows, res.flatten[j]? = some (.sl size rows) -> (∀ b, hd.u b -> Sk j b) /\ (∀ b, blk hd.v = some b -> hd.u b) /\ ∀ T h ob, X6 T h ob w' hd (.arr true size rows) /\ ((∀ r ∈ rows, ∀ x ∈ r, x.scalar = true) -> X6 T h ob w' hd (.arr false size rows))) := by
  intro j
  have vg : wc.flatten.length = res.flatten.length := by
   have := K2 (R := fun _ _ => True) hlen (fun _ _ _ _ _ => trivial)
   exact (Kk this).length
  cases hj : res.flatten[j]? with
  | none => exact ⟨Hd.of ((wc.flatten[j]?).getD undef), fun c wu => by simp [Hd.of, wu], fun size rows hh => by cases hh⟩
  | some dd =>
   have rD : j < wc.flatten.length := by rw [vg]; exact (List.getElem?_eq_some_iff.1 hj).1
   have sY : wc.flatten[j]? = some wc.flatten[j] := List.getElem?_eq_getElem rD
   cases dd with
   | int k n => exact ⟨Hd.of wc.flatten[j], fun c wu => by rw [sY] at wu; cases wu; rfl, fun size rows hh => by cases hh⟩
   | bool k => exact ⟨Hd.of wc.flatten[j], fun c wu => by rw [sY] at wu; cases wu; rfl, fun size rows hh => by cases hh⟩
   | str k => exact ⟨Hd.of wc.flatten[j], fun c wu => by rw [sY] at wu; cases wu; rfl, fun size rows hh => by cases hh⟩
   | unk => exact ⟨Hd.of wc.flatten[j], fun c wu => by rw [sY] at wu; cases wu; rfl, fun size rows hh => by cases hh⟩
   | sl size rows =>
    have ho := h1 j _ _ sY hj
    generalize hv : wc.flatten[j] = v at ho
    cases ho with
    | sl v size rows S e xs rn ho hz hb hl hk r6 wQ =>
     refine ⟨⟨v, fun k => (xs[k]?).getD undef, Sk j⟩, fun c wu => by rw [sY, hv] at wu; cases wu; rfl, fun wZ wT hh => ?_⟩
     cases hh
     refine ⟨fun b hb => hb, hb, fun T h ob => ⟨⟨e, xs, ho, hz, ⟨hl, rn, hk, fun k b hb => r6 k b hb, wQ⟩, fun k x d hx _ _ => by simp [hx]⟩, fun vh => ⟨e, xs, ho, hz, Zg.J2 hl (fun k x d hx hd => ?_)⟩⟩⟩
     obtain ⟨r0, uo, hdr⟩ := List.mem_flatten.1 (List.mem_of_getElem? hd)
     have vV := vh r0 uo d hdr
     have := hk k x d hx hd
     cases this with
     | int k n => exact .int _ _
     | bool b => exact .bool _
     | str s => exact .str _
     | unk v h => exact .unk _ h
     | sl => cases vV
 obtain ⟨hf, sw⟩ := Classical.axiomOfChoice hex
 refine hK _ _ ⟨X, fun t j => if t = d then hf j else h t j, ?_⟩ (Y0.U8 vc r.hB)
 have wY : ∀ j, (σ.new d (xZ d res) (Zs qs res.flatten)).ob d j = YB (Zs qs res.flatten) j := fun j => by rw [St.X7]; simp [wN]
 have vw : Zg (fun cs row => Zg (y6 (Tof T0 X) w') cs row) wc res := by
  refine K2 hlen (fun k x d hx hd => ?_)
  have ho := h1 k x d hx hd
  cases ho with
  | int k n => exact Rd.int _ _
  | bool b => exact Rd.bool _
  | str s => exact Rd.str _
  | unk v h => exact Rd.unk _ h
  | sl v size rows S e xs rn ho hz hb hl hk r6 wQ => exact ⟨e, xs, ho⟩
 refine r.new vG (Below.grownBy vc) (fun b hb => hb) (fun b hb => .inl hb) (xZ d res) (Vr vs) (Zs qs res.flatten) hf ?_ (fun j => ?_) (fun j b wC hb => ?_) (fun j b wC hb => ?_) (fun j j' b wC wz hb wW => ?_)
 ·exact OQ (h := fun t j => if t = d then hf j else h t j) (ob := (σ.new d (xZ d res) (Zs qs res.flatten)).ob) (t := d) wi vw (fun i size rows hi => by
   obtain ⟨q, um, _⟩ := (YA qs res.flatten i hq).1 size rows hi
   exact ⟨q, by rw [wY]; exact um⟩) (fun i c hi => by simp only [if_true]; exact (sw i).1 c hi)
 ·by_cases wC : YB (Zs qs res.flatten) j = .none
  ·rw [wC]; trivial
  ·obtain ⟨size, rows, hj⟩ := (YA qs res.flatten j hq).2 wC
   obtain ⟨q, um, nK⟩ := (YA qs res.flatten j hq).1 size rows hj
   rw [um]
   have := ((sw j).2 size rows hj).2.2 (Tof T0 X) (fun t j => if t = d then hf j else h t j) (σ.new d (xZ d res) (Zs qs res.flatten)).ob
   cases q with
   | true => exact this.1
   | false => exact this.2 (nK rfl)
 ·obtain ⟨size, rows, hj⟩ := (YA qs res.flatten j hq).2 wC
  exact ((sw j).2 size rows hj).2.1 b hb
 ·obtain ⟨size, rows, hj⟩ := (YA qs res.flatten j hq).2 wC
  have := h2 j b (((sw j).2 size rows hj).1 b hb)
  exact ⟨this.1, fun hx => by have := (r.hX b hx).2; omega, this.2⟩
 ·obtain ⟨size, rows, hj⟩ := (YA qs res.flatten j hq).2 wC
  obtain ⟨wZ, wT, uY⟩ := (YA qs res.flatten j' hq).2 wz
  exact h3 j j' b (((sw j).2 size rows hj).1 b hb) (((sw j').2 wZ wT uY).1 b wW)
end
end Go.Vm
