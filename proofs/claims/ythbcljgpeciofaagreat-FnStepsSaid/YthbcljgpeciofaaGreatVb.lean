/- An abstract machine NW the model of Go, by value, and that it is sound: part Vb. No condition. -/
import Derived.Test.YthbcljgpeciofaaGreatVa
set_option linter.unusedVariables false
set_option linter.unusedSimpArgs false
namespace Go.Vm
open Go.RowKit
section
variable {P : Program} {T0 : CS} {B : Nat -> Prop} {σ : St} {a : Act} {w w' : World} {X X' : Nat -> Prop} {h : Nat -> Nat -> Hd}
theorem YD.CG {T T' : CS} {h h' : Nat -> Nat -> Hd} {ob sB : Nat -> Nat -> Ob} (hT : ∀ b k v, T b k -> w.cell? ⟨b, k, none⟩ = some v -> w'.cell? ⟨b, k, none⟩ = some v /\ T' b k) (hc : ∀ t j, Cpt h h' ob sB t j)
  {x : At} {v : Value} (r : YD T h ob w x v) : YD T' h' sB w' x v := by
 obtain ⟨d, hd⟩ : ∃ d, x.ref d = false := by
  cases x with
  | sref t j lo len => exact ⟨t + 1, by simp [At.ref]⟩
  | ptr t j i c => exact ⟨t + 1, by simp [At.ref]⟩
  | bptr t c => exact ⟨t + 1, by simp [At.ref]⟩
  | fn f t => exact ⟨t + 1, by simp [At.ref]⟩
  | tref t j i c o => exact ⟨t + 1, by simp [At.ref]⟩
  | any => exact ⟨0, rfl⟩
  | d x => exact ⟨0, rfl⟩
  | nil s => exact ⟨0, rfl⟩
  | rptr r c => exact ⟨0, rfl⟩
 exact YD.carry hT (d := d) (fun t j _ => hc t j) hd r
def WK (p : At -> Bool) : List At -> Bool
 | [] => false
 | x :: xs => p x || WK p xs
def V.HP (p : At -> Bool) : V -> Bool
 | .one x => p x
 | .agg xs => WK p xs
 | _ => false
def Lz (p : At -> Bool) : List V -> Bool
 | [] => false
 | x :: xs => x.HP p || Lz p xs
def V.zT (p : At -> Bool) : V -> Bool
 | .tup xs => Lz p xs
 | .cnd _ x => x.HP p
 | .fix _ x => x.HP p
 | .one x => p x
 | .agg xs => WK p xs
 | .any => false
def zV (p : At -> Bool) : List Ob -> Bool
 | [] => false
 | .box cells :: os => WK p cells || zV p os
 | .lit _ rows :: os => WK p rows.flatten || zV p os
 | _ :: os => zV p os
def St.zT (p : At -> Bool) : St -> Bool
 | [] => false
 | e :: σ => e.1.zT p || zV p e.2 || St.zT p σ
def At.isT (t : Nat) : At -> Bool
 | .tref u _ _ _ _ => u == t
 | _ => false
theorem xR : ∀ (xs : List At), WK (fun _ => false) xs = false
 | [] => rfl
 | _ :: xs => by simp [WK, xR xs]
theorem PO : ∀ (xs : List V), Lz (fun _ => false) xs = false
 | [] => rfl
 | x :: xs => by cases x <;> simp [Lz, V.HP, xR, PO xs]
theorem FC (x : V) : x.HP (fun _ => false) = false := by cases x <;> simp [V.HP, xR]
theorem y2 (x : V) : x.zT (fun _ => false) = false := by cases x <;> simp [V.zT, xR, PO, FC]
theorem jV : ∀ (os : List Ob), zV (fun _ => false) os = false
 | [] => rfl
 | o :: os => by cases o <;> simp [zV, xR, jV os]
theorem St.y2 : ∀ (σ : St), St.zT (fun _ => false) σ = false
 | [] => rfl
 | e :: σ => by simp [St.zT, Go.Vm.y2, Go.Vm.jV, St.y2 σ]
theorem St.Np {p : At -> Bool} : ∀ {σ : St}, σ.zT p = false -> ∀ t, (σ.get t).zT p = false
 | [], _, t => by simp [St.get, V.zT]
 | e :: σ, h, 0 => by simp only [St.zT, Bool.or_eq_false_iff] at h; exact h.1.1
 | e :: σ, h, t + 1 => by
  simp only [St.zT, Bool.or_eq_false_iff] at h
  have := St.Np h.2 t
  simpa [St.get] using this
theorem Lb {p : At -> Bool} : ∀ {os : List Ob}, zV p os = false -> ∀ j, zV p [YS os j] = false
 | [], _, j => by simp [YS, zV]
 | o :: os, h, 0 => by cases o <;> simp_all [YS, zV]
 | o :: os, h, j + 1 => by
  have h2 : zV p os = false := by cases o <;> simp_all [zV]
  have := Lb h2 j
  simpa [YS] using this
theorem St.I2 {p : At -> Bool} : ∀ {σ : St}, σ.zT p = false -> ∀ t j, zV p [σ.ob t j] = false
 | [], _, t, j => by simp [St.ob, zV]
 | e :: σ, h, 0, j => by simp only [St.zT, Bool.or_eq_false_iff] at h; exact Lb h.1.2 j
 | e :: σ, h, t + 1, j => by
  simp only [St.zT, Bool.or_eq_false_iff] at h
  have := St.I2 h.2 t j
  simpa [St.ob] using this
theorem Ol {T T' : CS} {h h' : Nat -> Nat -> Hd} {ob sB : Nat -> Nat -> Ob} {p : At -> Bool} (f : ∀ {x : At} {v : Value}, p x = false -> YD T h ob w x v -> YD T' h' sB w' x v) {xs : List At} {vs : List Value} (hx : WK p xs = false)
  (r : Zy (YD T h ob w) xs vs) : Zy (YD T' h' sB w') xs vs := by
 induction r with
 | nil => exact .nil
 | cons r _ ih =>
  simp only [WK, Bool.or_eq_false_iff] at hx
  exact .cons (f hx.1 r) (ih hx.2)
theorem Jh.map {T T' : CS} {h h' : Nat -> Nat -> Hd} {ob sB : Nat -> Nat -> Ob} {p : At -> Bool} (f : ∀ {x : At} {v : Value}, p x = false -> YD T h ob w x v -> YD T' h' sB w' x v) {x : V} {v : Value} (hx : x.HP p = false)
  (r : Jh T h ob w x v) : Jh T' h' sB w' x v := by
 cases x with
 | any => exact r
 | one x => exact f hx r
 | agg xs => obtain ⟨cs, e, r⟩ := r; exact ⟨cs, e, Ol f hx r⟩
 | tup xs => exact r.elim
 | cnd g x => exact r.elim
 | fix u x => exact r.elim
theorem QI.map {T T' : CS} {h h' : Nat -> Nat -> Hd} {ob sB : Nat -> Nat -> Ob} {p : At -> Bool} (f : ∀ {x : At} {v : Value}, p x = false -> YD T h ob w x v -> YD T' h' sB w' x v) {x : V} {v : Value} (hx : x.zT p = false)
  (r : QI T h ob w x v) : QI T' h' sB w' x v := by
 cases x with
 | any => exact r
 | one x => exact f hx r
 | agg xs => obtain ⟨cs, e, r⟩ := r; exact ⟨cs, e, Ol f hx r⟩
 | tup xs =>
  obtain ⟨vs, e, r⟩ := r
  refine ⟨vs, e, ?_⟩
  clear e
  generalize vs.toList = vl at r
  simp only [V.zT] at hx
  induction r with
  | nil => exact .nil
  | cons r _ ih =>
   simp only [Lz, Bool.or_eq_false_iff] at hx
   exact .cons (Jh.map f hx.1 r) (ih hx.2)
 | cnd g x => exact ⟨fun hg => Jh.map f hx (r.1 hg), r.2⟩
 | fix u x => exact ⟨r.1, Jh.map f hx r.2⟩
theorem JA.map {T T' : CS} {h h' : Nat -> Nat -> Hd} {ob sB : Nat -> Nat -> Ob} {p : At -> Bool} (f : ∀ {x : At} {v : Value}, p x = false -> YD T h ob w x v -> YD T' h' sB w' x v)
  (hT : ∀ b k v, T b k -> w.cell? ⟨b, k, none⟩ = some v -> w'.cell? ⟨b, k, none⟩ = some v /\ T' b k) {hd : Hd} {o : Ob}
  (tY : o ≠ .none -> ∀ b, blk hd.v = some b -> hd.u b) (hb : o ≠ .none -> ∀ b, hd.u b -> w'.heap[b]? = w.heap[b]?) (hx : zV p [o] = false) (r : JA T h ob w hd o) : JA T' h' sB w' hd o := by
 cases o with
 | none => trivial
 | box cells =>
  obtain ⟨b, cs, e, hv, hh, uF⟩ := r
  simp only [zV, Bool.or_false] at hx
  exact ⟨b, cs, e, hv, by rw [hb (by simp) b (tY (by simp) b (by rw [hv]; rfl))]; exact hh, Ol f hx uF⟩
 | arr q size rows =>
  have hk : ∀ {e : TypeId} {n : Nat} {xs : List Value}, w.ownsRow 0 e size hd.v n xs -> w'.ownsRow 0 e size hd.v n xs := fun ho => xE (fun b h => hb (by simp) b (tY (by simp) b h)) ho
  cases q with
  | false =>
   obtain ⟨e, xs, ho, hz, uF⟩ := r
   exact ⟨e, xs, hk ho, hz, uF.imp fun _ _ => Rd.mono hT⟩
  | true =>
   obtain ⟨e, xs, ho, hz, uF, hn⟩ := r
   exact ⟨e, xs, hk ho, hz, uF.SF (fun b h => hb (by simp) b h.1), hn⟩
 | lit size rows =>
  obtain ⟨e, xs, ho, hz, uF⟩ := r
  simp only [zV, Bool.or_false] at hx
  exact ⟨e, xs, xE (fun b h => hb (by simp) b (tY (by simp) b h)) ho, hz, Ol f hx uF⟩
def Ob.BL : Ob -> Ob -> Prop
 | .arr q s r, .arr q' s' r' => q = q' /\ s = s' /\ r.length = r'.length
 | .lit s r, .lit s' r' => s = s' /\ r.length = r'.length
 | .box _, .box _ => True
 | _, _ => False
theorem Rel.change (r : Rel T0 B σ a w X h) {t j : Nat} (uX : σ.ob t j ≠ .none) (tG : w'.heap.size = w.heap.size) (hw : ∀ k, ¬ (h t j).u k -> w'.heap[k]? = w.heap[k]?) (M : Nat -> Prop)
  (hM : ∀ b, M b -> ¬ B b /\ ¬ X b /\ b < w.heap.size /\ ∀ u i, σ.ob u i ≠ .none -> ¬ (h u i).u b) (o' : Ob) (ss : (σ.ob t j).BL o') (uM : Hd) (hv : uM.v = (h t j).v) (hu : ∀ b, uM.u b -> (h t j).u b \/ M b) (tY : ∀ b, blk uM.v = some b -> uM.u b)
  (p : At -> Bool) (hp : σ.zT p = false) (hn : (∀ u i c o, p (.tref t u i c o) = true) \/ uM.n = (h t j).n)
  (pL : JA (Tof T0 X) (fun u i => if u = t /\ i = j then uM else h u i) (σ.Zs t j o').ob w' uM o') : Rel T0 B (σ.Zs t j o') a w' X (fun u i => if u = t /\ i = j then uM else h u i) := by
 have tQ : ∀ u i, ¬ (u = t /\ i = j) -> (σ.Zs t j o').ob u i = σ.ob u i := by
  intro u i uD
  rw [St.Xj σ t j o' u i uX, if_neg uD]
 have tI : (σ.Zs t j o').ob t j = o' := by rw [St.Xj σ t j o' t j uX]; simp
 have hT : ∀ b k v, Tof T0 X b k -> w.cell? ⟨b, k, none⟩ = some v -> w'.cell? ⟨b, k, none⟩ = some v /\ Tof T0 X b k := by
  intro b' k v uS uI
  refine ⟨?_, uS⟩
  have uD : ¬ (h t j).u b' := by
   intro sH
   have uG := r.own t j b' uX sH
   rcases uS with uS | uS
   ·exact uG.1 (r.hT _ _ uS)
   ·exact uG.2.1 uS
  rw [World.cell?_of_block (hw b' uD)]; exact uI
 have lg : ∀ u i, ((fun u i => if u = t /\ i = j then uM else h u i) u i).v = (h u i).v := by
  intro u i
  by_cases hc : u = t /\ i = j
  ·simp only [hc, and_self, if_true]; exact hv
  ·simp only [hc, if_false]
 have mR : ∀ u i q size rows, (σ.Zs t j o').ob u i = .arr q size rows -> ∃ uP, σ.ob u i = .arr q size uP /\ uP.length = rows.length := by
  intro u i q size rows ho
  by_cases hc : u = t /\ i = j
  ·obtain ⟨rfl, rfl⟩ := hc
   rw [tI] at ho; subst ho
   cases tK : σ.ob u i with
   | arr q0 s0 r0 => rw [tK] at ss; obtain ⟨rfl, rfl, hl⟩ := ss; exact ⟨r0, rfl, hl⟩
   | none => rw [tK] at ss; exact ss.elim
   | box c => rw [tK] at ss; exact ss.elim
   | lit s r => rw [tK] at ss; exact ss.elim
  ·rw [tQ u i hc] at ho; exact ⟨rows, ho, rfl⟩
 have dE : ∀ u i size rows, (σ.Zs t j o').ob u i = .lit size rows -> ∃ uP, σ.ob u i = .lit size uP /\ uP.length = rows.length := by
  intro u i size rows ho
  by_cases hc : u = t /\ i = j
  ·obtain ⟨rfl, rfl⟩ := hc
   rw [tI] at ho; subst ho
   cases tK : σ.ob u i with
   | arr q0 s0 r0 => rw [tK] at ss; exact ss.elim
   | none => rw [tK] at ss; exact ss.elim
   | box c => rw [tK] at ss; exact ss.elim
   | lit s r => rw [tK] at ss; obtain ⟨rfl, hl⟩ := ss; exact ⟨r, rfl, hl⟩
  ·rw [tQ u i hc] at ho; exact ⟨rows, ho, rfl⟩
 have nc : ∀ u i cells, (σ.Zs t j o').ob u i = .box cells -> ∃ tV, σ.ob u i = .box tV := by
  intro u i cells ho
  by_cases hc : u = t /\ i = j
  ·obtain ⟨rfl, rfl⟩ := hc
   rw [tI] at ho; subst ho
   cases tK : σ.ob u i with
   | arr q0 s0 r0 => rw [tK] at ss; exact ss.elim
   | none => rw [tK] at ss; exact ss.elim
   | box c => exact ⟨c, rfl⟩
   | lit s r => rw [tK] at ss; exact ss.elim
  ·rw [tQ u i hc] at ho; exact ⟨cells, ho⟩
 have at_ : ∀ {x : At} {v : Value}, p x = false -> YD (Tof T0 X) h σ.ob w x v -> YD (Tof T0 X) (fun u i => if u = t /\ i = j then uM else h u i) (σ.Zs t j o').ob w' x v := by
  intro x v lW rx
  cases x with
  | any => exact rx
  | d x => exact Rd.mono hT rx
  | nil s => exact rx
  | sref u i lo len =>
   refine ⟨rx.1, fun q size rows ho => ?_, fun size rows ho => ?_⟩
   ·obtain ⟨uP, tK, hl⟩ := mR u i q size rows ho
    rw [lg, <- hl]; exact rx.2.1 q size uP tK
   ·obtain ⟨uP, tK, hl⟩ := dE u i size rows ho
    rw [lg, <- hl]; exact rx.2.2 size uP tK
  | ptr u i k c =>
   refine ⟨rx.1, fun q size rows ho => ?_⟩
   obtain ⟨uP, tK, hl⟩ := mR u i q size rows ho
   rw [lg]; exact rx.2 q size uP tK
  | bptr u c =>
   refine ⟨rx.1, fun cells ho => ?_⟩
   obtain ⟨tV, tK⟩ := nc u 0 cells ho
   rw [lg]; exact rx.2 tV tK
  | fn f u =>
   refine ⟨rx.1, fun cells ho => ?_⟩
   obtain ⟨tV, tK⟩ := nc u 0 cells ho
   rw [lg]; exact rx.2 tV tK
  | tref u i k c o =>
   refine ⟨rx.1, fun size rows ho => ?_⟩
   obtain ⟨uP, tK, hl⟩ := mR u i true size rows ho
   have h1 := rx.2 size uP tK
   by_cases hc : u = t /\ i = j
   ·obtain ⟨rfl, rfl⟩ := hc
    rcases hn with hn | hn
    ·rw [hn] at lW; cases lW
    ·simp only [and_self, if_true, hn]; exact h1
   ·simp only [hc, if_false]; exact h1
  | rptr rr c =>
   obtain ⟨b, off, g, e, hk⟩ := rx
   exact ⟨b, off, g, e, fun k d hd => ⟨(hT _ _ _ (hk k d hd).2.1 (hk k d hd).1).1, (hk k d hd).2.1, Rd.mono hT (hk k d hd).2.2⟩⟩
 have tR : ∀ u i, (σ.Zs t j o').ob u i ≠ .none -> σ.ob u i ≠ .none := by
  intro u i u7
  by_cases sH : u = t /\ i = j
  ·obtain ⟨rfl, rfl⟩ := sH; exact uX
  ·rw [tQ u i sH] at u7; exact u7
 refine ⟨by rw [r.size, St.Y3], r.defers, by rw [tG]; exact r.hB, fun b hb => by rw [tG]; exact r.hX b hb, r.hT, fun u sH => ?_, fun u i => ?_, fun u i b' uD uS => ?_, fun u i b' uD uS => ?_, fun u i u' i' b' uD uw tW u4 => ?_⟩
 ·rw [St.Y3] at sH
  rw [St.Xl]; exact QI.map at_ (St.Np hp u) (r.slot u sH)
 ·by_cases hc : u = t /\ i = j
  ·obtain ⟨rfl, rfl⟩ := hc; rw [tI]; simp only [and_self, if_true]; exact pL
  ·rw [tQ u i hc]
   simp only [hc, if_false]
   exact JA.map at_ hT (fun ho b => r.ub u i b ho) (fun ho b hb => hw b (fun gU => hc (r.inj u i t j b ho uX hb gU))) (St.I2 hp u i) (r.obj u i)
 ·by_cases hc : u = t /\ i = j
  ·simp only [hc, and_self, if_true] at uS ⊢; exact tY b' uS
  ·simp only [hc, if_false] at uS ⊢; exact r.ub u i b' (tR u i uD) uS
 ·rw [tG]
  by_cases hc : u = t /\ i = j
  ·simp only [hc, and_self, if_true] at uS
   rcases hu b' uS with h1 | h1
   ·exact r.own t j b' uX h1
   ·have := hM b' h1; exact ⟨this.1, this.2.1, this.2.2.1⟩
  ·simp only [hc, if_false] at uS; exact r.own u i b' (tR u i uD) uS
 ·by_cases hc : u = t /\ i = j
  ·by_cases ux : u' = t /\ i' = j
   ·exact ⟨by rw [hc.1, ux.1], by rw [hc.2, ux.2]⟩
   ·simp only [hc, and_self, if_true] at tW
    simp only [ux, if_false] at u4
    rcases hu b' tW with h1 | h1
    ·have := r.inj t j u' i' b' uX (tR u' i' uw) h1 u4
     rw [hc.1, hc.2]; exact this
    ·exact absurd u4 ((hM b' h1).2.2.2 u' i' (tR u' i' uw))
  ·by_cases ux : u' = t /\ i' = j
   ·simp only [ux, and_self, if_true] at u4
    simp only [hc, if_false] at tW
    rcases hu b' u4 with h1 | h1
    ·have := r.inj u i t j b' (tR u i uD) uX tW h1
     rw [ux.1, ux.2]; exact this
    ·exact absurd tW ((hM b' h1).2.2.2 u i (tR u i uD))
   ·simp only [hc, if_false] at tW
    simp only [ux, if_false] at u4
    exact r.inj u i u' i' b' (tR u i uD) (tR u' i' uw) tW u4
theorem Rel.EB (r : Rel T0 B σ a w X h) {t j : Nat} (uX : σ.ob t j ≠ .none) (tG : w'.heap.size = w.heap.size) (hw : ∀ k, ¬ (h t j).u k -> w'.heap[k]? = w.heap[k]?)
  (o' : Ob) (ss : (σ.ob t j).BL o') (pL : JA (Tof T0 X) h (σ.Zs t j o').ob w' (h t j) o') : Rel T0 B (σ.Zs t j o') a w' X h := by
 have hh : (fun u i => if u = t /\ i = j then h t j else h u i) = h := by
  funext u i
  by_cases hc : u = t /\ i = j
  ·simp [hc]
  ·simp [hc]
 have := r.change uX tG hw (fun _ => False) (fun _ hh => hh.elim) o' ss (h t j) rfl (fun b hb => .inl hb) (fun b hb => r.ub t j b uX hb) (fun _ => false) (St.y2 σ) (.inr rfl) (by rw [hh]; exact pL)
 rw [hh] at this; exact this
theorem run_store {T : TypeId} {ti : TypeInfo} (hi : P.info? T = some ti) {g o : Nat} {e : TypeId} {cur : Array Value} {val : Value} (hg : w.heap[g]? = some (.cells cur e (0, 0))) (tG : val.cells.size = P.cellsOf T) (hle : o + P.cellsOf T <= cur.size) (h1 : ∀ u ∈ val.cells.toList, u.oneCell' = true) :
  (Instr.storeAt T (.pointer (some ⟨g, o, none⟩)) val).run P w = .ok () (w.setRow g (place cur.toList o val.cells.toList).toArray) := by
 have uf := run_storeCells_at P g o e val.cells.toList 0 cur w hg (by simp; omega) h1
 have uD : ¬ val.cells.size ≠ P.cellsOf T := by omega
 simp only [Instr.storeAt, Instr.sureAddr, storeVar, Sem.run_bind, Sem.run_pure, Result.andThen_ok, Qx hi, if_neg uD]
 rw [uf]
 simp [place]
theorem Y9.setRow {B : Nat -> Prop} {g : Nat} (hg : ¬ B g) (cs : Array Value) : Y9 B w (w.setRow g cs) :=
 ⟨rfl, rfl, rfl, by simp [World.setRow], fun k hk => setRow_other w g k cs (fun e => hg (e ▸ hk))⟩
theorem NF (r : Rel T0 B σ a w X h) {o : Oper} {T : TypeId} {x y : Operand} (uA : o.op = .store T x y) (hd : o.dst = none) (ht : yf P T = true) (r7 : gOf (look P σ 0 x) = true) (r8 : gOf (look P σ T y) = true)
  {t c : Nat} (hx : unc (look P σ 0 x) = .one (.bptr t c)) {cells : List At} (ho : σ.ob t 0 = .box cells) (tg : (unc (look P σ T y)).flat = true) (hl : (unc (look P σ T y)).cells.length = P.cellsOf T) (hle : c + P.cellsOf T <= cells.length)
  {K : Act -> World -> Prop} {Q : Exit -> Act -> World -> Prop} (hK : ∀ a' w', JZ T0 B (σ.Zs t 0 (.box (place cells c (unc (look P σ T y)).cells))) a' w' -> Y9 B w w' -> K a' w') : o.wp P a w K Q := by
 obtain ⟨_, ti, _, hi, _, _⟩ := kG ht
 have lh := r.arg (P := P) 0 x hx r7
 obtain ⟨b, cs, e, hb, he, hh, uF⟩ := r.box ho lh
 have hy := ju tg (r.arg (P := P) T y rfl r8)
 have sC := hy.length
 have uk := uF.length
 have e1 : cs.toList.length = cs.size := Array.length_toList
 have e2 : (a.eval y).cells.toList.length = (a.eval y).cells.size := Array.length_toList
 have uT := run_store (P := P) (w := w) hi (o := c) (val := a.eval y) hh (by omega) (by omega) (fun u hu => by obtain ⟨x', _, pI⟩ := hy.mem hu; exact YD.Xg pI)
 have uX : σ.ob t 0 ≠ .none := by rw [ho]; simp
 have tU : blk (h t 0).v = some b := by rw [hb]; rfl
 have hB := r.AO uX tU
 have tY := r.ub t 0 b uX tU
 unfold Oper.wp
 simp only [execOp, uA, he, Sem.run_bind, uT, Result.andThen_ok, Sem.run_pure, Oper.upon_skip, hd]
 refine hK _ _ ⟨X, h, ?_⟩ (Y9.setRow hB.1 _)
 have tz := setRow_heap w b cs (place cs.toList c (a.eval y).cells.toList).toArray e (0, 0) hh
 refine r.EB uX (by simp [World.setRow]) (fun k hk => setRow_other w b k _ (fun e => hk (e ▸ tY))) _ (by rw [ho]; trivial) ?_
 have r2 : Rel T0 B (σ.Zs t 0 (.box (place cells c (unc (look P σ T y)).cells))) a (w.setRow b (place cs.toList c (a.eval y).cells.toList).toArray) X h -> True := fun _ => trivial
 have hT : ∀ b' k v, Tof T0 X b' k -> w.cell? ⟨b', k, none⟩ = some v -> (w.setRow b (place cs.toList c (a.eval y).cells.toList).toArray).cell? ⟨b', k, none⟩ = some v /\ Tof T0 X b' k := by
  intro b' k v uS uI
  refine ⟨?_, uS⟩
  have uD : b' ≠ b := by
   rintro rfl
   rcases uS with uS | uS
   ·exact hB.1 (r.hT _ _ uS)
   ·exact hB.2.1 uS
  rw [World.cell?_of_block (setRow_other w b b' _ uD)]; exact uI
 have tQ : ∀ u i, ¬ (u = t /\ i = 0) -> (σ.Zs t 0 (.box (place cells c (unc (look P σ T y)).cells))).ob u i = σ.ob u i := by
  intro u i uD
  rw [St.Xj σ t 0 _ u i uX, if_neg uD]
 have tI : (σ.Zs t 0 (.box (place cells c (unc (look P σ T y)).cells))).ob t 0 = .box (place cells c (unc (look P σ T y)).cells) := by rw [St.Xj σ t 0 _ t 0 uX]; simp
 have gd : ∀ u i, Cpt h h σ.ob (σ.Zs t 0 (.box (place cells c (unc (look P σ T y)).cells))).ob u i := by
  intro u i
  by_cases hu : u = t /\ i = 0
  ·obtain ⟨rfl, rfl⟩ := hu
   refine ⟨fun q size rows uV => ?_, fun size rows uV => ?_, fun uJ uV => ⟨rfl, cells, ho⟩⟩
   ·rw [tI] at uV; cases uV
   ·rw [tI] at uV; cases uV
  ·exact Cpt.same rfl (tQ u i hu)
 have at_ : ∀ {x : At} {v : Value}, YD (Tof T0 X) h σ.ob w x v -> YD (Tof T0 X) h (σ.Zs t 0 (.box (place cells c (unc (look P σ T y)).cells))).ob (w.setRow b (place cs.toList c (a.eval y).cells.toList).toArray) x v := fun rx => YD.CG hT gd rx
 refine ⟨b, _, e, hb, tz, ?_⟩
 have := (uF.place c hy).imp (fun _ _ => at_)
 simpa using this
end
end Go.Vm
namespace Go.Vm
open Go.RowKit
section
variable {P : Program} {T0 : CS} {B : Nat -> Prop} {σ : St} {a : Act} {w w' : World} {X X' : Nat -> Prop} {h : Nat -> Nat -> Hd}
theorem qP {α : Type} (size c : Nat) (ds : List α) (hc : c + ds.length <= size) : ∀ (rows : List (List α)) (i : Nat) (row : List α), rows[i]? = some row -> (∀ r ∈ rows, r.length = size) ->
  (rows.set i (place row c ds)).flatten = place rows.flatten (i * size + c) ds
 | [], i, row, hr, _ => by simp at hr
 | r0 :: rows, 0, row, hr, hz => by
  simp at hr; subst hr
  have h0 : r0.length = size := hz r0 (by simp)
  simp only [List.set_cons_zero, List.flatten_cons, place, Nat.zero_mul, Nat.zero_add]
  rw [List.take_append_of_le_length (by omega), List.drop_append_of_le_length (by omega)]
  simp
 | r0 :: rows, i + 1, row, hr, hz => by
  have h0 : r0.length = size := hz r0 (by simp)
  have ih := qP size c ds hc rows i row (by simpa using hr) (fun r hr => hz r (by simp [hr]))
  rw [List.set_cons_succ, List.flatten_cons, ih, List.flatten_cons]
  unfold place
  have e1 : (i + 1) * size + c = r0.length + (i * size + c) := by rw [h0, Nat.add_mul]; omega
  have e2 : (i + 1) * size + c + ds.length = r0.length + (i * size + c + ds.length) := by rw [h0, Nat.add_mul]; omega
  rw [e2, e1, List.take_length_add_append, List.drop_length_add_append]
  simp
theorem NM {α : Type} (l : List α) (n off : Nat) (xs : List α) (hl : off + xs.length <= n) (hn : n <= l.length) : (place l off xs).take n = place (l.take n) off xs := by
 unfold place
 rw [List.take_take, Nat.min_eq_left (by omega), List.drop_take]
 rw [List.take_append, List.take_append]
 simp only [List.length_append, List.length_take]
 rw [Nat.min_eq_left (by omega), List.take_of_length_le (l := List.take off l) (by simp; omega), List.take_of_length_le (l := xs) (by omega)]
theorem WW {α : Type} (l : List α) (o : Nat) (xs : List α) (hl : o + xs.length <= l.length) (k : Nat) (v : α) (hv : (place l o xs)[k]? = some v) :
  (o <= k /\ k < o + xs.length /\ xs[k - o]? = some v) \/ (¬ (o <= k /\ k < o + xs.length) /\ l[k]? = some v) := by
 unfold place at hv
 have h1 : (l.take o).length = o := by simp; omega
 rcases Nat.lt_or_ge k o with hk | hk
 ·rw [List.append_assoc, List.getElem?_append_left (by omega), List.getElem?_take, if_pos hk] at hv
  exact .inr ⟨by omega, hv⟩
 ·rw [List.append_assoc, List.getElem?_append_right (by omega), h1] at hv
  rcases Nat.lt_or_ge (k - o) xs.length with oW | oW
  ·rw [List.getElem?_append_left oW] at hv
   exact .inl ⟨hk, by omega, hv⟩
  ·rw [List.getElem?_append_right oW, List.getElem?_drop] at hv
   refine .inr ⟨by omega, ?_⟩
   rw [show o + xs.length + (k - o - xs.length) = k by omega] at hv; exact hv
theorem NT (r : Rel T0 B σ a w X h) {o : Oper} {T : TypeId} {x y : Operand} (uA : o.op = .store T x y) (hd : o.dst = none) (ht : yf P T = true) (r7 : gOf (look P σ 0 x) = true) (r8 : gOf (look P σ T y) = true)
  {t j i c : Nat} (hx : unc (look P σ 0 x) = .one (.ptr t j i c)) {q : Bool} {size : Nat} {rows : List (List D)} (ho : σ.ob t j = .arr q size rows) (hi : i < rows.length) {ds : List D} (tg : (unc (look P σ T y)).flat = true) (oX : rowOf σ (unc (look P σ T y)).cells = some ds) (uf : Jw (unc (look P σ T y)).cells = true)
  (hl : ds.length = P.cellsOf T) (hle : c + P.cellsOf T <= size) (hq : q = true -> (∀ d ∈ ds, d.scalar = true) /\ ∀ k d, k < P.cellsOf T -> (rows.getD i [])[c + k]? = some d -> d.scalar = true)
  {K : Act -> World -> Prop} {Q : Exit -> Act -> World -> Prop} (hK : ∀ a' w', JZ T0 B (σ.Zs t j (.arr q size (rows.set i (place (rows.getD i []) c ds)))) a' w' -> Y9 B w w' -> K a' w') : o.wp P a w K Q := by
 obtain ⟨_, ti, _, gV, _, _⟩ := kG ht
 have lh := r.arg (P := P) 0 x hx r7
 obtain ⟨b, cap, cur, e, xs, hb, he, hh, tu, sM, sY, se, hz, nb, uF, uG⟩ := r.arr ho lh
 have hy := ju tg (r.arg (P := P) T y rfl r8)
 have ny := r.rowOf true oX hy (fun _ => uf)
 simp only [if_true] at ny
 have sC := ny.length
 have e2 : (a.eval y).cells.toList.length = (a.eval y).cells.size := Array.length_toList
 have e3 : cur.toList.length = cur.size := Array.length_toList
 have ur : rows[i]? = some (rows.getD i []) := by simp [List.getD_eq_getElem?_getD, List.getElem?_eq_getElem hi]
 have hmul : i * size + size <= rows.length * size := by rw [<- Nat.succ_mul]; exact Nat.mul_le_mul_right _ hi
 have lj : rows.length * size <= cap * size := Nat.mul_le_mul_right _ tu
 have uT := run_store (P := P) (w := w) gV (o := i * size + c) (val := a.eval y) hh (by omega) (by omega) (fun u hu => by obtain ⟨x', _, pI⟩ := hy.mem hu; exact YD.Xg pI)
 have uX : σ.ob t j ≠ .none := by rw [ho]; simp
 have tU : blk (h t j).v = some b := by rw [hb]; rfl
 have hB := r.AO uX tU
 have tY := r.ub t j b uX tU
 unfold Oper.wp
 simp only [execOp, uA, he, Sem.run_bind, uT, Result.andThen_ok, Sem.run_pure, Oper.upon_skip, hd]
 refine hK _ _ ⟨X, h, ?_⟩ (Y9.setRow hB.1 _)
 refine r.EB uX (by simp [World.setRow]) (fun k hk => setRow_other w b k _ (fun e => hk (e ▸ tY))) _ (by rw [ho]; simp [Ob.BL]) ?_
 have tz := setRow_heap w b cur (place cur.toList (i * size + c) (a.eval y).cells.toList).toArray e (0, 0) hh
 have hT : ∀ b' k v, Tof T0 X b' k -> w.cell? ⟨b', k, none⟩ = some v -> (w.setRow b (place cur.toList (i * size + c) (a.eval y).cells.toList).toArray).cell? ⟨b', k, none⟩ = some v /\ Tof T0 X b' k := by
  intro b' k v uS uI
  refine ⟨?_, uS⟩
  have uD : b' ≠ b := by
   rintro rfl
   rcases uS with uS | uS
   ·exact hB.1 (r.hT _ _ uS)
   ·exact hB.2.1 uS
  rw [World.cell?_of_block (setRow_other w b b' _ uD)]; exact uI
 have oo : xs.length = rows.length * size := by rw [nb, YA rows size hz]
 have oY : (rows.getD i []).length = size := hz _ (List.mem_of_getElem? ur)
 have rh : (w.setRow b (place cur.toList (i * size + c) (a.eval y).cells.toList).toArray).ownsRow 0 e size (h t j).v (rows.set i (place (rows.getD i []) c ds)).length (place xs (i * size + c) (a.eval y).cells.toList) := by
  refine ⟨?_, .inr ⟨b, cap, _, by simpa using hb, Nat.zero_le _, tz, by simpa using tu, sM, ?_, ?_⟩⟩
  ·rw [Qc _ _ _ (by omega), oo]; simp
  ·simp only [List.size_toArray]
   rw [Qc _ _ _ (by omega), e3, sY]
  ·simp only [List.length_set]
   rw [NM _ _ _ _ (by omega) (by omega), se]
 have sn : ∀ r ∈ rows.set i (place (rows.getD i []) c ds), r.length = size := by
  intro r' th
  rcases List.mem_or_eq_of_mem_set th with th | th
  ·exact hz r' th
  ·rw [th, Qc _ _ _ (by omega), oY]
 cases q with
 | false =>
  refine ⟨e, _, rh, sn, ?_⟩
  rw [qP size c ds (by omega) rows i _ ur hz]
  exact ((uF rfl).imp fun _ _ => Rd.mono hT).place _ (ny.imp fun _ _ => Rd.mono hT)
 | true =>
  obtain ⟨⟨_, Sk, h1, h2, h3⟩, hn⟩ := uG rfl
  obtain ⟨fx, bD⟩ := hq rfl
  have uI : ∀ k u, (place xs (i * size + c) (a.eval y).cells.toList)[k]? = some u -> (i * size + c <= k /\ k < i * size + c + ds.length /\ (a.eval y).cells.toList[k - (i * size + c)]? = some u) \/ (¬ (i * size + c <= k /\ k < i * size + c + ds.length) /\ xs[k]? = some u) := by
   intro k u hu
   exact WW xs _ _ (by omega) k u hu |>.imp (fun hh => ⟨hh.1, by omega, hh.2.2⟩) (fun hh => ⟨by rw [<- sC]; exact hh.1, hh.2⟩)
  have pn : ∀ k d, (rows.set i (place (rows.getD i []) c ds)).flatten[k]? = some d -> (i * size + c <= k /\ k < i * size + c + ds.length /\ ds[k - (i * size + c)]? = some d) \/ (¬ (i * size + c <= k /\ k < i * size + c + ds.length) /\ rows.flatten[k]? = some d) := by
   intro k d rH
   rw [qP size c ds (by omega) rows i _ ur hz] at rH
   exact WW _ _ _ (by rw [YA rows size hz]; omega) k d rH
  refine ⟨e, _, rh, sn, ⟨?_, Sk, fun k u d hu rH => ?_, h2, h3⟩, fun k u d hu rH tJ => ?_⟩
  ·rw [Qc _ _ _ (by omega), nb, YA rows size hz, YA _ size sn]; simp
  ·rcases uI k u hu with ⟨p1, p2, p3⟩ | ⟨p1, p3⟩
   ·rcases pn k d rH with ⟨_, _, p4⟩ | ⟨p4, _⟩
    ·obtain ⟨d', uM, th⟩ := ny.get _ _ p3
     rw [p4] at uM; cases uM
     have hs := fx d (List.mem_of_getElem? p4)
     cases th with
     | int k n => exact .int _ _ _
     | bool b => exact .bool _ _
     | str s => exact .str _ _
     | unk v h => exact .unk _ h _
     | nil => simp [D.scalar] at hs
     | sl => simp [D.scalar] at hs
    ·exact absurd ⟨p1, p2⟩ p4
   ·rcases pn k d rH with ⟨p4, p5, _⟩ | ⟨_, p4⟩
    ·exact absurd ⟨p4, p5⟩ p1
    ·refine (h1 k u d p3 p4).SF (fun b' uS => setRow_other w b b' _ ?_)
     rintro rfl
     exact (h2 k b' uS).2 tU
  ·rcases pn k d rH with ⟨p4, p5, p6⟩ | ⟨p4, p6⟩
   ·have := fx d (List.mem_of_getElem? p6)
    rw [tJ] at this; cases this
   ·rcases uI k u hu with ⟨p1, p2, _⟩ | ⟨_, p3⟩
    ·exact absurd ⟨p1, p2⟩ p4
    ·exact hn k u d p3 p6 tJ
end
end Go.Vm
namespace Go.Vm
open Go.RowKit
section
variable {P : Program} {T0 : CS} {B : Nat -> Prop} {σ : St} {a : Act} {w w' : World} {X X' : Nat -> Prop} {h : Nat -> Nat -> Hd}
theorem Rn (t ty e e0 : TypeId) (i : TypeInfo) (ht : P.underlying t = some (.slice e)) (hi : P.info? e = some i)
  (g po mS : Nat) (cur : Array Value) (hg : w.heap[g]? = some (.cells cur e0 (0, 0)))
  (a : Addr) (m c : Nat) (news : List Value) (hl : news.length = m * i.size) (tS : ∀ j u, news[j]? = some u -> w.cell? (a.add j) = some u) (h1 : ∀ u ∈ news, u.oneCell' = true)
  (pM : po + m <= mS) (mT : po * i.size + news.length <= cur.size) :
  (Builtin.append_ #[t, t] ty #[.slice (some ⟨g, 0, none⟩) po mS, .slice (some a) m c]).run P w =
   .ok (.slice (some ⟨g, 0, none⟩) (po + m) mS) (w.setRow g (cur.toList.take (po * i.size) ++ news ++ cur.toList.drop (po * i.size + news.length)).toArray) := by
 have hf := run_firstCells_some (P := P) w i.size m a m c news hl tS
 have uf := run_storeCells_at P g (po * i.size) e0 news 0 cur w hg (by simpa using mT) h1
 simp only [Nat.add_zero] at uf
 simp [Builtin.append_, run_underlying ht, sizeOf, typeInfo, hi, Builtin.lenOf, pM, hf, Addr.add_lit, uf]
theorem xZ (t ty e e0 : TypeId) (i : TypeInfo) (z : Value) (ht : P.underlying t = some (.slice e)) (hi : P.info? e = some i) (hz : i.zero = some z)
  (rn : z.cells.size = i.size) (tG : 0 < i.size) (v : Value) (n : Nat) (xs : List Value) (uG : w.ownsRow 0 e0 i.size v n xs)
  (a : Addr) (m c : Nat) (news : List Value) (hl : news.length = m * i.size) (tS : ∀ j u, news[j]? = some u -> w.cell? (a.add j) = some u) (h1 : ∀ u ∈ news, u.oneCell' = true)
  (gT : n + m <= maxLen) (tB : (n + m) * i.bytes <= 140737488355328) :
  ∃ v' w' e1, (Builtin.append_ #[t, t] ty #[v, .slice (some a) m c]).run P w = .ok v' w' /\ w'.ownsRow 0 e1 i.size v' (n + m) (xs ++ news) /\ w.grownBy w' (blk v) /\
   (∀ b, blk v' = some b -> (w.heap.size <= b /\ b < w'.heap.size) \/ blk v = some b) := by
 have hlen : (xs ++ news).length = (n + m) * i.size := by rw [List.length_append, uG.1, hl, Nat.add_mul]
 rcases uG.2 with ⟨rfl, rfl⟩ | ⟨g, cap, cur, rfl, _, hg, tk, nR, sY, lb⟩
 ·have hx : xs = [] := List.eq_nil_of_length_eq_zero (by simpa using uG.1)
  subst hx
  obtain ⟨v', w', hr, ho, tM, _⟩ := run_append_own (P := P) w w.heap.size t ty e i z i.size i.bytes ht hi hz rfl rfl rn tG (.slice none 0 0) 0 [] (World.ownsRow_nil w _ e i.size) a m c news hl tS h1 gT tB (Nat.le_refl _)
  refine ⟨v', w', e, hr, ?_, tM, fun b hb => .inl ?_⟩
  ·refine ⟨ho.1, ho.2.imp id ?_⟩
   rintro ⟨g, cap, cur, hv, _, rest⟩
   exact ⟨g, cap, cur, hv, Nat.zero_le _, rest⟩
  ·have uS : v'.ownBlock = some b := by
    cases v' with
    | slice o l c => cases o with
     | none => simp [blk] at hb
     | some ad => simpa [blk, Value.ownBlock] using hb
    | pointer o => rcases ho.2 with ⟨hv, _⟩ | ⟨g, cap, cur, hv, _⟩ <;> cases hv
    | _ => simp [blk] at hb
   exact ho.lt b uS
 ·by_cases pM : n + m <= cap
  ·have mT : n * i.size + news.length <= cur.size := by rw [hl, sY, <- Nat.add_mul]; exact Nat.mul_le_mul_right _ pM
   have hr := Rn (P := P) (w := w) t ty e e0 i ht hi g n cap cur hg a m c news hl tS h1 pM mT
   refine ⟨_, _, e0, hr, ⟨hlen, .inr ⟨g, cap, _, rfl, Nat.zero_le _, setRow_heap w g cur _ e0 _ hg, pM, nR, ?_, ?_⟩⟩, ⟨rfl, rfl, rfl, by simp [World.setRow], fun k _ hk => setRow_other w g k _ (fun e => hk (by simp [blk, e]))⟩, fun b hb => .inr (by simpa [blk] using hb)⟩
   ·simp only [List.size_toArray, List.length_append, List.length_take, List.length_drop, Array.length_toList]
    omega
   ·rw [lb, <- hlen]
    exact List.take_left
  ·have holds : ∀ j u, xs[j]? = some u -> w.cell? ((⟨g, 0, none⟩ : Addr).add j) = some u := uG.cells (g := g) rfl
   have gf : n + m <= 9223372036854775807 := by simp only [maxLen] at gT; omega
   have hr := run_append_grow (P := P) w t ty e i z ht hi hz ⟨g, 0, none⟩ n cap xs uG.1 holds a m c news hl tS (by omega) (by omega) (growslice_fits (by omega) tB)
   have pA := grownCap_ge w (n + m) cap e
   have gh : grownCap w (n + m) cap e <= maxLen := grownCap_le_maxLen w (n + m) cap e gT
   refine ⟨_, _, e, hr, ⟨hlen, .inr ⟨w.heap.size, _, _, rfl, Nat.zero_le _, heap_alloc_new w.drew _, pA, gh, ?_, ?_⟩⟩, ⟨rfl, rfl, rfl, by simp, fun k hk _ => (World.grownBy_alloc w.drew _ none).block k hk (by simp)⟩, fun b hb => .inl ?_⟩
   ·simp only [Array.size_append, List.size_toArray, size_zeroCells, rn, uG.1, hl, <- Nat.add_mul]
    congr 1
    omega
   ·simp only [Array.toList_append, List.append_assoc]
    rw [<- List.append_assoc, <- hlen]
    exact List.take_left
   ·simp [blk] at hb; subst hb; simp
theorem K5 (t ty e : TypeId) (i : TypeInfo) (ht : P.underlying t = some (.slice e)) (hi : P.info? e = some i) (base : Option Addr) (n cap : Nat) (tk : n <= cap) (hb : base = none -> cap = 0) :
  (Builtin.append_ #[t, t] ty #[.slice base n cap, .slice none 0 0]).run P w = .ok (.slice base n cap) w := by
 cases base with
 | none =>
  have := hb rfl; subst this
  have : n = 0 := by omega
  subst this
  simp [Builtin.append_, run_underlying ht, sizeOf, typeInfo, hi, Builtin.lenOf, Builtin.firstCells]
 | some ad => simp [Builtin.append_, run_underlying ht, sizeOf, typeInfo, hi, Builtin.lenOf, Builtin.firstCells, tk, storeCells]
theorem Rel.less (r : Rel T0 B σ a w X h) {σ' : St} (hl : σ'.length = σ.length) (tO : ∀ t, σ'.get t = σ.get t) (hk : ∀ t j, σ'.ob t j ≠ .none -> σ'.ob t j = σ.ob t j) : Rel T0 B σ' a w X h := by
 have back : ∀ t j o, σ'.ob t j = o -> o ≠ .none -> σ.ob t j = o := by
  intro t j o ho uD
  rw [<- hk t j (by rw [ho]; exact uD)]; exact ho
 have at_ : ∀ {x : At} {v : Value}, (fun _ : At => false) x = false -> YD (Tof T0 X) h σ.ob w x v -> YD (Tof T0 X) h σ'.ob w x v := by
  intro x v _ rx
  cases x with
  | any => exact rx
  | d x => exact rx
  | nil s => exact rx
  | sref u i lo len => exact ⟨rx.1, fun q size rows ho => rx.2.1 q size rows (back u i _ ho (by simp)), fun size rows ho => rx.2.2 size rows (back u i _ ho (by simp))⟩
  | ptr u i k c => exact ⟨rx.1, fun q size rows ho => rx.2 q size rows (back u i _ ho (by simp))⟩
  | bptr u c => exact ⟨rx.1, fun cells ho => rx.2 cells (back u 0 _ ho (by simp))⟩
  | fn f u => exact ⟨rx.1, fun cells ho => rx.2 cells (back u 0 _ ho (by simp))⟩
  | tref u i k c o => exact ⟨rx.1, fun size rows ho => rx.2 size rows (back u i _ ho (by simp))⟩
  | rptr rr c => exact rx
 have tR : ∀ u i, σ'.ob u i ≠ .none -> σ.ob u i ≠ .none := fun u i hn => by rw [<- hk u i hn]; exact hn
 refine ⟨by rw [r.size, hl], r.defers, r.hB, r.hX, r.hT, fun u hu => ?_, fun u i => ?_, fun u i b hn => r.ub u i b (tR u i hn), fun u i b hn => r.own u i b (tR u i hn), fun u i u' i' b hn u7 => r.inj u i u' i' b (tR u i hn) (tR u' i' u7)⟩
 ·rw [tO u]; exact QI.map at_ (y2 _) (r.slot u (by omega))
 ·by_cases hn : σ'.ob u i = .none
  ·rw [hn]; trivial
  ·rw [hk u i hn]
   exact JA.map at_ (fun b k v hb hc => ⟨hc, hb⟩) (fun ho b => r.ub u i b ho) (fun _ _ _ => rfl) (jV _) (r.obj u i)
theorem St.Ti (σ : St) (t j u i : Nat) : (σ.Zs t j .none).ob u i = if u = t /\ i = j then .none else σ.ob u i := by
 by_cases uX : σ.ob t j = .none
 ·have key : ∀ (σ : St) (t u : Nat), σ.ob t j = .none -> (σ.Zs t j .none).ob u i = σ.ob u i := by
   intro σ
   induction σ with
   | nil => intro t u _; simp [St.Zs]
   | cons e σ ih =>
    intro t u ho
    cases t with
    | zero => cases u with
     | zero =>
      simp only [St.Zs, St.ob, List.getElem?_cons_zero, GS] at ho ⊢
      split
      ·rename_i hh; rw [hh.1, ho]
      ·rfl
     | succ u => simp [St.Zs, St.ob]
    | succ t => cases u with
     | zero => simp [St.Zs, St.ob]
     | succ u =>
      have := ih t u (by simpa [St.ob] using ho)
      simp only [St.ob, St.Zs] at this ⊢; simpa using this
  rw [key σ t u uX]
  split
  ·rename_i hh; rw [hh.1, hh.2]; exact uX
  ·rfl
 ·exact St.Xj σ t j _ u i uX
theorem Rel.drop (r : Rel T0 B σ a w X h) (t j : Nat) : Rel T0 B (σ.Zs t j .none) a w X h := by
 refine r.less (St.Y3 _ _ _ _) (fun u => St.Xl _ _ _ _ u) (fun u i hn => ?_)
 rw [St.Ti] at hn ⊢
 split
 ·rename_i hh; rw [if_pos hh] at hn; exact absurd rfl hn
 ·rfl
def St.Zx : St -> List (Nat × Nat) -> St
 | σ, [] => σ
 | σ, p :: l => St.Zx (σ.Zs p.1 p.2 .none) l
theorem St.Kg : ∀ (l : List (Nat × Nat)) (σ : St), (σ.Zx l).length = σ.length
 | [], σ => rfl
 | p :: l, σ => by rw [St.Zx, St.Kg l, St.Y3]
theorem St.xA : ∀ (l : List (Nat × Nat)) (σ : St) (t : Nat), (σ.Zx l).get t = σ.get t
 | [], σ, t => rfl
 | p :: l, σ, t => by rw [St.Zx, St.xA l, St.Xl]
theorem St.KV : ∀ (l : List (Nat × Nat)) (σ : St) (t j : Nat), (σ.Zx l).ob t j = if (t, j) ∈ l then .none else σ.ob t j
 | [], σ, t, j => by simp [St.Zx]
 | p :: l, σ, t, j => by
  rw [St.Zx, St.KV l, St.Ti]
  by_cases h1 : (t, j) ∈ l
  ·simp [h1]
  ·by_cases h2 : t = p.1 /\ j = p.2
   ·have : (t, j) = p := by rw [h2.1, h2.2]
    rw [if_neg h1, if_pos h2, if_pos (by rw [this]; simp)]
   ·have : ¬ (t, j) = p := fun e => h2 (by rw [<- e]; exact ⟨rfl, rfl⟩)
    simp [h1, h2, this]
theorem Rel.Zx (r : Rel T0 B σ a w X h) (l : List (Nat × Nat)) : Rel T0 B (σ.Zx l) a w X h := by
 refine r.less (St.Kg l σ) (St.xA l σ) (fun u i hn => ?_)
 rw [St.KV] at hn ⊢
 split
 ·rename_i hh; rw [if_pos hh] at hn; exact absurd rfl hn
 ·rfl
end
end Go.Vm
namespace Go.Vm
open Go.RowKit
section
variable {P : Program} {T0 : CS} {B : Nat -> Prop} {σ : St} {a : Act} {w w' : World} {X X' : Nat -> Prop} {h : Nat -> Nat -> Hd}
theorem K9 {T : TypeId} (hz : XX P T = true) : ∃ i z row, P.info? T = some i /\ i.zero = some z /\ qp P 12 T = some row /\ i.size = row.length /\ z.cells.size = i.size /\ i.size = P.cellsOf T /\ (∀ T' h ob w, Zy (YD T' h ob w) row z.cells.toList) := by
 have sV : ∃ row, qp P 12 T = some row := by
  unfold XX at hz
  split at hz
  ·rename_i row i hr hi; exact ⟨row, hr⟩
  ·cases hz
 obtain ⟨row, hr⟩ := sV
 obtain ⟨i, z, hi, rK, tG, uF⟩ := N5 hz hr
 refine ⟨i, z, row, hi, rK, hr, tG, ?_, by simp [Program.cellsOf, hi], uF⟩
 have := (uF (fun _ _ => True) (fun _ _ => Hd.of undef) (fun _ _ => .none) default).length
 have e1 : z.cells.toList.length = z.cells.size := Array.length_toList
 omega
def qd (σ : St) (x : V) (size : Nat) (news : List (List D)) : Prop :=
 match x with
 | .one (.d (.sl s rows)) => s = size /\ news = rows
 | .one (.nil _) => news = []
 | .one (.sref t j lo len) => ∃ rows, σ.ob t j = .arr false size rows /\ lo + len <= rows.length /\ news = cut rows lo len
 | _ => False
def Wr (σ : St) (x : V) (size : Nat) (uC : List (List D)) (σ1 : St) : Prop :=
 match x with
 | .one (.nil _) => uC = [] /\ σ1 = σ
 | .one (.sref t j lo len) => ∃ rows, σ.ob t j = .arr false size rows /\ lo = 0 /\ len <= rows.length /\ uC = rows.take len /\ σ1 = σ.Zs t j .none
 | _ => False
theorem Lh (v : Value) (n : Nat) : blk (Lt v n) = blk v := by
 cases v with
 | slice o _ _ => cases o <;> rfl
 | _ => rfl
theorem zz (rows : List (List D)) (size : Nat) (hz : ∀ r ∈ rows, r.length = size) (len : Nat) (hle : len <= rows.length) : (rows.take len).flatten = rows.flatten.take (len * size) := by
 induction rows generalizing len with
 | nil => simp
 | cons r rows ih =>
  cases len with
  | zero => simp
  | succ len =>
   have h1 := hz r (by simp)
   have h2 := ih (fun q hq => hz q (by simp [hq])) len (by simpa using hle)
   have h3 : (len + 1) * size = r.length + len * size := by rw [Nat.add_mul, h1]; omega
   rw [List.take_succ_cons, List.flatten_cons, List.flatten_cons, h2, h3, List.take_length_add_append]
theorem SN {e : TypeId} {size : Nat} {v : Value} {n len : Nat} {xs : List Value} (ho : w.ownsRow 0 e size v n xs) (hle : len <= n) : w.ownsRow 0 e size (Lt v len) len (xs.take (len * size)) := by
 have hm : len * size <= n * size := Nat.mul_le_mul_right _ hle
 refine ⟨by rw [List.length_take, ho.1]; omega, ?_⟩
 rcases ho.2 with ⟨rfl, rfl⟩ | ⟨g, cap, cur, rfl, hx, hg, tk, nR, sY, se⟩
 ·have : len = 0 := by omega
  subst this
  exact .inl ⟨rfl, rfl⟩
 ·refine .inr ⟨g, cap, cur, rfl, hx, hg, by omega, nR, sY, ?_⟩
  rw [<- se, List.take_take]
  congr 1
  omega
theorem Lc (r : Rel T0 B σ a w X h) {x : V} {v : Value} {size : Nat} {news : List (List D)} (hs : qd σ x size news) (hv : QI (Tof T0 X) h σ.ob w x v) :
  (∀ n ∈ news, n.length = size) /\ ((v = .slice none 0 0 /\ news = []) \/ ∃ ad c xs, v = .slice (some ad) news.length c /\ (∀ j u, xs[j]? = some u -> w.cell? (ad.add j) = some u) /\ Zy (Rd (Tof T0 X) w) xs news.flatten) := by
 unfold qd at hs
 split at hs
 ·rename_i s rows
  obtain ⟨rfl, rfl⟩ := hs
  refine ⟨LM (show Rd _ _ _ _ from hv), ?_⟩
  cases (show Rd _ _ _ _ from hv) with
  | nil => exact .inl ⟨rfl, rfl⟩
  | sl ad len cap s rows g hl hc hm hz p8 hg hr =>
   refine .inr ⟨ad, cap, (List.range news.flatten.length).map g, by rw [hl], fun j u hu => ?_, ?_⟩
   ·rw [List.getElem?_map] at hu
    rcases Nat.lt_or_ge j news.flatten.length with hj | hj
    ·rw [List.getElem?_range hj] at hu
     cases hu
     have uD : news.flatten ≠ [] := by intro he; rw [he] at hj; simp at hj
     have := (hg j _ (List.getElem?_eq_getElem hj)).1
     obtain ⟨b, off, sp⟩ := ad
     have := p8 uD
     simp at this; subst this
     rw [ze]; assumption
    ·rw [List.getElem?_eq_none (by simpa using hj)] at hu; cases hu
   ·refine Zy.zo (by simp) (fun k u d hu hd => ?_)
    rw [List.getElem?_map] at hu
    have hk := (List.getElem?_eq_some_iff.1 hd).1
    rw [List.getElem?_range hk] at hu
    cases hu
    exact hr k d hd
 ·subst hs
  exact ⟨(by intro n hn; cases hn), .inl ⟨hv, rfl⟩⟩
 ·rename_i t j lo len
  obtain ⟨rows, ho, hle, rfl⟩ := hs
  have h0 := r.obj t j
  rw [ho] at h0
  obtain ⟨e, xs, ⟨hl, uG⟩, hz, uF⟩ := h0
  refine ⟨fun x hx => hz x (List.mem_of_mem_drop (List.mem_of_mem_take hx)), ?_⟩
  have sf : YD (Tof T0 X) h σ.ob w (.sref t j lo len) v := hv
  obtain ⟨_, _, _, base, cap, rfl, tu, _, oq, hb⟩ := sf.2.1 _ size rows ho
  have uk : (cut rows lo len).length = len := Yp _ _ _ hle
  by_cases tH : 0 < len
  ·obtain ⟨b, rN, hh, rfl⟩ := hb tH
   rcases uG with ⟨hn, _⟩ | ⟨g, ou, cur, sf, _, mP, tk, sM, sY, se⟩
   ·rw [hh] at hn; cases hn
   ·rw [hh] at sf; cases sf
    refine .inr ⟨_, cap, cut xs (lo * size) (len * size), by rw [uk], fun j u hu => ?_, ?_⟩
    ·have h1 := J5 _ _ _ _ _ hu
     rw [ze]
     refine Jt mP _ _ ?_
     rw [<- se, List.getElem?_take] at h1
     split at h1
     ·exact h1
     ·cases h1
    ·have oo : xs.length = rows.length * size := by rw [uF.length, YA rows size hz]
     have hmul : lo * size + len * size <= rows.length * size := by rw [<- Nat.add_mul]; exact Nat.mul_le_mul_right _ hle
     refine Zy.zo ?_ (fun k u d hu hd => ?_)
     ·rw [Yp _ _ _ (by omega), YA (cut rows lo len) size (fun x hx => hz x (List.mem_of_mem_drop (List.mem_of_mem_take hx))), uk]
     ·have h1 := J5 _ _ _ _ _ hu
      have h2 := y9 rows size lo len hz k d hd
      obtain ⟨d', uM, hr⟩ := uF.get _ _ h1
      rw [h2] at uM; cases uM
      exact hr
  ·have : len = 0 := by omega
   subst this
   have rQ : cut rows lo 0 = [] := by simp [cut]
   rw [rQ]
   cases base with
   | none => have := oq rfl; subst this; exact .inl ⟨rfl, rfl⟩
   | some ad => exact .inr ⟨ad, cap, [], rfl, by simp, .nil⟩
 ·exact hs.elim
theorem It (r : Rel T0 B σ a w X h) {o : Oper} {t : TypeId} {x y : Operand} {d : Nat} {uC news : List (List D)} {σ1 : St} (uA : o.op = .call ⟨.builtin .append, #[x, y], #[t, t]⟩) (hd : o.dst = some d)
  (r7 : gOf (look P σ t x) = true) (r8 : gOf (look P σ t y) = true) (ht : Yq P t = true) (hz : XX P (ZP P t) = true) (tH : 0 < P.cellsOf (ZP P t))
  (tc : Wr σ (unc (look P σ t x)) (P.cellsOf (ZP P t)) uC σ1) (rR : qd σ (unc (look P σ t y)) (P.cellsOf (ZP P t)) news) (tE : σ1.fresh d = true)
  (tB : (uC.length + news.length) * P.bytesOf (ZP P t) <= 140737488355328) (ow : uC.length + news.length <= 9223372036854775807)
  {K : Act -> World -> Prop} {Q : Exit -> Act -> World -> Prop} (hK : ∀ a' w', JZ T0 B (σ1.new d (.one (.sref d 0 0 (uC.length + news.length))) [.arr false (P.cellsOf (ZP P t)) (uC ++ news)]) a' w' -> Y9 B w w' -> K a' w') : o.wp P a w K Q := by
 obtain ⟨ti, hu, hi, si⟩ := XS ht
 obtain ⟨i, z, row, tZ, rK, sV, sj, rn, tw, sN⟩ := K9 hz
 rw [hi] at tZ; cases tZ
 have ox : P.bytesOf (ZP P t) = ti.bytes := by simp [Program.bytesOf, hi]
 rw [ox] at tB
 rw [<- tw] at tc rR tH hK
 have pQ := r.arg (P := P) t x rfl r7
 have nW := r.arg (P := P) t y rfl r8
 obtain ⟨mV, tJ⟩ := Lc r rR nW
 have tq : ∃ e0 xs, w.ownsRow 0 e0 ti.size (a.eval x) uC.length xs /\ (∀ q ∈ uC, q.length = ti.size) /\ Zy (Rd (Tof T0 X) w) xs uC.flatten /\ Rel T0 B σ1 a w X h /\
   (∀ b, blk (a.eval x) = some b -> ¬ B b /\ ¬ X b /\ b < w.heap.size /\ ∀ u j, σ1.ob u j ≠ .none -> ¬ (h u j).u b) := by
  unfold Wr at tc
  split at tc
  ·rename_i s heq
   obtain ⟨rfl, rfl⟩ := tc
   rw [heq] at pQ
   have he : a.eval x = .slice none 0 0 := pQ
   rw [he]
   exact ⟨0, [], World.ownsRow_nil w 0 0 _, (by intro q hq; cases hq), .nil, r, (fun b hb => by cases hb)⟩
  ·rename_i u j lo len heq
   obtain ⟨rows, ho, rfl, hle, rfl, rfl⟩ := tc
   rw [heq] at pQ
   have pR : YD (Tof T0 X) h σ.ob w (.sref u j 0 len) (a.eval x) := pQ
   obtain ⟨_, _, sy, _⟩ := pR.2.1 _ _ _ ho
   have he : a.eval x = Lt (h u j).v len := sy rfl
   have h0 := r.obj u j
   rw [ho] at h0
   obtain ⟨e, xs, uG, s5, uF⟩ := h0
   have uX : σ.ob u j ≠ .none := by rw [ho]; simp
   have gi : (rows.take len).length = len := by rw [List.length_take]; omega
   have tg : (rows.take len).flatten = rows.flatten.take (len * ti.size) := zz rows ti.size s5 len hle
   refine ⟨e, xs.take (len * ti.size), by rw [he, gi]; exact SN uG hle, fun q hq => s5 q (List.mem_of_mem_take hq), by rw [tg]; exact uF.take _, r.drop u j, fun b hb => ?_⟩
   rw [he, Lh] at hb
   have fy := r.ub u j b uX hb
   have rh := r.own u j b uX fy
   refine ⟨rh.1, rh.2.1, rh.2.2, fun u' j' uD uS => ?_⟩
   have gj : σ.ob u' j' ≠ .none := by
    intro hh
    rw [St.Xj σ u j _ u' j' uX] at uD
    split at uD
    ·exact uD rfl
    ·exact uD hh
   have := r.inj u j u' j' b uX gj fy uS
   obtain ⟨rfl, rfl⟩ := this
   rw [St.Xj σ u j _ u j uX] at uD
   simp at uD
  ·exact tc.elim
 obtain ⟨e0, xs, uG, lY, oz, r1, tU⟩ := tq
 have pq : ∀ q ∈ uC ++ news, q.length = ti.size := by
  intro q hq
  rcases List.mem_append.1 hq with hq | hq
  ·exact lY q hq
  ·exact mV q hq
 have key : ∀ (v' : Value) (w' : World) (e1 : TypeId) (ys : List Value), (Builtin.append_ #[t, t] o.type #[a.eval x, a.eval y]).run P w = .ok v' w' -> w'.ownsRow 0 e1 ti.size v' (uC.length + news.length) (xs ++ ys) ->
   Zy (Rd (Tof T0 X) w) ys news.flatten -> w.grownBy w' (blk (a.eval x)) -> (∀ b, blk v' = some b -> (w.heap.size <= b /\ b < w'.heap.size) \/ blk (a.eval x) = some b) -> o.wp P a w K Q := by
  intro v' w' e1 ys uT uV oy tM r9
  have uL := St.KJ tE
  have hT : ∀ b k v, Tof T0 X b k -> w.cell? ⟨b, k, none⟩ = some v -> w'.cell? ⟨b, k, none⟩ = some v /\ Tof T0 X b k := by
   intro b k v hb uI
   refine ⟨?_, hb⟩
   have uD : some b ≠ blk (a.eval x) := by
    intro e
    have h1 := tU b e.symm
    rcases hb with hb | hb
    ·exact h1.1 (r.hT b k hb)
    ·exact h1.2.1 hb
   rw [World.cell?_of_block (tM.block b (r.Tlt hb) uD)]; exact uI
  unfold Oper.wp
  have s7 : (execOp a.eval o).run P w = .ok (.value v') w' := by
   simp only [execOp, uA, resolve, invoke, builtin, Sem.run_bind, Sem.run_pure, Result.andThen_ok, List.map_toArray, List.map_cons, List.map_nil, uT]
  rw [s7, Oper.upon_value, hd]
  refine hK _ _ ⟨X, fun u j => if u = d then Hd.of v' else h u j, ?_⟩ ⟨tM.os, tM.tape, tM.output, tM.size, fun k hk => tM.block k (r.hB k hk) (fun e => (tU k e.symm).1 hk)⟩
  have tF : (σ1.new d (.one (.sref d 0 0 (uC.length + news.length))) [.arr false ti.size (uC ++ news)]).ob d 0 = .arr false ti.size (uC ++ news) := by rw [St.Qu]; simp [uL, YS]
  have te : w'.ownsRow 0 e1 ti.size v' (uC ++ news).length (xs ++ ys) := by rw [List.length_append]; exact uV
  have pP : Zy (Rd (Tof T0 X) w') (xs ++ ys) (uC ++ news).flatten := by
   rw [List.flatten_append]
   exact (oz.imp fun _ _ => Rd.mono hT).append (oy.imp fun _ _ => Rd.mono hT)
  refine r1.Ey tE (fun b => blk (a.eval x) = some b) tM.size (fun k hk uD => tM.block k hk (fun e => uD e.symm)) (fun b hb => ⟨(tU b hb).1, (tU b hb).2.1, fun u j _ uD => (tU b hb).2.2.2 u j uD⟩) (fun _ hb => hb) (fun _ hb => .inl hb) _ _ [.arr false ti.size (uC ++ news)] (fun _ => Hd.of v') ?_ (fun j => ?_) (fun j b _ hb => hb) (fun j b uD uS => ?_) (fun j j' b uD uw _ _ => ?_)
  ·refine ⟨JK uV, fun q' uh uQ hh => ?_, fun uh uQ hh => by rw [tF] at hh; cases hh⟩
   rw [tF] at hh; cases hh
   simp only [if_true, List.length_append]
   have := kS te
   rwa [List.length_append] at this
  ·cases j with
   | zero => exact ⟨e1, xs ++ ys, te, pq, pP⟩
   | succ j => simp [YS, JA]
  ·rcases r9 b uS with h1 | h1
   ·exact ⟨.inl h1.1, fun hx => by have := (r.hX b hx).2; omega, h1.2⟩
   ·have h2 := tU b h1
    exact ⟨.inr h1, h2.2.1, by have := tM.size; omega⟩
  ·have : ∀ j, YS [Ob.arr false ti.size (uC ++ news)] j ≠ .none -> j = 0 := by
    intro j hj
    cases j with
    | zero => rfl
    | succ j => simp [YS] at hj
   rw [this j uD, this j' uw]
 rcases tJ with ⟨o6, rfl⟩ | ⟨ad, c, ys, o6, uI, oy⟩
 ·have um : ∃ base cap, a.eval x = .slice base uC.length cap /\ uC.length <= cap /\ (base = none -> cap = 0) := by
   rcases uG.2 with ⟨h1, h2⟩ | ⟨g, cap, cur, h1, _, _, tk, _⟩
   ·exact ⟨none, 0, by rw [h1, h2], by omega, fun _ => rfl⟩
   ·exact ⟨_, cap, h1, tk, (fun hh => by cases hh)⟩
  obtain ⟨base, cap, hex, tk, nZ⟩ := um
  refine key (a.eval x) w e0 [] ?_ (by simpa using uG) .nil ⟨rfl, rfl, rfl, Nat.le_refl _, fun _ _ _ => rfl⟩ (fun b hb => .inr hb)
  rw [hex, o6]
  exact K5 t o.type _ ti hu hi base uC.length cap tk nZ
 ·have sC : ys.length = news.length * ti.size := by rw [oy.length, YA news ti.size mV]
  obtain ⟨v', w', e1, uT, uV, tM, r9⟩ := xZ (P := P) (w := w) t o.type _ e0 ti z hu hi rK rn (by omega) (a.eval x) uC.length xs uG ad news.length c ys sC uI
   (fun u sH => by
    obtain ⟨k, hk⟩ := List.mem_iff_getElem?.1 sH
    obtain ⟨d', _, th⟩ := oy.get k u hk
    exact Rd.Xg th) (by simp only [maxLen]; omega) tB
  refine key v' w' e1 ys ?_ uV oy tM r9
  rw [o6]; exact uT
end
end Go.Vm
namespace Go.Vm
open Go.RowKit
section
variable {P : Program} {T0 : CS} {B : Nat -> Prop} {σ : St} {a : Act} {w w' : World} {X X' : Nat -> Prop} {h : Nat -> Nat -> Hd}
def RG (P : Program) (σ : St) (T : TypeId) (size : Nat) : List (Nat × Operand) -> Nat -> List (List D) -> Prop
 | [], _, rs => rs = []
 | (i, x) :: ps, k, rs => i = k /\ gOf (look P σ T x) = true /\ (unc (look P σ T x)).flat = true /\ Jw (unc (look P σ T x)).cells = true /\
   ∃ r rest, rowOf σ (unc (look P σ T x)).cells = some r /\ r.length = size /\ RG P σ T size ps (k + 1) rest /\ rs = r :: rest
theorem PZ {α : Type} (l : List α) (o : Nat) (xs ys : List α) (hl : o + (xs ++ ys).length <= l.length) : place (place l o xs) (o + xs.length) ys = place l o (xs ++ ys) := by
 simp only [List.length_append] at hl
 unfold place
 have h1 : (l.take o ++ xs).length = o + xs.length := by simp; omega
 have h2 : (l.take o ++ xs ++ l.drop (o + xs.length)).take (o + xs.length) = l.take o ++ xs := by
  rw [List.take_append_of_le_length (by omega), List.take_of_length_le (by omega)]
 have h3 : (l.take o ++ xs ++ l.drop (o + xs.length)).drop (o + xs.length + ys.length) = l.drop (o + (xs ++ ys).length) := by
  rw [show o + xs.length + ys.length = (l.take o ++ xs).length + ys.length by omega, List.drop_length_add_append, List.drop_drop]
  congr 1; simp; omega
 rw [h2, h3]; simp
theorem RQ (r : Rel T0 B σ a w X h) (T : TypeId) (size : Nat) : ∀ (ps : List (Nat × Operand)) (k : Nat) (rs : List (List D)) (cells : Array Value), RG P σ T size ps k rs -> (k + ps.length) * size <= cells.size ->
   ∃ uJ ys, Instr.fill (fun i => some (i * size, size)) cells (ps.map fun x => (x.1, a.eval x.2)) = some uJ /\ uJ.toList = place cells.toList (k * size) ys /\ Zy (Rd (Tof T0 X) w) ys rs.flatten /\ (∀ q ∈ rs, q.length = size) /\ rs.length = ps.length
 | [], k, rs, cells, hb, _ => by cases hb; exact ⟨cells, [], rfl, by simp [place], .nil, (by intro q hq; cases hq), rfl⟩
 | (i, x) :: ps, k, rs, cells, hb, hl => by
  obtain ⟨rfl, hg, hf, uf, r0, rest, rO, hlen, hb, rfl⟩ := hb
  have hx := ju hf (r.arg (P := P) T x rfl hg)
  have ny := r.rowOf true rO hx (fun _ => uf)
  simp only [if_true] at ny
  have ov := ny.length
  have e1 : cells.toList.length = cells.size := Array.length_toList
  have e2 : (a.eval x).cells.toList.length = (a.eval x).cells.size := Array.length_toList
  have hmul : (i + (ps.length + 1)) * size = i * size + size + ps.length * size := by rw [Nat.add_mul, Nat.add_mul]; omega
  simp only [List.length_cons] at hl
  have heq := VC (i * size) (a.eval x).cells cells (by omega)
  have sj : ((a.eval x).cells.zipIdx.foldl (fun cs x => cs.setIfInBounds (i * size + x.2) x.1) cells).size = cells.size := by
   rw [<- Array.length_toList, heq, Qc _ _ _ (by omega), e1]
  have lk : (i + 1 + ps.length) * size = i * size + size + ps.length * size := by rw [Nat.add_mul, Nat.add_mul]; omega
  obtain ⟨uJ, ys, h1, h2, h3, h4, h5⟩ := RQ r T size ps (i + 1) rest _ hb (by rw [sj]; omega)
  have sC : ys.length = ps.length * size := by rw [h3.length, YA rest size h4, h5]
  refine ⟨uJ, (a.eval x).cells.toList ++ ys, ?_, ?_, ?_, ?_, by simp [h5]⟩
  ·simp only [List.map_cons, Instr.fill]
   rw [if_neg (by simp; omega)]
   exact h1
  ·rw [h2, heq]
   rw [show (i + 1) * size = i * size + (a.eval x).cells.toList.length by rw [Nat.add_mul]; omega]
   exact PZ _ _ _ _ (by simp; omega)
  ·rw [List.flatten_cons]; exact ny.append h3
  ·intro q hq
   rcases List.mem_cons.1 hq with rfl | hq
   ·exact hlen
   ·exact h4 q hq
theorem RX (r : Rel T0 B σ a w X h) {o : Oper} {T : TypeId} {n : Nat} {parts : Array (Nat × Operand)} {d : Nat} {rows : List (List D)} (uA : o.op = .buildSlice T n parts) (hd : o.dst = some d) (tE : σ.fresh d = true)
  (ht : Yq P T = true) (hz : XX P (ZP P T) = true) (tH : 0 < P.cellsOf (ZP P T)) (hn : parts.toList.length = n) (fu : n * P.cellsOf (ZP P T) <= 16777216) (hb : RG P σ (ZP P T) (P.cellsOf (ZP P T)) parts.toList 0 rows)
  {K : Act -> World -> Prop} {Q : Exit -> Act -> World -> Prop} (hK : ∀ a' w', JZ T0 B (σ.new d (.one (.sref d 0 0 rows.length)) [.arr false (P.cellsOf (ZP P T)) rows]) a' w' -> Y9 B w w' -> K a' w') : o.wp P a w K Q := by
 obtain ⟨ti, hu, hi, si⟩ := XS ht
 obtain ⟨i, z, row, tZ, rK, sV, sj, rn, tw, sN⟩ := K9 hz
 rw [hi] at tZ; cases tZ
 have sZ : (zeroValue (ZP P T)).run P w = .ok z w := by simp [zeroValue, typeInfo, hi, rK]
 obtain ⟨zero, hzero⟩ : ∃ zero : Array Value, (n * P.cellsOf (ZP P T) = 0 -> zero = #[]) /\ (¬ n * P.cellsOf (ZP P T) = 0 -> zero = z.cells) := by
  by_cases h0 : n * P.cellsOf (ZP P T) = 0
  ·exact ⟨#[], fun _ => rfl, fun hh => absurd h0 hh⟩
  ·exact ⟨z.cells, fun hh => absurd hh h0, fun _ => rfl⟩
 obtain ⟨uJ, ys, h1, h2, h3, h4, h5⟩ := RQ r (ZP P T) (P.cellsOf (ZP P T)) parts.toList 0 rows ((Array.range (n * P.cellsOf (ZP P T))).map (zero[· % zero.size]!)) hb (by simp [hn])
 have sC : ys.length = n * P.cellsOf (ZP P T) := by rw [h3.length, YA rows _ h4, h5, hn]
 have uk : uJ.toList = ys := by
  rw [h2]
  unfold place
  simp [sC]
 have s4 : (parts.map fun (x : Nat × Operand) => (x.1, a.eval x.2)).toList = parts.toList.map fun x => (x.1, a.eval x.2) := by simp
 have uT : (execOp a.eval o).run P w = .ok (.value (.slice (some ⟨w.heap.size, 0, none⟩) n n)) (w.alloc (.cells uJ (ZP P T))) := by
  have rU : ¬ (n * P.cellsOf (ZP P T) > 2 ^ 24) := by omega
  by_cases h0 : n * P.cellsOf (ZP P T) = 0
  ·have pb := hzero.1 h0
   subst pb
   simp only [execOp, uA, Instr.buildSlice, Sem.run_bind, run_underlying hu, Result.andThen_ok, Qx hi, if_neg rU, if_pos h0, s4, h1, newRow, Sem.run_pure, run_newObj_alloc]
  ·have pb := hzero.2 h0
   subst pb
   simp only [execOp, uA, Instr.buildSlice, Sem.run_bind, run_underlying hu, Result.andThen_ok, Qx hi, if_neg rU, if_neg h0, sZ, s4, h1, newRow, Sem.run_pure, run_newObj_alloc]
 unfold Oper.wp
 rw [uT, Oper.upon_value, hd]
 have hlen : rows.length = n := by rw [h5, hn]
 have hT : ∀ b k v, Tof T0 X b k -> w.cell? ⟨b, k, none⟩ = some v -> (w.alloc (.cells uJ (ZP P T))).cell? ⟨b, k, none⟩ = some v /\ Tof T0 X b k := by
  intro b k v hb uI
  refine ⟨?_, hb⟩
  rw [World.cell?_of_block ((World.grownBy_alloc w (.cells uJ (ZP P T)) none).block b (r.Tlt hb) (by simp))]; exact uI
 have o8 : uJ.size = n * P.cellsOf (ZP P T) := by rw [<- Array.length_toList, uk, sC]
 have sM : n <= maxLen := by
  have : n <= n * P.cellsOf (ZP P T) := Nat.le_mul_of_pos_right _ tH
  simp only [maxLen]; omega
 have := r.Cf tE (World.grownBy_alloc w (.cells uJ (ZP P T)) none) (.slice (some ⟨w.heap.size, 0, none⟩) n n) (size := P.cellsOf (ZP P T)) (rows := rows)
  ⟨ZP P T, ys, ⟨by rw [sC, hlen], .inr ⟨w.heap.size, n, uJ, by rw [hlen], Nat.zero_le _, heap_alloc_new w _, by omega, sM, o8, by rw [uk, hlen, List.take_of_length_le (by omega)]⟩⟩, h4, h3.imp fun _ _ => Rd.mono hT⟩
  (fun b hb => by simp [blk] at hb; subst hb; exact ⟨Nat.le_refl _, by simp⟩)
 exact hK _ _ this.1 this.2
theorem Ij (r : Rel T0 B σ a w X h) {o : Oper} {T : TypeId} {n : Nat} {parts : Array (Nat × Operand)} {d : Nat} {rows : List (List D)} (uA : o.op = .buildSlice T n parts) (hd : o.dst = some d)
  (ht : Yq P T = true) (hz : XX P (ZP P T) = true) (tH : 0 < P.cellsOf (ZP P T)) (hn : parts.toList.length = n) (fu : n * P.cellsOf (ZP P T) <= 16777216) (hb : RG P σ (ZP P T) (P.cellsOf (ZP P T)) parts.toList 0 rows)
  {K : Act -> World -> Prop} {Q : Exit -> Act -> World -> Prop} (hK : ∀ a' w', JZ T0 B (σ.put d (.one (.d (.sl (P.cellsOf (ZP P T)) rows)))) a' w' -> Y9 B w w' -> K a' w') : o.wp P a w K Q := by
 obtain ⟨ti, hu, hi, si⟩ := XS ht
 obtain ⟨i, z, row, tZ, rK, sV, sj, rn, tw, sN⟩ := K9 hz
 rw [hi] at tZ; cases tZ
 have sZ : (zeroValue (ZP P T)).run P w = .ok z w := by simp [zeroValue, typeInfo, hi, rK]
 obtain ⟨zero, hzero⟩ : ∃ zero : Array Value, (n * P.cellsOf (ZP P T) = 0 -> zero = #[]) /\ (¬ n * P.cellsOf (ZP P T) = 0 -> zero = z.cells) := by
  by_cases h0 : n * P.cellsOf (ZP P T) = 0
  ·exact ⟨#[], fun _ => rfl, fun hh => absurd h0 hh⟩
  ·exact ⟨z.cells, fun hh => absurd hh h0, fun _ => rfl⟩
 obtain ⟨uJ, ys, h1, h2, h3, h4, h5⟩ := RQ r (ZP P T) (P.cellsOf (ZP P T)) parts.toList 0 rows ((Array.range (n * P.cellsOf (ZP P T))).map (zero[· % zero.size]!)) hb (by simp [hn])
 have sC : ys.length = n * P.cellsOf (ZP P T) := by rw [h3.length, YA rows _ h4, h5, hn]
 have uk : uJ.toList = ys := by
  rw [h2]
  unfold place
  simp [sC]
 have s4 : (parts.map fun (x : Nat × Operand) => (x.1, a.eval x.2)).toList = parts.toList.map fun x => (x.1, a.eval x.2) := by simp
 have uT : (execOp a.eval o).run P w = .ok (.value (.slice (some ⟨w.heap.size, 0, none⟩) n n)) (w.alloc (.cells uJ (ZP P T))) := by
  have rU : ¬ (n * P.cellsOf (ZP P T) > 2 ^ 24) := by omega
  by_cases h0 : n * P.cellsOf (ZP P T) = 0
  ·have pb := hzero.1 h0
   subst pb
   simp only [execOp, uA, Instr.buildSlice, Sem.run_bind, run_underlying hu, Result.andThen_ok, Qx hi, if_neg rU, if_pos h0, s4, h1, newRow, Sem.run_pure, run_newObj_alloc]
  ·have pb := hzero.2 h0
   subst pb
   simp only [execOp, uA, Instr.buildSlice, Sem.run_bind, run_underlying hu, Result.andThen_ok, Qx hi, if_neg rU, if_neg h0, sZ, s4, h1, newRow, Sem.run_pure, run_newObj_alloc]
 unfold Oper.wp
 rw [uT, Oper.upon_value, hd]
 have hlen : rows.length = n := by rw [h5, hn]
 have oZ := World.grownBy_alloc w (.cells uJ (ZP P T)) none
 have r2 := r.grow (X' := fun b => X b \/ b = w.heap.size) oZ (fun b hb => .inl hb) (fun b hb => hb.imp id (fun hh => by subst hh; exact ⟨Nat.le_refl _, by simp⟩))
 have hT : ∀ b k v, Tof T0 X b k -> w.cell? ⟨b, k, none⟩ = some v -> (w.alloc (.cells uJ (ZP P T))).cell? ⟨b, k, none⟩ = some v /\ Tof T0 (fun b => X b \/ b = w.heap.size) b k := by
  intro b k v hb uI
  refine ⟨?_, hb.imp id .inl⟩
  rw [World.cell?_of_block (oZ.block b (r.Tlt hb) (by simp))]; exact uI
 have o8 : uJ.size = n * P.cellsOf (ZP P T) := by rw [<- Array.length_toList, uk, sC]
 have sM : n <= maxLen := by
  have : n <= n * P.cellsOf (ZP P T) := Nat.le_mul_of_pos_right _ tH
  simp only [maxLen]; omega
 refine hK _ _ ⟨_, _, r2.put d _ _ ?_⟩ (Y9.WT oZ r.hB)
 exact EF (e := ZP P T) (xs := ys) ⟨by rw [sC, hlen], .inr ⟨w.heap.size, n, uJ, by rw [hlen], Nat.zero_le _, heap_alloc_new w _, by omega, sM, o8, by rw [uk, hlen, List.take_of_length_le (by omega)]⟩⟩ h4 (fun b k hb => by simp [blk] at hb; subst hb; exact .inr (.inr rfl)) (h3.imp fun _ _ => Rd.mono hT)
def zD : List At -> Option (List D)
 | [] => some []
 | .d x :: xs => (zD xs).map (x :: ·)
 | .nil s :: xs => (zD xs).map (.sl s [] :: ·)
 | _ => none
theorem IV {T : CS} {ob : Nat -> Nat -> Ob} : ∀ {xs : List At} {ds : List D} {vs : List Value}, zD xs = some ds -> Zy (YD T h ob w) xs vs -> Zy (Rd T w) vs ds
 | [], ds, vs, hz, uF => by cases uF; simp [zD] at hz; subst hz; exact .nil
 | x :: xs, ds, vs, hz, uF => by
  cases uF with
  | cons hx uF =>
   cases x with
   | d x =>
    simp only [zD, Option.map_eq_some_iff] at hz
    obtain ⟨oK, sn, rfl⟩ := hz
    exact .cons hx (IV sn uF)
   | nil s =>
    simp only [zD, Option.map_eq_some_iff] at hz
    obtain ⟨oK, sn, rfl⟩ := hz
    cases hx
    exact .cons (.nil _) (IV sn uF)
   | any => simp [zD] at hz
   | sref => simp [zD] at hz
   | ptr => simp [zD] at hz
   | bptr => simp [zD] at hz
   | fn => simp [zD] at hz
   | rptr => simp [zD] at hz
   | tref => simp [zD] at hz
theorem xx {α : Type} (z : List α) (n k : Nat) (hk : k < n * z.length) : (List.replicate n z).flatten[k]? = z[k % z.length]? := by
 induction n generalizing k with
 | zero => simp at hk
 | succ n ih =>
  rw [List.replicate_succ, List.flatten_cons]
  rcases Nat.lt_or_ge k z.length with uL | pA
  ·rw [List.getElem?_append_left uL, Nat.mod_eq_of_lt uL]
  ·rw [List.getElem?_append_right pA, ih (k - z.length) (by rw [Nat.add_mul] at hk; omega)]
   congr 1
   rw [Nat.mod_eq_sub_mod pA]
theorem OE (r : Rel T0 B σ a w X h) {o : Oper} {T : TypeId} {x : Operand} {d : Nat} {k : IntKind} {n : Nat} {z : List At} {zr : List D} (uA : o.op = .makeSlice T x x) (hd : o.dst = some d) (tE : σ.fresh d = true)
  (ht : Yq P T = true) (hz : XX P (ZP P T) = true) (sV : qp P 12 (ZP P T) = some z) (hO : zD z = some zr) (tH : 0 < P.cellsOf (ZP P T)) (hx : kN P σ x k (n : Int)) (ox : P.bytesOf (ZP P T) * n <= 281474976710656) (ow : n <= 9223372036854775807)
  {K : Act -> World -> Prop} {Q : Exit -> Act -> World -> Prop} (hK : ∀ a' w', JZ T0 B (σ.new d (.one (.sref d 0 0 n)) [.arr false (P.cellsOf (ZP P T)) (List.replicate n zr)]) a' w' -> Y9 B w w' -> K a' w') : o.wp P a w K Q := by
 obtain ⟨ti, hu, hi, si⟩ := XS ht
 obtain ⟨i, zv, row, tZ, rK, o0, sj, rn, tw, sN⟩ := K9 hz
 rw [hi] at tZ; cases tZ
 rw [sV] at o0; cases o0
 have hex := zx r hx
 have ma : (ti.bytes : Int) * (n : Int) <= 281474976710656 := by
  have : P.bytesOf (ZP P T) = ti.bytes := by simp [Program.bytesOf, hi]
  rw [this] at ox
  have h : ((ti.bytes * n : Nat) : Int) <= 281474976710656 := by omega
  rwa [Int.natCast_mul] at h
 have uT := run_make (P := P) w T (ZP P T) ti zv hu hi rK k k n n (by omega) (Int.le_refl _) ma (by omega)
 simp only [Int.toNat_natCast] at uT
 unfold Oper.wp
 simp only [execOp, uA, hex, Sem.run_bind, uT, Result.andThen_ok, Sem.run_pure, Oper.upon_value, hd]
 have nf := IV hO (sN (Tof T0 X) h σ.ob w)
 have lp := nf.length
 have e1 : zv.cells.toList.length = zv.cells.size := Array.length_toList
 have pr : zr.length = ti.size := by omega
 have hT : ∀ b k v, Tof T0 X b k -> w.cell? ⟨b, k, none⟩ = some v -> (w.alloc (.cells (madeCells zv.cells (n * ti.size)) (ZP P T))).cell? ⟨b, k, none⟩ = some v /\ Tof T0 X b k := by
  intro b k v hb uI
  refine ⟨?_, hb⟩
  rw [World.cell?_of_block ((World.grownBy_alloc w (.cells (madeCells zv.cells (n * ti.size)) (ZP P T)) none).block b (r.Tlt hb) (by simp))]; exact uI
 have s8 : (madeCells zv.cells (n * ti.size)).toList.length = n * ti.size := by rw [Array.length_toList, size_madeCells]
 have o9 : ∀ q u, (madeCells zv.cells (n * ti.size)).toList[q]? = some u -> zv.cells.toList[q % ti.size]? = some u := by
  intro q u hq
  have uL : q < n * ti.size := by have := (List.getElem?_eq_some_iff.1 hq).1; omega
  have mb : q % ti.size < zv.cells.size := by rw [rn]; exact Nat.mod_lt _ (by omega)
  have : (madeCells zv.cells (n * ti.size)).toList[q]? = some (zv.cells[q % zv.cells.size]!) := by
   simp [madeCells, uL]
  rw [this] at hq
  cases hq
  rw [rn]
  simp [mb]
 have pP : Zy (Rd (Tof T0 X) w) (madeCells zv.cells (n * ti.size)).toList (List.replicate n zr).flatten := by
  refine Zy.zo (by rw [s8, YA _ ti.size (by intro q hq; rw [List.eq_of_mem_replicate hq]; exact pr)]; simp) (fun q u dd hq rH => ?_)
  have uL : q < n * ti.size := by have := (List.getElem?_eq_some_iff.1 hq).1; omega
  rw [xx zr n q (by rw [pr]; exact uL), pr] at rH
  obtain ⟨d', uM, th⟩ := nf.get _ _ (o9 q u hq)
  rw [rH] at uM; cases uM
  exact th
 have := r.Cf tE (World.grownBy_alloc w (.cells (madeCells zv.cells (n * ti.size)) (ZP P T)) none) (.slice (some ⟨w.heap.size, 0, none⟩) n n) (size := P.cellsOf (ZP P T)) (rows := List.replicate n zr)
  ⟨ZP P T, (madeCells zv.cells (n * ti.size)).toList, ⟨by rw [s8, tw]; simp, .inr ⟨w.heap.size, n, _, by simp, Nat.zero_le _, heap_alloc_new w _, by simp, by simp only [maxLen]; omega, by rw [size_madeCells, tw], by rw [List.take_of_length_le (by rw [s8, tw]; simp)]⟩⟩,
   (by intro q hq; rw [List.eq_of_mem_replicate hq]; omega), pP.imp fun _ _ => Rd.mono hT⟩
  (fun b hb => by simp [blk] at hb; subst hb; exact ⟨Nat.le_refl _, by simp⟩)
 rw [List.length_replicate] at this
 exact hK _ _ this.1 this.2
end
end Go.Vm
namespace Go.Vm
open Go.RowKit
def J1 (l : List UInt8) : List (List D) := l.map fun b => [D.int .u8 (b.toNat : Int)]
def Sl (P : Program) (t : TypeId) : Bool := match P.underlying t with
 | some (.slice e) => (match P.underlying e with | some (.int .u8) => true | _ => false)
 | _ => false
theorem Pj {P : Program} {t : TypeId} (ht : Sl P t = true) : ∃ e, P.underlying t = some (.slice e) /\ P.underlying e = some (.int .u8) := by
 unfold Sl at ht
 split at ht
 ·rename_i e he
  split at ht
  ·rename_i h2; exact ⟨e, he, h2⟩
  ·cases ht
 ·cases ht
theorem We (l : List UInt8) : (J1 l).flatten = l.map fun b => D.int .u8 (b.toNat : Int) := by
 induction l with
 | nil => rfl
 | cons b l ih => simp only [J1, List.map_cons, List.flatten_cons] at ih ⊢; rw [ih]; rfl
section
variable {P : Program} {T0 : CS} {B : Nat -> Prop} {σ : St} {a : Act} {w w' : World} {X X' : Nat -> Prop} {h : Nat -> Nat -> Hd}
theorem U8 (r : Rel T0 B σ a w X h) {o : Oper} {S T : TypeId} {x : Operand} {l : List UInt8} (uA : o.op = .convert S T x) (hg : gOf (look P σ S x) = true) (hS : Sl P S = true) (hT : W8 P T = true)
  (rR : qd σ (unc (look P σ S x)) 1 (J1 l)) : ∃ val, (execOp a.eval o).run P w = .ok (.value val) w /\ QI (Tof T0 X) h σ.ob w (.one (.d (.str ⟨l.toArray⟩))) val := by
 obtain ⟨e, hs, he⟩ := Pj hS
 have hv := r.arg (P := P) S x rfl hg
 obtain ⟨_, tJ⟩ := Lc r rR hv
 refine ⟨.string ⟨l.toArray⟩, ?_, .str _⟩
 rcases tJ with ⟨hex, rQ⟩ | ⟨ad, c, xs, hex, uI, uF⟩
 ·have hl : l = [] := by cases l with
   | nil => rfl
   | cons b l => simp [J1] at rQ
  subst hl
  have hr : (convert S T (.slice none 0 0)).run P w = .ok (.string ⟨#[]⟩) w := by
   rw [run_convert_bytes_string w S T e none 0 0 hs he (y3 hT)]
   rfl
  simp only [execOp, uA, hex, Sem.run_bind, hr, Result.andThen_ok, Sem.run_pure, List.toArray]
 ·have hlen : (J1 l).length = l.length := by simp [J1]
  rw [hlen] at hex
  have hr := run_convert_bytes_back (P := P) w S T e ad c l hs he (y3 hT) (fun j hj => by
   rw [We] at uF
   obtain ⟨u, hu, hr⟩ := uF.get' j (D.int .u8 (l[j].toNat : Int)) (by simp [hj])
   have := W9 hr
   subst this
   exact uI j _ hu)
  simp only [execOp, uA, hex, Sem.run_bind, hr, Result.andThen_ok, Sem.run_pure]
theorem TD (r : Rel T0 B σ a w X h) {o : Oper} {S T : TypeId} {x : Operand} {d : Nat} {s : ByteArray} (uA : o.op = .convert S T x) (hd : o.dst = some d) (hg : gOf (look P σ S x) = true) (hS : W8 P S = true) (hT : Sl P T = true)
  (hx : unc (look P σ S x) = .one (.d (.str s))) (tG : s.size <= 9223372036854775807)
  {K : Act -> World -> Prop} {Q : Exit -> Act -> World -> Prop} (hK : ∀ a' w', JZ T0 B (σ.put d (.one (.d (.sl 1 (J1 s.data.toList))))) a' w' -> Y9 B w w' -> K a' w') : o.wp P a w K Q := by
 obtain ⟨e, rH, he⟩ := Pj hT
 have hex := Ua (r.arg (P := P) S x hx hg)
 have uT := run_bytes_of_string (P := P) w S T e s (y3 hS) rH he
 unfold Oper.wp
 simp only [execOp, uA, hex, Sem.run_bind, uT, Result.andThen_ok, Sem.run_pure, Oper.upon_value, hd]
 generalize tu : grownCap w s.size 0 e = cap at *
 have pA : s.size <= cap := by rw [<- tu]; exact grownCap_ge w s.size 0 e
 have sM : cap <= maxLen := by rw [<- tu]; exact grownCap_le_maxLen w s.size 0 e (by simp only [maxLen]; omega)
 generalize hw' : w.drew.alloc (.cells (bytesRow s cap) e ((bytesRow s cap).size, (bytesRow s cap).size + 1)) = w'
 have oZ : w.grownBy w' none := by
  rw [<- hw']
  exact ⟨rfl, rfl, rfl, by simp, fun k hk _ => (World.grownBy_alloc w.drew _ none).block k hk (by simp)⟩
 have pL : w'.heap[w.heap.size]? = some (.cells (bytesRow s cap) e ((bytesRow s cap).size, (bytesRow s cap).size + 1)) := by rw [<- hw']; exact heap_alloc_new w.drew _
 have lq : w.heap.size < w'.heap.size := (Array.getElem?_eq_some_iff.1 pL).1
 have r2 := r.grow (X' := fun b => X b \/ b = w.heap.size) oZ (fun b hb => .inl hb) (fun b hb => hb.imp id (fun hh => by subst hh; exact ⟨Nat.le_refl _, lq⟩))
 refine hK _ _ ⟨_, _, r2.put d _ _ ?_⟩ (Y9.WT oZ r.hB)
 have tg := We s.data.toList
 refine Rd.sl ⟨w.heap.size, 0, none⟩ s.size cap 1 _ (fun k => .int .u8 ((s.data.toList.getD k 0).toNat : Int)) (by simp [J1]) pA sM (by intro q hq; simp [J1] at hq; obtain ⟨b, _, rfl⟩ := hq; rfl) (fun _ => rfl) (fun k dd hk => ?_) (fun k dd hk => ?_)
 ·rw [tg, List.getElem?_map] at hk
  cases hb : s.data.toList[k]? with
  | none => rw [hb] at hk; cases hk
  | some b =>
   refine ⟨?_, .inr (.inr rfl)⟩
   simp only [Nat.zero_add]
   refine Jt pL _ _ ?_
   have gk : k < s.data.size := by have := (List.getElem?_eq_some_iff.1 hb).1; simpa using this
   simp only [bytesRow]
   rw [Array.toList_append, List.getElem?_append_left (by simpa using gk)]
   simp [hb]
 ·rw [tg, List.getElem?_map] at hk
  cases hb : s.data.toList[k]? with
  | none => rw [hb] at hk; cases hk
  | some b =>
   rw [hb] at hk; cases hk
   rw [List.getD_eq_getElem?_getD, hb]
   exact .int _ _
end
end Go.Vm
namespace Go.Vm
open Go.RowKit
def XL : List At -> List (Nat × Nat)
 | [] => []
 | .sref t j _ _ :: xs => (t, j) :: XL xs
 | _ :: xs => XL xs
def mvD (σ : St) : At -> Option D
 | .d (.sl _ _) => none
 | .d x => some x
 | .nil s => some (.sl s [])
 | .sref t j lo len => (match σ.ob t j with | .arr _ size rows => if lo = 0 /\ len = rows.length then some (.sl size rows) else none | _ => none)
 | _ => none
def Mp (σ : St) : At -> Prop
 | .sref t j _ _ => (match σ.ob t j with | .arr false _ rows => ∀ r ∈ rows, ∀ x ∈ r, x.scalar = true | _ => True)
 | _ => True
def Jl (σ : St) : List At -> Option (List D)
 | [] => some []
 | x :: xs => (match mvD σ x, Jl σ xs with | some d, some ds => some (d :: ds) | _, _ => none)
def QR (σ : St) : List At -> Prop
 | [] => True
 | x :: xs => Mp σ x /\ QR σ xs
def JL (σ : St) : List (List At) -> Option (List (List D))
 | [] => some []
 | xs :: rest => (match Jl σ xs, JL σ rest with | some r, some rs => some (r :: rs) | _, _ => none)
def Qv (σ : St) : List (List At) -> Prop
 | [] => True
 | x :: xs => QR σ x /\ Qv σ xs
theorem PW : ∀ (xs : List At) (i j : Nat) (t u lo len p9 rT : Nat), (XL xs).Nodup -> xs[i]? = some (.sref t u lo len) -> xs[j]? = some (.sref t u p9 rT) -> i = j := by
 intro xs
 induction xs with
 | nil => intro i j t u lo len p9 rT _ hi; simp at hi
 | cons x xs ih =>
  intro i j t u lo len p9 rT tL hi hj
  have mem : ∀ (k lo len : Nat), xs[k]? = some (At.sref t u lo len) -> (t, u) ∈ XL xs := by
   intro k lo len hk
   clear ih tL hi hj
   induction xs generalizing k with
   | nil => simp at hk
   | cons y ys na =>
    cases k with
    | zero => simp at hk; subst hk; simp [XL]
    | succ k =>
     have := na k (by simpa using hk)
     cases y <;> simp [XL, this]
  have dF : (XL xs).Nodup := by
   cases x <;> simp only [XL] at tL <;> first | exact tL | exact (List.nodup_cons.1 tL).2
  cases i with
  | zero =>
   simp at hi; subst hi
   cases j with
   | zero => rfl
   | succ j =>
    simp only [XL] at tL
    exact absurd (mem j p9 rT (by simpa using hj)) (List.nodup_cons.1 tL).1
  | succ i =>
   cases j with
   | zero =>
    simp at hj; subst hj
    simp only [XL] at tL
    exact absurd (mem i lo len (by simpa using hi)) (List.nodup_cons.1 tL).1
   | succ j => rw [ih i j t u lo len p9 rT dF (by simpa using hi) (by simpa using hj)]
theorem Ll : ∀ {xs : List At} {k t j lo len : Nat}, xs[k]? = some (At.sref t j lo len) -> (t, j) ∈ XL xs
 | [], k, t, j, lo, len, h => by simp at h
 | x :: xs, 0, t, j, lo, len, h => by simp at h; subst h; simp [XL]
 | x :: xs, k + 1, t, j, lo, len, h => by
  have := Ll (xs := xs) (k := k) (by simpa using h)
  cases x <;> simp [XL, this]
theorem qM {σ : St} : ∀ {xs : List At} {ds : List D}, Jl σ xs = some ds -> xs.length = ds.length /\ ∀ (k : Nat) (x : At) (d : D), xs[k]? = some x -> ds[k]? = some d -> mvD σ x = some d
 | [], ds, h => by simp [Jl] at h; subst h; exact ⟨rfl, fun k x d hx => by simp at hx⟩
 | x :: xs, ds, h => by
  simp only [Jl] at h
  split at h
  ·rename_i d oK h1 h2
   cases h
   obtain ⟨hl, ih⟩ := qM h2
   refine ⟨by simp [hl], fun k y e hy he => ?_⟩
   cases k with
   | zero => simp at hy he; subst hy; subst he; exact h1
   | succ k => exact ih k y e (by simpa using hy) (by simpa using he)
  ·cases h
theorem Sw {σ : St} : ∀ {xs ys : List At} {ds es : List D}, Jl σ xs = some ds -> Jl σ ys = some es -> Jl σ (xs ++ ys) = some (ds ++ es)
 | [], ys, ds, es, h1, h2 => by simp [Jl] at h1; subst h1; simpa using h2
 | x :: xs, ys, ds, es, h1, h2 => by
  simp only [Jl] at h1
  split at h1
  ·rename_i d oK h3 h4
   cases h1
   simp [Jl, h3, Sw h4 h2]
  ·cases h1
theorem zd {σ : St} : ∀ {tT : List (List At)} {rs : List (List D)}, JL σ tT = some rs -> Jl σ tT.flatten = some rs.flatten /\ tT.length = rs.length /\ ∀ n, (∀ x ∈ tT, x.length = n) -> ∀ r ∈ rs, r.length = n
 | [], rs, h => by simp [JL] at h; subst h; exact ⟨rfl, rfl, fun n _ r hr => by cases hr⟩
 | xs :: tT, rs, h => by
  simp only [JL] at h
  split at h
  ·rename_i r lA h1 h2
   cases h
   obtain ⟨i1, i2, i3⟩ := zd h2
   refine ⟨by rw [List.flatten_cons, List.flatten_cons]; exact Sw h1 i1, by simp [i2], fun n hn q hq => ?_⟩
   rcases List.mem_cons.1 hq with rfl | hq
   ·rw [<- (qM h1).1]; exact hn xs (by simp)
   ·exact i3 n (fun x hx => hn x (by simp [hx])) q hq
  ·cases h
theorem Vz {σ : St} : ∀ {xs : List At}, QR σ xs -> ∀ (k : Nat) (x : At), xs[k]? = some x -> Mp σ x
 | [], _, k, x, hx => by simp at hx
 | y :: xs, h, 0, x, hx => by simp at hx; subst hx; exact h.1
 | y :: xs, h, k + 1, x, hx => Vz h.2 k x (by simpa using hx)
theorem VY {σ : St} : ∀ {xs ys : List At}, QR σ xs -> QR σ ys -> QR σ (xs ++ ys)
 | [], _, _, h => h
 | _ :: _, _, h1, h2 => ⟨h1.1, VY h1.2 h2⟩
theorem zS {σ : St} : ∀ {tT : List (List At)}, Qv σ tT -> QR σ tT.flatten
 | [], _ => trivial
 | xs :: tT, h => by rw [List.flatten_cons]; exact VY h.1 (zS h.2)
section
variable {P : Program} {T0 : CS} {B : Nat -> Prop} {σ : St} {a : Act} {w w' : World} {X X' : Nat -> Prop} {h : Nat -> Nat -> Hd}
theorem Rd.own {T : CS} {v : Value} {d : D} {S : Nat -> Prop} (hs : d.scalar = true) (hr : Rd T w v d) : Own w v d S := by
 cases hr with
 | int k n => exact .int _ _ _
 | bool b => exact .bool _ _
 | str s => exact .str _ _
 | unk v h => exact .unk _ h _
 | nil => cases hs
 | sl => cases hs
theorem Rel.Ay (r : Rel T0 B σ a w X h) {t j : Nat} {q : Bool} {size : Nat} {rows : List (List D)} (ho : σ.ob t j = .arr q size rows) (hq : q = false -> ∀ r ∈ rows, ∀ x ∈ r, x.scalar = true) : Own w (h t j).v (.sl size rows) (h t j).u := by
 have h0 := r.obj t j
 have tY := r.ub t j
 rw [ho] at h0 tY
 cases q with
 | false =>
  obtain ⟨e, xs, rG, hz, uF⟩ := h0
  refine .sl _ size rows _ e xs (fun _ _ => False) rG hz (fun b hb => tY b (by simp) hb) uF.length (fun k x d hx hd => ?_) (fun k b hb => hb.elim) (fun i j b hb => hb.elim)
  obtain ⟨d', uM, hr⟩ := uF.get k x hx
  rw [hd] at uM; cases uM
  obtain ⟨r0, rO, hdr⟩ := List.mem_flatten.1 (List.mem_of_getElem? hd)
  exact Rd.own (hq rfl r0 rO d hdr) hr
 | true =>
  obtain ⟨e, xs, rG, hz, ⟨hl, Sk, h1, h2, h3⟩, hn⟩ := h0
  exact .sl _ size rows _ e xs Sk rG hz (fun b hb => tY b (by simp) hb) hl h1 (fun k b hb => h2 k b hb) h3
def Qz (σ : St) (h : Nat -> Nat -> Hd) (l : List (Nat × Nat)) (b : Nat) : Prop := ∃ p ∈ l, σ.ob p.1 p.2 ≠ .none /\ (h p.1 p.2).u b
theorem N0 (r : Rel T0 B σ a w X h) {xs : List At} {vs : List Value} {ds : List D} (uF : Zy (YD (Tof T0 X) h σ.ob w) xs vs) (sh : Jl σ xs = some ds) (uW : QR σ xs) (tL : (XL xs).Nodup) : JG w vs ds (Qz σ h (XL xs)) := by
 obtain ⟨hl, sh⟩ := qM sh
 refine ⟨by rw [<- uF.length, hl], fun k b => ∃ t j lo len, xs[k]? = some (.sref t j lo len) /\ σ.ob t j ≠ .none /\ (h t j).u b, fun k v d hv hd => ?_, ?_, ?_⟩
 ·obtain ⟨x, hx, hr⟩ := uF.get' k v hv
  have hm := sh k x d hx hd
  have ho := Vz uW k x hx
  cases x with
  | d x =>
   cases x with
   | sl s rows => simp [mvD] at hm
   | int k n => simp [mvD] at hm; subst hm; exact Rd.own rfl hr
   | bool b => simp [mvD] at hm; subst hm; exact Rd.own rfl hr
   | str s => simp [mvD] at hm; subst hm; exact Rd.own rfl hr
   | unk => simp [mvD] at hm; subst hm; exact Rd.own rfl hr
  | nil s =>
   simp [mvD] at hm; subst hm
   cases hr
   exact .sl _ s [] _ 0 [] (fun _ _ => False) (World.ownsRow_nil w 0 0 s) (by intro q hq; cases hq) (fun b hb => by cases hb) rfl (fun k x d hx => by simp at hx) (fun k b hb => hb.elim) (fun i j b hb => hb.elim)
  | sref t j lo len =>
   simp only [mvD] at hm
   split at hm
   ·rename_i q size rows uX
    split at hm
    ·rename_i hc
     obtain ⟨rfl, rfl⟩ := hc
     cases hm
     obtain ⟨_, tb, _⟩ := hr.2.1 q size rows uX
     rw [tb rfl rfl]
     refine (r.Ay uX (fun hq => ?_)).mono (fun b hb => ⟨t, j, 0, rows.length, hx, by rw [uX]; simp, hb⟩)
     subst hq
     simp only [Mp, uX] at ho; exact ho
    ·cases hm
   ·cases hm
  | any => simp [mvD] at hm
  | ptr => simp [mvD] at hm
  | bptr => simp [mvD] at hm
  | fn => simp [mvD] at hm
  | rptr => simp [mvD] at hm
  | tref => simp [mvD] at hm
 ·rintro k b ⟨t, j, lo, len, hx, uD, hu⟩
  exact ⟨(t, j), Ll hx, uD, hu⟩
 ·rintro i k b ⟨t, j, lo, len, hx, uD, hu⟩ ⟨t', j', p9, rT, pI, uw, sH⟩
  obtain ⟨rfl, rfl⟩ := r.inj t j t' j' b uD uw hu sH
  exact PW xs i k t j lo len p9 rT tL hx pI
theorem JG.append {xs ys : List Value} {ds es : List D} {S S' : Nat -> Prop} (h1 : JG w xs ds S) (h2 : JG w ys es S') (hd : ∀ b, S b -> S' b -> False) : JG w (xs ++ ys) (ds ++ es) (fun b => S b \/ S' b) := by
 obtain ⟨l1, Sk, a1, a2, a3⟩ := h1
 obtain ⟨l2, nU, b1, b2, b3⟩ := h2
 refine ⟨by simp [l1, l2], fun k => if k < xs.length then Sk k else nU (k - xs.length), fun k x d hx uM => ?_, fun k b hb => ?_, fun i j b hi hj => ?_⟩
 ·by_cases hk : k < xs.length
  ·simp only [hk, if_true]
   rw [List.getElem?_append_left hk] at hx
   rw [List.getElem?_append_left (by omega)] at uM
   exact a1 k x d hx uM
  ·simp only [hk, if_false]
   rw [List.getElem?_append_right (by omega)] at hx
   rw [List.getElem?_append_right (by omega), <- l1] at uM
   exact b1 _ x d hx uM
 ·by_cases hk : k < xs.length
  ·simp only [hk, if_true] at hb; exact .inl (a2 k b hb)
  ·simp only [hk, if_false] at hb; exact .inr (b2 _ b hb)
 ·by_cases tZ : i < xs.length
  ·simp only [tZ, if_true] at hi
   by_cases rP : j < xs.length
   ·simp only [rP, if_true] at hj; exact a3 i j b hi hj
   ·simp only [rP, if_false] at hj; exact (hd b (a2 i b hi) (b2 _ b hj)).elim
  ·simp only [tZ, if_false] at hi
   by_cases rP : j < xs.length
   ·simp only [rP, if_true] at hj; exact (hd b (a2 j b hj) (b2 _ b hi)).elim
   ·simp only [rP, if_false] at hj
    have := b3 _ _ b hi hj; omega
theorem JG.mono {xs : List Value} {ds : List D} {S S' : Nat -> Prop} (hS : ∀ b, S b -> S' b) (h1 : JG w xs ds S) : JG w xs ds S' := by
 obtain ⟨l1, Sk, a1, a2, a3⟩ := h1
 exact ⟨l1, Sk, a1, fun k b hb => hS b (a2 k b hb), a3⟩
theorem JG.nil (S : Nat -> Prop) : JG w [] [] S := ⟨rfl, fun _ _ => False, fun k x d hx => by simp at hx, fun _ _ hb => hb.elim, fun _ _ _ hb => hb.elim⟩
theorem Rel.y4 (r : Rel T0 B σ a w X h) (l : List (Nat × Nat)) (b : Nat) (hb : Qz σ h l b) : ¬ B b /\ ¬ X b /\ b < w.heap.size /\ ∀ u i, (σ.Zx l).ob u i ≠ .none -> ¬ (h u i).u b := by
 obtain ⟨p, hp, uD, hu⟩ := hb
 have ho := r.own p.1 p.2 b uD hu
 refine ⟨ho.1, ho.2.1, ho.2.2, fun u i hn sH => ?_⟩
 rw [St.KV] at hn
 split at hn
 ·exact hn rfl
 ·rename_i mU
  obtain ⟨h1, h2⟩ := r.inj p.1 p.2 u i b uD hn hu sH
  exact mU (by rw [<- h1, <- h2]; exact hp)
end
end Go.Vm
namespace Go.Vm
open Go.RowKit
section
variable {P : Program} {T0 : CS} {B : Nat -> Prop} {σ : St} {a : Act} {w w' : World} {X X' : Nat -> Prop} {h : Nat -> Nat -> Hd}
def S8 (P : Program) (σ : St) (T : TypeId) (size : Nat) : List (Nat × Operand) -> Nat -> List (List At) -> Prop
 | [], _, rs => rs = []
 | (i, x) :: ps, k, rs => i = k /\ gOf (look P σ T x) = true /\ (unc (look P σ T x)).flat = true /\ (unc (look P σ T x)).cells.length = size /\
   ∃ rest, S8 P σ T size ps (k + 1) rest /\ rs = (unc (look P σ T x)).cells :: rest
theorem H4 (r : Rel T0 B σ a w X h) (T : TypeId) (size : Nat) : ∀ (ps : List (Nat × Operand)) (k : Nat) (rs : List (List At)) (cells : Array Value), S8 P σ T size ps k rs -> (k + ps.length) * size <= cells.size ->
   ∃ uJ ys, Instr.fill (fun i => some (i * size, size)) cells (ps.map fun x => (x.1, a.eval x.2)) = some uJ /\ uJ.toList = place cells.toList (k * size) ys /\ Zy (YD (Tof T0 X) h σ.ob w) rs.flatten ys /\ (∀ q ∈ rs, q.length = size) /\ rs.length = ps.length
 | [], k, rs, cells, hb, _ => by cases hb; exact ⟨cells, [], rfl, by simp [place], .nil, (by intro q hq; cases hq), rfl⟩
 | (i, x) :: ps, k, rs, cells, hb, hl => by
  obtain ⟨rfl, hg, hf, hlen, rest, hb, rfl⟩ := hb
  have hx := ju hf (r.arg (P := P) T x rfl hg)
  have ov := hx.length
  have e1 : cells.toList.length = cells.size := Array.length_toList
  have e2 : (a.eval x).cells.toList.length = (a.eval x).cells.size := Array.length_toList
  have hmul : (i + (ps.length + 1)) * size = i * size + size + ps.length * size := by rw [Nat.add_mul, Nat.add_mul]; omega
  simp only [List.length_cons] at hl
  have heq := VC (i * size) (a.eval x).cells cells (by omega)
  have sj : ((a.eval x).cells.zipIdx.foldl (fun cs x => cs.setIfInBounds (i * size + x.2) x.1) cells).size = cells.size := by
   rw [<- Array.length_toList, heq, Qc _ _ _ (by omega), e1]
  have lk : (i + 1 + ps.length) * size = i * size + size + ps.length * size := by rw [Nat.add_mul, Nat.add_mul]; omega
  obtain ⟨uJ, ys, h1, h2, h3, h4, h5⟩ := H4 r T size ps (i + 1) rest _ hb (by rw [sj]; omega)
  have sC : ys.length = ps.length * size := by rw [<- h3.length, YA rest size h4, h5]
  refine ⟨uJ, (a.eval x).cells.toList ++ ys, ?_, ?_, ?_, ?_, by simp [h5]⟩
  ·simp only [List.map_cons, Instr.fill]
   rw [if_neg (by simp; omega)]
   exact h1
  ·rw [h2, heq]
   rw [show (i + 1) * size = i * size + (a.eval x).cells.toList.length by rw [Nat.add_mul]; omega]
   exact PZ _ _ _ _ (by simp; omega)
  ·rw [List.flatten_cons]; exact hx.append h3
  ·intro q hq
   rcases List.mem_cons.1 hq with rfl | hq
   ·exact hlen
   ·exact h4 q hq
theorem Vr (r : Rel T0 B σ a w X h) {o : Oper} {T : TypeId} {n : Nat} {parts : Array (Nat × Operand)} {d : Nat} {rows : List (List At)} (uA : o.op = .buildSlice T n parts) (hd : o.dst = some d) (tE : σ.fresh d = true)
  (ht : Yq P T = true) (hz : XX P (ZP P T) = true) (tH : 0 < P.cellsOf (ZP P T)) (hn : parts.toList.length = n) (fu : n * P.cellsOf (ZP P T) <= 16777216) (hb : S8 P σ (ZP P T) (P.cellsOf (ZP P T)) parts.toList 0 rows) (ez : YF d rows.flatten = false)
  {K : Act -> World -> Prop} {Q : Exit -> Act -> World -> Prop} (hK : ∀ a' w', JZ T0 B (σ.new d (.one (.sref d 0 0 rows.length)) [.lit (P.cellsOf (ZP P T)) rows]) a' w' -> Y9 B w w' -> K a' w') : o.wp P a w K Q := by
 obtain ⟨ti, hu, hi, si⟩ := XS ht
 obtain ⟨i, z, row, tZ, rK, sV, sj, rn, tw, sN⟩ := K9 hz
 rw [hi] at tZ; cases tZ
 have sZ : (zeroValue (ZP P T)).run P w = .ok z w := by simp [zeroValue, typeInfo, hi, rK]
 obtain ⟨zero, hzero⟩ : ∃ zero : Array Value, (n * P.cellsOf (ZP P T) = 0 -> zero = #[]) /\ (¬ n * P.cellsOf (ZP P T) = 0 -> zero = z.cells) := by
  by_cases h0 : n * P.cellsOf (ZP P T) = 0
  ·exact ⟨#[], fun _ => rfl, fun hh => absurd h0 hh⟩
  ·exact ⟨z.cells, fun hh => absurd hh h0, fun _ => rfl⟩
 obtain ⟨uJ, ys, h1, h2, h3, h4, h5⟩ := H4 r (ZP P T) (P.cellsOf (ZP P T)) parts.toList 0 rows ((Array.range (n * P.cellsOf (ZP P T))).map (zero[· % zero.size]!)) hb (by simp [hn])
 have sC : ys.length = n * P.cellsOf (ZP P T) := by rw [<- h3.length, YA rows _ h4, h5, hn]
 have uk : uJ.toList = ys := by
  rw [h2]
  unfold place
  simp [sC]
 have s4 : (parts.map fun (x : Nat × Operand) => (x.1, a.eval x.2)).toList = parts.toList.map fun x => (x.1, a.eval x.2) := by simp
 have uT : (execOp a.eval o).run P w = .ok (.value (.slice (some ⟨w.heap.size, 0, none⟩) n n)) (w.alloc (.cells uJ (ZP P T))) := by
  have rU : ¬ (n * P.cellsOf (ZP P T) > 2 ^ 24) := by omega
  by_cases h0 : n * P.cellsOf (ZP P T) = 0
  ·have pb := hzero.1 h0
   subst pb
   simp only [execOp, uA, Instr.buildSlice, Sem.run_bind, run_underlying hu, Result.andThen_ok, Qx hi, if_neg rU, if_pos h0, s4, h1, newRow, Sem.run_pure, run_newObj_alloc]
  ·have pb := hzero.2 h0
   subst pb
   simp only [execOp, uA, Instr.buildSlice, Sem.run_bind, run_underlying hu, Result.andThen_ok, Qx hi, if_neg rU, if_neg h0, sZ, s4, h1, newRow, Sem.run_pure, run_newObj_alloc]
 unfold Oper.wp
 rw [uT, Oper.upon_value, hd]
 have hlen : rows.length = n := by rw [h5, hn]
 have hg := World.grownBy_alloc w (.cells uJ (ZP P T)) none
 have uL := St.KJ tE
 have hT : ∀ b k v, Tof T0 X b k -> w.cell? ⟨b, k, none⟩ = some v -> (w.alloc (.cells uJ (ZP P T))).cell? ⟨b, k, none⟩ = some v /\ Tof T0 X b k := by
  intro b k v hb uI
  refine ⟨?_, hb⟩
  rw [World.cell?_of_block (hg.block b (r.Tlt hb) (by simp))]; exact uI
 have o8 : uJ.size = n * P.cellsOf (ZP P T) := by rw [<- Array.length_toList, uk, sC]
 have sM : n <= maxLen := by
  have : n <= n * P.cellsOf (ZP P T) := Nat.le_mul_of_pos_right _ tH
  simp only [maxLen]; omega
 have uG : (w.alloc (.cells uJ (ZP P T))).ownsRow 0 (ZP P T) (P.cellsOf (ZP P T)) (.slice (some ⟨w.heap.size, 0, none⟩) n n) rows.length ys :=
  ⟨by rw [sC, hlen], .inr ⟨w.heap.size, n, uJ, by rw [hlen], Nat.zero_le _, heap_alloc_new w _, by omega, sM, o8, by rw [uk, hlen, List.take_of_length_le (by omega)]⟩⟩
 refine hK _ _ ⟨X, fun t j => if t = d then Hd.of (.slice (some ⟨w.heap.size, 0, none⟩) n n) else h t j, ?_⟩ (Y9.WT hg r.hB)
 have tF : (σ.new d (.one (.sref d 0 0 rows.length)) [.lit (P.cellsOf (ZP P T)) rows]).ob d 0 = .lit (P.cellsOf (ZP P T)) rows := by rw [St.Qu]; simp [uL, YS]
 have hc : ∀ t j, t ≠ d -> Cpt h (fun t j => if t = d then Hd.of (.slice (some ⟨w.heap.size, 0, none⟩) n n) else h t j) σ.ob (σ.new d (.one (.sref d 0 0 rows.length)) [.lit (P.cellsOf (ZP P T)) rows]).ob t j := by
  intro t j uD
  have he : (σ.new d (.one (.sref d 0 0 rows.length)) [.lit (P.cellsOf (ZP P T)) rows]).ob t j = σ.ob t j := by rw [St.Qu, if_neg (fun hh => uD hh.1)]
  exact Cpt.same (by simp [uD]) he
 refine r.new tE hg (fun _ hb => hb) (fun _ hb => .inl hb) _ _ [.lit (P.cellsOf (ZP P T)) rows] (fun _ => Hd.of (.slice (some ⟨w.heap.size, 0, none⟩) n n)) ?_ (fun j => ?_) (fun j b _ hb => hb) (fun j b _ uS => ?_) (fun j j' b uD uw _ _ => ?_)
 ·refine ⟨JK uG, fun q' uh uQ uV => (by rw [tF] at uV; cases uV), fun uh uQ uV => ?_⟩
  rw [tF] at uV; cases uV
  simp only [if_true]
  exact kS uG
 ·cases j with
  | zero => exact ⟨ZP P T, ys, uG, h4, ja hT hc ez h3⟩
  | succ j => simp [YS, JA]
 ·simp [Hd.of, blk] at uS; subst uS
  refine ⟨Nat.le_refl _, fun pI => ?_, by simp⟩
  have := (r.hX _ pI).2; omega
 ·have : ∀ j, YS [Ob.lit (P.cellsOf (ZP P T)) rows] j ≠ .none -> j = 0 := by
   intro j hj
   cases j with
   | zero => rfl
   | succ j => simp [YS] at hj
  rw [this j uD, this j' uw]
theorem Fm {T : CS} {ob : Nat -> Nat -> Ob} : ∀ {xs : List At} {ds : List D} {vs : List Value}, zD xs = some ds -> Zy (YD T h ob w) xs vs -> (∀ x ∈ xs, ∀ s r, x ≠ .d (.sl s r)) -> ∀ (w' : World) (S : Nat -> Prop) (k : Nat) (v : Value) (d : D), vs[k]? = some v -> ds[k]? = some d -> Own w' v d S
 | [], ds, vs, hz, uF, _, w', S, k, v, d, hv, _ => by cases uF; simp at hv
 | x :: xs, ds, vs, hz, uF, pc, w', S, k, v, d, hv, hd => by
  cases uF with
  | cons hx uF =>
   cases x with
   | d x =>
    simp only [zD, Option.map_eq_some_iff] at hz
    obtain ⟨oK, sn, rfl⟩ := hz
    cases k with
    | zero =>
     simp at hv hd; subst hv; subst hd
     cases x with
     | sl s r => exact absurd rfl (pc _ (by simp) s r)
     | int k n => cases (show Rd _ _ _ _ from hx); exact .int _ _ _
     | bool b => cases (show Rd _ _ _ _ from hx); exact .bool _ _
     | str s => cases (show Rd _ _ _ _ from hx); exact .str _ _
     | unk => exact .unk _ (Rd.Xg hx) _
    | succ k => exact Fm sn uF (fun x hx => pc x (by simp [hx])) w' S k v d (by simpa using hv) (by simpa using hd)
   | nil s =>
    simp only [zD, Option.map_eq_some_iff] at hz
    obtain ⟨oK, sn, rfl⟩ := hz
    cases k with
    | zero =>
     simp at hv hd; subst hv; subst hd
     cases hx
     exact .sl _ s [] _ 0 [] (fun _ _ => False) (World.ownsRow_nil w' 0 0 s) (by intro q hq; cases hq) (fun b hb => by cases hb) rfl (fun k x d hx => by simp at hx) (fun k b hb => hb.elim) (fun i j b hb => hb.elim)
    | succ k => exact Fm sn uF (fun x hx => pc x (by simp [hx])) w' S k v d (by simpa using hv) (by simpa using hd)
   | any => simp [zD] at hz
   | sref => simp [zD] at hz
   | ptr => simp [zD] at hz
   | bptr => simp [zD] at hz
   | fn => simp [zD] at hz
   | rptr => simp [zD] at hz
   | tref => simp [zD] at hz
def Eb (σ : St) (x : V) (size : Nat) (uC : List (List D)) (l : List (Nat × Nat)) : Prop :=
 match x with
 | .one (.nil _) => uC = [] /\ l = []
 | .one (.sref t j lo len) => σ.ob t j = .arr true size uC /\ lo = 0 /\ len = uC.length /\ l = [(t, j)]
 | _ => False
def Ej (σ : St) (x : V) (size : Nat) (news : List (List D)) (l : List (Nat × Nat)) : Prop :=
 match x with
 | .one (.sref t j lo len) => ∃ rows, σ.ob t j = .lit size rows /\ lo = 0 /\ len = rows.length /\ JL σ rows = some news /\ Qv σ rows /\ l = XL rows.flatten
 | _ => False
theorem Mi (r : Rel T0 B σ a w X h) {o : Oper} {t : TypeId} {x y : Operand} {d : Nat} {uC news : List (List D)} {l1 l2 : List (Nat × Nat)} (uA : o.op = .call ⟨.builtin .append, #[x, y], #[t, t]⟩) (hd : o.dst = some d)
  (r7 : gOf (look P σ t x) = true) (r8 : gOf (look P σ t y) = true) (ht : Yq P t = true) (hz : XX P (ZP P t) = true) (tH : 0 < P.cellsOf (ZP P t))
  (tc : Eb σ (unc (look P σ t x)) (P.cellsOf (ZP P t)) uC l1) (rR : Ej σ (unc (look P σ t y)) (P.cellsOf (ZP P t)) news l2) (tL : (l1 ++ l2).Nodup) (tE : (σ.Zx (l1 ++ l2)).fresh d = true)
  (tB : (uC.length + news.length) * P.bytesOf (ZP P t) <= 140737488355328) (ow : uC.length + news.length <= 9223372036854775807)
  {K : Act -> World -> Prop} {Q : Exit -> Act -> World -> Prop} (hK : ∀ a' w', JZ T0 B ((σ.Zx (l1 ++ l2)).new d (.one (.sref d 0 0 (uC.length + news.length))) [.arr true (P.cellsOf (ZP P t)) (uC ++ news)]) a' w' -> Y9 B w w' -> K a' w') : o.wp P a w K Q := by
 obtain ⟨ti, hu, hi, si⟩ := XS ht
 obtain ⟨i, z, row, tZ, rK, sV, sj, rn, tw, sN⟩ := K9 hz
 rw [hi] at tZ; cases tZ
 have ox : P.bytesOf (ZP P t) = ti.bytes := by simp [Program.bytesOf, hi]
 rw [ox] at tB
 rw [<- tw] at tc rR tH hK
 have pQ := r.arg (P := P) t x rfl r7
 have nW := r.arg (P := P) t y rfl r8
 obtain ⟨t2, j2, rows, e9, o5, sh, pO, ov⟩ : ∃ t2 j2 rows, unc (look P σ t y) = .one (.sref t2 j2 0 rows.length) /\ σ.ob t2 j2 = .lit ti.size rows /\ JL σ rows = some news /\ Qv σ rows /\ l2 = XL rows.flatten := by
  unfold Ej at rR
  split at rR
  ·rename_i t2 j2 lo len heq
   obtain ⟨rows, ho, rfl, rfl, hm, hk, rfl⟩ := rR
   exact ⟨t2, j2, rows, heq, ho, hm, hk, rfl⟩
  ·exact rR.elim
 subst ov
 obtain ⟨gW, lZ, gX⟩ := zd sh
 have lu := zS pO
 rw [e9] at nW
 have h0 := r.obj t2 j2
 rw [o5] at h0
 obtain ⟨e2, ys, te, mW, pP⟩ := h0
 obtain ⟨_, mX, _⟩ := nW.2.2 _ _ o5
 have lv : a.eval y = (h t2 j2).v := mX rfl rfl
 have mV : ∀ q ∈ news, q.length = ti.size := gX _ mW
 have s6 := N0 r pP gW lu (List.nodup_append.1 tL).2.1
 have tq : ∃ e0 xs, w.ownsRow 0 e0 ti.size (a.eval x) uC.length xs /\ (∀ q ∈ uC, q.length = ti.size) /\ JG w xs uC.flatten (fun b => Qz σ h l1 b /\ blk (a.eval x) ≠ some b) /\ (∀ b, blk (a.eval x) = some b -> Qz σ h l1 b) := by
  unfold Eb at tc
  split at tc
  ·rename_i s heq
   obtain ⟨rfl, rfl⟩ := tc
   rw [heq] at pQ
   have he : a.eval x = .slice none 0 0 := pQ
   rw [he]
   exact ⟨0, [], World.ownsRow_nil w 0 0 _, (by intro q hq; cases hq), JG.nil _, (fun b hb => by cases hb)⟩
  ·rename_i u j lo len heq
   obtain ⟨ho, rfl, rfl, rfl⟩ := tc
   rw [heq] at pQ
   have pR : YD (Tof T0 X) h σ.ob w (.sref u j 0 uC.length) (a.eval x) := pQ
   obtain ⟨_, tb, _⟩ := pR.2.1 _ _ _ ho
   have he : a.eval x = (h u j).v := tb rfl rfl
   have h0 := r.obj u j
   rw [ho] at h0
   obtain ⟨e, xs, uG, s5, uF, hn⟩ := h0
   have uX : σ.ob u j ≠ .none := by rw [ho]; simp
   rw [he]
   exact ⟨e, xs, uG, s5, uF.mono (fun b hb => ⟨⟨(u, j), by simp, uX, hb.1⟩, hb.2⟩), fun b hb => ⟨(u, j), by simp, uX, r.ub u j b uX hb⟩⟩
  ·exact tc.elim
 obtain ⟨e0, xs, uG, lY, oz, tf⟩ := tq
 have pq : ∀ q ∈ uC ++ news, q.length = ti.size := by
  intro q hq
  rcases List.mem_append.1 hq with hq | hq
  ·exact lY q hq
  ·exact mV q hq
 have sC : ys.length = news.length * ti.size := by rw [s6.1, YA news ti.size mV]
 have s9 : ∀ b, Qz σ h l1 b -> Qz σ h (XL rows.flatten) b -> False := by
  rintro b ⟨p, hp, uD, hu⟩ ⟨p', mY, uw, sH⟩
  obtain ⟨e1, e2⟩ := r.inj p.1 p.2 p'.1 p'.2 b uD uw hu sH
  have sW : p = p' := Prod.ext e1 e2
  subst sW
  exact (List.nodup_append.1 tL).2.2 p hp p mY rfl
 have pt : ∀ b, Qz σ h (l1 ++ XL rows.flatten) b ↔ Qz σ h l1 b \/ Qz σ h (XL rows.flatten) b := by
  intro b
  constructor
  ·rintro ⟨p, hp, hr⟩
   rcases List.mem_append.1 hp with hp | hp
   ·exact .inl ⟨p, hp, hr⟩
   ·exact .inr ⟨p, hp, hr⟩
  ·rintro (⟨p, hp, hr⟩ | ⟨p, hp, hr⟩)
   ·exact ⟨p, by simp [hp], hr⟩
   ·exact ⟨p, by simp [hp], hr⟩
 have r1 := r.Zx (l1 ++ XL rows.flatten)
 have ug := r.y4 (l1 ++ XL rows.flatten)
 have uL := St.KJ tE
 have key : ∀ (v' : Value) (w' : World) (e1 : TypeId), (Builtin.append_ #[t, t] o.type #[a.eval x, a.eval y]).run P w = .ok v' w' -> w'.ownsRow 0 e1 ti.size v' (uC.length + news.length) (xs ++ ys) ->
   w.grownBy w' (blk (a.eval x)) -> (∀ b, blk v' = some b -> (w.heap.size <= b /\ b < w'.heap.size) \/ blk (a.eval x) = some b) -> o.wp P a w K Q := by
  intro v' w' e1 uT uV tM r9
  unfold Oper.wp
  have s7 : (execOp a.eval o).run P w = .ok (.value v') w' := by
   simp only [execOp, uA, resolve, invoke, builtin, Sem.run_bind, Sem.run_pure, Result.andThen_ok, List.map_toArray, List.map_cons, List.map_nil, uT]
  rw [s7, Oper.upon_value, hd]
  refine hK _ _ ⟨X, fun u j => if u = d then ⟨v', fun k => ((xs ++ ys)[k]?).getD undef, fun b => blk v' = some b \/ (Qz σ h (l1 ++ XL rows.flatten) b /\ blk (a.eval x) ≠ some b)⟩ else h u j, ?_⟩
   ⟨tM.os, tM.tape, tM.output, tM.size, fun k hk => tM.block k (r.hB k hk) (fun e => (ug k ((pt k).2 (.inl (tf k e.symm)))).1 hk)⟩
  have tF : ((σ.Zx (l1 ++ XL rows.flatten)).new d (.one (.sref d 0 0 (uC.length + news.length))) [.arr true ti.size (uC ++ news)]).ob d 0 = .arr true ti.size (uC ++ news) := by rw [St.Qu]; simp [uL, YS]
  have te : w'.ownsRow 0 e1 ti.size v' (uC ++ news).length (xs ++ ys) := by rw [List.length_append]; exact uV
  have uU : ∀ b, blk (a.eval x) ≠ some b -> b < w.heap.size -> w'.heap[b]? = w.heap[b]? := fun b hb hl => tM.block b hl (fun e => hb e.symm)
  have lz : JG w' (xs ++ ys) (uC ++ news).flatten (fun b => (blk v' = some b \/ (Qz σ h (l1 ++ XL rows.flatten) b /\ blk (a.eval x) ≠ some b)) /\ blk v' ≠ some b) := by
   rw [List.flatten_append]
   have h1 : JG w' xs uC.flatten (fun b => Qz σ h l1 b /\ blk (a.eval x) ≠ some b) := oz.SF (fun b hb => uU b hb.2 (ug b ((pt b).2 (.inl hb.1))).2.2.1)
   have pv : ∀ b, Qz σ h (XL rows.flatten) b -> blk (a.eval x) ≠ some b := fun b hb e => s9 b (tf b e) hb
   have h2 : JG w' ys news.flatten (Qz σ h (XL rows.flatten)) := s6.SF (fun b hb => uU b (pv b hb) (ug b ((pt b).2 (.inr hb))).2.2.1)
   refine (h1.append h2 (fun b tW u4 => s9 b tW.1 u4)).mono (fun b hb => ?_)
   have hg : Qz σ h (l1 ++ XL rows.flatten) b /\ blk (a.eval x) ≠ some b := by
    rcases hb with hb | hb
    ·exact ⟨(pt b).2 (.inl hb.1), hb.2⟩
    ·exact ⟨(pt b).2 (.inr hb), pv b hb⟩
   refine ⟨.inr hg, fun e => ?_⟩
   rcases r9 b e with hl | hl
   ·have := (ug b hg.1).2.2.1; omega
   ·exact hg.2 hl
  refine r1.Ey tE (Qz σ h (l1 ++ XL rows.flatten)) tM.size (fun k hk uD => tM.block k hk (fun e => uD ((pt k).2 (.inl (tf k e.symm))))) (fun b hb => ⟨(ug b hb).1, (ug b hb).2.1, fun u j _ uD => (ug b hb).2.2.2 u j uD⟩) (fun _ hb => hb) (fun _ hb => .inl hb) _ _ [.arr true ti.size (uC ++ news)]
   (fun _ => ⟨v', fun k => ((xs ++ ys)[k]?).getD undef, fun b => blk v' = some b \/ (Qz σ h (l1 ++ XL rows.flatten) b /\ blk (a.eval x) ≠ some b)⟩) ?_ (fun j => ?_) (fun j b _ hb => .inl hb) (fun j b uD uS => ?_) (fun j j' b uD uw _ _ => ?_)
  ·refine ⟨JK uV, fun q' uh uQ hh => ?_, fun uh uQ hh => by rw [tF] at hh; cases hh⟩
   rw [tF] at hh; cases hh
   simp only [if_true, List.length_append]
   have := kS te
   rwa [List.length_append] at this
  ·cases j with
   | zero => exact ⟨e1, xs ++ ys, te, pq, lz, fun k x d hx _ _ => by simp [hx]⟩
   | succ j => simp [YS, JA]
  ·rcases uS with uS | uS
   ·rcases r9 b uS with h1 | h1
    ·exact ⟨.inl h1.1, fun hx => by have := (r.hX b hx).2; omega, h1.2⟩
    ·have h3 := (pt b).2 (.inl (tf b h1))
     have h2 := ug b h3
     exact ⟨.inr h3, h2.2.1, by have := tM.size; omega⟩
   ·have h2 := ug b uS.1
    exact ⟨.inr uS.1, h2.2.1, by have := tM.size; omega⟩
  ·have : ∀ j, YS [Ob.arr true ti.size (uC ++ news)] j ≠ .none -> j = 0 := by
    intro j hj
    cases j with
    | zero => rfl
    | succ j => simp [YS] at hj
   rw [this j uD, this j' uw]
 rcases te.2 with ⟨mZ, hP⟩ | ⟨g2, ld, dA, tN, _, su, dB, dC, dD, gb⟩
 ·have uN : rows = [] := List.eq_nil_of_length_eq_zero hP
  have tS : news = [] := List.eq_nil_of_length_eq_zero (by rw [<- lZ, hP])
  have mc : ys = [] := List.eq_nil_of_length_eq_zero (by rw [sC, tS]; simp)
  have um : ∃ base cap, a.eval x = .slice base uC.length cap /\ uC.length <= cap /\ (base = none -> cap = 0) := by
   rcases uG.2 with ⟨h1, h2⟩ | ⟨g, cap, cur, h1, _, _, tk, _⟩
   ·exact ⟨none, 0, by rw [h1, h2], by omega, fun _ => rfl⟩
   ·exact ⟨_, cap, h1, tk, (fun hh => by cases hh)⟩
  obtain ⟨base, cap, hex, tk, nZ⟩ := um
  refine key (a.eval x) w e0 ?_ (by rw [mc, tS]; simpa using uG) ⟨rfl, rfl, rfl, Nat.le_refl _, fun _ _ _ => rfl⟩ (fun b hb => .inr hb)
  rw [lv, mZ]
  rw [hex]
  exact K5 t o.type _ ti hu hi base uC.length cap tk nZ
 ·have o6 : a.eval y = .slice (some ⟨g2, 0, none⟩) news.length ld := by rw [lv, tN, lZ]
  have uI : ∀ j u, ys[j]? = some u -> w.cell? ((⟨g2, 0, none⟩ : Addr).add j) = some u := by
   intro j u sH
   rw [ze]
   refine Jt su _ _ ?_
   rw [<- gb, List.getElem?_take] at sH
   split at sH
   ·simpa using sH
   ·cases sH
  obtain ⟨v', w', e1, uT, uV, tM, r9⟩ := xZ (P := P) (w := w) t o.type _ e0 ti z hu hi rK rn (by omega) (a.eval x) uC.length xs uG ⟨g2, 0, none⟩ news.length ld ys sC uI
   (fun u sH => by
    obtain ⟨x', _, pI⟩ := pP.mem sH
    exact YD.Xg pI) (by simp only [maxLen]; omega) tB
  refine key v' w' e1 ?_ uV tM r9
  rw [o6]; exact uT
theorem JG.pick {xs : List Value} {ds : List D} {S : Nat -> Prop} (h1 : JG w xs ds S) {p q n : Nat} (hp : p <= q) (hq : q + n <= xs.length) : JG w (xs.take p ++ cut xs q n) (ds.take p ++ cut ds q n) S := by
 obtain ⟨hl, Sk, hk, hs, hd⟩ := h1
 have pj : (xs.take p).length = p := by rw [List.length_take]; omega
 have oM : (ds.take p).length = p := by rw [List.length_take]; omega
 refine ⟨by rw [List.length_append, List.length_append, pj, oM, Yp _ _ _ hq, Yp _ _ _ (by omega)], fun k => if k < p then Sk k else Sk (q + (k - p)), fun k x d hx uM => ?_, fun k b hb => ?_, fun i j b hi hj => ?_⟩
 ·by_cases l4 : k < p
  ·rw [List.getElem?_append_left (by omega)] at hx uM
   rw [List.getElem?_take, if_pos l4] at hx uM
   simp only [if_pos l4]
   exact hk k x d hx uM
  ·rw [List.getElem?_append_right (by omega), pj] at hx
   rw [List.getElem?_append_right (by omega), oM] at uM
   simp only [if_neg l4]
   exact hk _ x d (J5 _ _ _ _ _ hx) (J5 _ _ _ _ _ uM)
 ·dsimp only at hb
  split at hb <;> exact hs _ b hb
 ·dsimp only at hi hj
  split at hi <;> split at hj
  ·exact hd _ _ b hi hj
  ·have := hd _ _ b hi hj; omega
  ·have := hd _ _ b hi hj; omega
  ·have := hd _ _ b hi hj; omega
theorem UO (rows : List (List D)) (size : Nat) (hz : ∀ r ∈ rows, r.length = size) (lo n : Nat) (hle : lo + n <= rows.length) : (cut rows lo n).flatten = cut rows.flatten (lo * size) (n * size) := by
 have dG : ∀ r ∈ rows.drop lo, r.length = size := fun r hr => hz r (List.mem_of_mem_drop hr)
 have e1 : (rows.drop lo).flatten = rows.flatten.drop (lo * size) := by
  have h1 := zz rows size hz lo (by omega)
  have h2 : (rows.take lo).flatten ++ (rows.drop lo).flatten = rows.flatten := by rw [<- List.flatten_append, List.take_append_drop]
  have h3 : (rows.take lo).flatten.length = lo * size := by rw [YA _ size (fun r hr => hz r (List.mem_of_mem_take hr)), List.length_take]; congr 1; omega
  rw [<- h2, <- h3, List.drop_left]
 unfold cut
 rw [zz (rows.drop lo) size dG n (by rw [List.length_drop]; omega), e1]
theorem Mr (r : Rel T0 B σ a w X h) {o : Oper} {t : TypeId} {x y : Operand} {d u j len lo n : Nat} {rows : List (List D)} (uA : o.op = .call ⟨.builtin .append, #[x, y], #[t, t]⟩) (hd : o.dst = some d)
  (r7 : gOf (look P σ t x) = true) (r8 : gOf (look P σ t y) = true) (ht : Yq P t = true) (hz : XX P (ZP P t) = true) (tH : 0 < P.cellsOf (ZP P t))
  (hx : unc (look P σ t x) = .one (.sref u j 0 len)) (hy : unc (look P σ t y) = .one (.sref u j lo n)) (ho : σ.ob u j = .arr true (P.cellsOf (ZP P t)) rows) (hle : len <= lo) (pN : lo + n <= rows.length) (tE : (σ.Zx [(u, j)]).fresh d = true)
  (tB : (len + n) * P.bytesOf (ZP P t) <= 140737488355328) (ow : len + n <= 9223372036854775807)
  {K : Act -> World -> Prop} {Q : Exit -> Act -> World -> Prop} (hK : ∀ a' w', JZ T0 B ((σ.Zx [(u, j)]).new d (.one (.sref d 0 0 (len + n))) [.arr true (P.cellsOf (ZP P t)) (rows.take len ++ cut rows lo n)]) a' w' -> Y9 B w w' -> K a' w') : o.wp P a w K Q := by
 obtain ⟨ti, hu, hi, si⟩ := XS ht
 obtain ⟨i, z, row, tZ, rK, sV, sj, rn, tw, sN⟩ := K9 hz
 rw [hi] at tZ; cases tZ
 have ox : P.bytesOf (ZP P t) = ti.bytes := by simp [Program.bytesOf, hi]
 rw [ox] at tB
 rw [<- tw] at ho tH hK
 have pQ := r.arg (P := P) t x rfl r7
 have nW := r.arg (P := P) t y rfl r8
 rw [hx] at pQ
 rw [hy] at nW
 have pR : YD (Tof T0 X) h σ.ob w (.sref u j 0 len) (a.eval x) := pQ
 have mf : YD (Tof T0 X) h σ.ob w (.sref u j lo n) (a.eval y) := nW
 obtain ⟨_, _, sy, _⟩ := pR.2.1 _ _ _ ho
 have he : a.eval x = Lt (h u j).v len := sy rfl
 obtain ⟨_, _, _, base, cap, o6, tu, nR, oq, hb⟩ := mf.2.1 _ _ _ ho
 have h0 := r.obj u j
 rw [ho] at h0
 obtain ⟨e0, zs, o7, s5, uF, hn⟩ := h0
 have uX : σ.ob u j ≠ .none := by rw [ho]; simp
 have lp : zs.length = rows.length * ti.size := o7.1
 have gl : len * ti.size <= lo * ti.size := Nat.mul_le_mul_right _ hle
 have mg : lo * ti.size + n * ti.size <= zs.length := by rw [lp, <- Nat.add_mul]; exact Nat.mul_le_mul_right _ pN
 let xs := zs.take (len * ti.size)
 let ys := cut zs (lo * ti.size) (n * ti.size)
 have uG : w.ownsRow 0 e0 ti.size (a.eval x) len xs := by rw [he]; exact SN o7 (by omega)
 have sC : ys.length = n * ti.size := Yp _ _ _ mg
 have l0 : blk (a.eval x) = blk (h u j).v := by rw [he, Lh]
 have tn : (rows.take len ++ cut rows lo n).flatten = rows.flatten.take (len * ti.size) ++ cut rows.flatten (lo * ti.size) (n * ti.size) := by
  rw [List.flatten_append, zz rows ti.size s5 len (by omega), UO rows ti.size s5 lo n pN]
 have pq : ∀ q ∈ rows.take len ++ cut rows lo n, q.length = ti.size := by
  intro q hq
  rcases List.mem_append.1 hq with hq | hq
  ·exact s5 q (List.mem_of_mem_take hq)
  ·exact s5 q (List.mem_of_mem_drop (List.mem_of_mem_take hq))
 have hlen : (rows.take len ++ cut rows lo n).length = len + n := by rw [List.length_append, List.length_take, Yp _ _ _ pN]; omega
 have lC : ∀ b, (h u j).u b -> Qz σ h [(u, j)] b := fun b hb => ⟨(u, j), by simp, uX, hb⟩
 have tf : ∀ b, blk (a.eval x) = some b -> Qz σ h [(u, j)] b := fun b hb => lC b (r.ub u j b uX (by rw [<- l0]; exact hb))
 have r1 := r.Zx [(u, j)]
 have ug := r.y4 [(u, j)]
 have uL := St.KJ tE
 have key : ∀ (v' : Value) (w' : World) (e1 : TypeId), (Builtin.append_ #[t, t] o.type #[a.eval x, a.eval y]).run P w = .ok v' w' -> w'.ownsRow 0 e1 ti.size v' (len + n) (xs ++ ys) ->
   w.grownBy w' (blk (a.eval x)) -> (∀ b, blk v' = some b -> (w.heap.size <= b /\ b < w'.heap.size) \/ blk (a.eval x) = some b) -> o.wp P a w K Q := by
  intro v' w' e1 uT uV tM r9
  unfold Oper.wp
  have s7 : (execOp a.eval o).run P w = .ok (.value v') w' := by
   simp only [execOp, uA, resolve, invoke, builtin, Sem.run_bind, Sem.run_pure, Result.andThen_ok, List.map_toArray, List.map_cons, List.map_nil, uT]
  rw [s7, Oper.upon_value, hd]
  refine hK _ _ ⟨X, fun u' j' => if u' = d then ⟨v', fun k => ((xs ++ ys)[k]?).getD undef, fun b => blk v' = some b \/ (Qz σ h [(u, j)] b /\ blk (a.eval x) ≠ some b)⟩ else h u' j', ?_⟩
   ⟨tM.os, tM.tape, tM.output, tM.size, fun k hk => tM.block k (r.hB k hk) (fun e => (ug k (tf k e.symm)).1 hk)⟩
  have tF : ((σ.Zx [(u, j)]).new d (.one (.sref d 0 0 (len + n))) [.arr true ti.size (rows.take len ++ cut rows lo n)]).ob d 0 = .arr true ti.size (rows.take len ++ cut rows lo n) := by rw [St.Qu]; simp [uL, YS]
  have te : w'.ownsRow 0 e1 ti.size v' (rows.take len ++ cut rows lo n).length (xs ++ ys) := by rw [hlen]; exact uV
  have uU : ∀ b, blk (a.eval x) ≠ some b -> b < w.heap.size -> w'.heap[b]? = w.heap[b]? := fun b hb hl => tM.block b hl (fun e => hb e.symm)
  have lz : JG w' (xs ++ ys) (rows.take len ++ cut rows lo n).flatten (fun b => (blk v' = some b \/ (Qz σ h [(u, j)] b /\ blk (a.eval x) ≠ some b)) /\ blk v' ≠ some b) := by
   rw [tn]
   have h1 : JG w (xs ++ ys) (rows.flatten.take (len * ti.size) ++ cut rows.flatten (lo * ti.size) (n * ti.size)) (fun b => Qz σ h [(u, j)] b /\ blk (a.eval x) ≠ some b) :=
    (uF.pick gl mg).mono (fun b hb => ⟨lC b hb.1, by rw [l0]; exact hb.2⟩)
   refine (h1.SF (fun b hb => uU b hb.2 (ug b hb.1).2.2.1)).mono (fun b hb => ⟨.inr hb, fun e => ?_⟩)
   rcases r9 b e with hl | hl
   ·have := (ug b hb.1).2.2.1; omega
   ·exact hb.2 hl
  refine r1.Ey tE (Qz σ h [(u, j)]) tM.size (fun k hk uD => tM.block k hk (fun e => uD (tf k e.symm))) (fun b hb => ⟨(ug b hb).1, (ug b hb).2.1, fun u' j' _ uD => (ug b hb).2.2.2 u' j' uD⟩) (fun _ hb => hb) (fun _ hb => .inl hb) _ _ [.arr true ti.size (rows.take len ++ cut rows lo n)]
   (fun _ => ⟨v', fun k => ((xs ++ ys)[k]?).getD undef, fun b => blk v' = some b \/ (Qz σ h [(u, j)] b /\ blk (a.eval x) ≠ some b)⟩) ?_ (fun j' => ?_) (fun j' b _ hb => .inl hb) (fun j' b uD uS => ?_) (fun j1 j2 b uD uw _ _ => ?_)
  ·refine ⟨JK uV, fun q' uh uQ hh => ?_, fun uh uQ hh => by rw [tF] at hh; cases hh⟩
   rw [tF] at hh; cases hh
   simp only [if_true]
   have := kS te
   rw [hlen] at this ⊢
   exact this
  ·cases j' with
   | zero => exact ⟨e1, xs ++ ys, te, pq, lz, fun k x d hx _ _ => by simp [hx]⟩
   | succ j' => simp [YS, JA]
  ·rcases uS with uS | uS
   ·rcases r9 b uS with h1 | h1
    ·exact ⟨.inl h1.1, fun hx => by have := (r.hX b hx).2; omega, h1.2⟩
    ·have h3 := tf b h1
     have h2 := ug b h3
     exact ⟨.inr h3, h2.2.1, by have := tM.size; omega⟩
   ·have h2 := ug b uS.1
    exact ⟨.inr uS.1, h2.2.1, by have := tM.size; omega⟩
  ·have : ∀ j, YS [Ob.arr true ti.size (rows.take len ++ cut rows lo n)] j ≠ .none -> j = 0 := by
    intro j hj
    cases j with
    | zero => rfl
    | succ j => simp [YS] at hj
   rw [this j1 uD, this j2 uw]
 cases base with
 | none =>
  have lB := oq rfl
  subst lB
  have gm : n = 0 := by omega
  subst gm
  have mc : ys = [] := List.eq_nil_of_length_eq_zero (by rw [sC]; simp)
  have um : ∃ base cap, a.eval x = .slice base len cap /\ len <= cap /\ (base = none -> cap = 0) := by
   rcases uG.2 with ⟨h1, h2⟩ | ⟨g, cap, cur, h1, _, _, tk, _⟩
   ·exact ⟨none, 0, by rw [h1, h2], by omega, fun _ => rfl⟩
   ·exact ⟨_, cap, h1, tk, (fun hh => by cases hh)⟩
  obtain ⟨base, cap, hex, tk, nZ⟩ := um
  refine key (a.eval x) w e0 ?_ (by rw [mc]; simpa using uG) ⟨rfl, rfl, rfl, Nat.le_refl _, fun _ _ _ => rfl⟩ (fun b hb => .inr hb)
  rw [o6, hex]
  exact K5 t o.type _ ti hu hi base len cap tk nZ
 | some ad =>
  have uI : ∀ k v, ys[k]? = some v -> w.cell? (ad.add k) = some v := by
   intro k v hv
   have sD : 0 < n := by
    rcases Nat.eq_zero_or_pos n with h0 | h0
    ·have hk := (List.getElem?_eq_some_iff.1 hv).1
     rw [sC, h0] at hk
     simp at hk
    ·exact h0
   obtain ⟨b, rN, hh, sw⟩ := hb sD
   cases sw
   rcases o7.2 with ⟨mZ, _⟩ | ⟨g, ou, cur, sf, _, mP, tk, sM, sY, se⟩
   ·rw [hh] at mZ; cases mZ
   ·rw [hh] at sf; cases sf
    have h1 := J5 _ _ _ _ _ hv
    rw [ze]
    refine Jt mP _ _ ?_
    rw [<- se, List.getElem?_take] at h1
    split at h1
    ·exact h1
    ·cases h1
  have gZ : ∀ v ∈ ys, v.oneCell' = true := by
   intro v hv
   have tN : v ∈ zs := List.mem_of_mem_drop (List.mem_of_mem_take hv)
   obtain ⟨hl, Sk, hk, _⟩ := uF
   obtain ⟨k, nV⟩ := List.mem_iff_getElem?.1 tN
   have pw : k < rows.flatten.length := by rw [<- hl]; exact (List.getElem?_eq_some_iff.1 nV).1
   exact (hk k v _ nV (List.getElem?_eq_getElem pw)).Xg
  obtain ⟨v', w', e1, uT, uV, tM, r9⟩ := xZ (P := P) (w := w) t o.type _ e0 ti z hu hi rK rn (by omega) (a.eval x) len xs uG ad n cap ys sC uI gZ (by simp only [maxLen]; omega) tB
  refine key v' w' e1 ?_ uV tM r9
  rw [o6]; exact uT
end
end Go.Vm
namespace Go.Vm
open Go.RowKit
def La : List At -> Bool
 | [] => true
 | .d (.sl _ _) :: _ => false
 | _ :: xs => La xs
theorem Hh : ∀ {xs : List At}, La xs = true -> ∀ x ∈ xs, ∀ s r, x ≠ .d (.sl s r)
 | [], _, x, hx, _, _ => by cases hx
 | y :: xs, h, x, hx, s, r => by
  have h2 : La xs = true /\ ∀ s r, y ≠ .d (.sl s r) := by
   cases y with
   | d z => cases z with
    | sl s r => cases h
    | _ => exact ⟨h, fun s r e => by cases e⟩
   | _ => exact ⟨h, fun s r e => by cases e⟩
  rcases List.mem_cons.1 hx with rfl | hx
  ·exact h2.2 s r
  ·exact Hh h2.1 x hx s r
section
variable {P : Program} {T0 : CS} {B : Nat -> Prop} {σ : St} {a : Act} {w w' : World} {X X' : Nat -> Prop} {h : Nat -> Nat -> Hd}
theorem N6 (r : Rel T0 B σ a w X h) {o : Oper} {T : TypeId} {x : Operand} {d : Nat} {k : IntKind} {n : Nat} {z : List At} {zr : List D} (uA : o.op = .makeSlice T x x) (hd : o.dst = some d) (tE : σ.fresh d = true)
  (ht : Yq P T = true) (hz : XX P (ZP P T) = true) (sV : qp P 12 (ZP P T) = some z) (hO : zD z = some zr) (e7 : La z = true) (tH : 0 < P.cellsOf (ZP P T)) (hx : kN P σ x k (n : Int)) (ox : P.bytesOf (ZP P T) * n <= 281474976710656) (ow : n <= 9223372036854775807)
  {K : Act -> World -> Prop} {Q : Exit -> Act -> World -> Prop} (hK : ∀ a' w', JZ T0 B (σ.new d (.one (.sref d 0 0 n)) [.arr true (P.cellsOf (ZP P T)) (List.replicate n zr)]) a' w' -> Y9 B w w' -> K a' w') : o.wp P a w K Q := by
 obtain ⟨ti, hu, hi, si⟩ := XS ht
 obtain ⟨i, zv, row, tZ, rK, o0, sj, rn, tw, sN⟩ := K9 hz
 rw [hi] at tZ; cases tZ
 rw [sV] at o0; cases o0
 have hex := zx r hx
 have ma : (ti.bytes : Int) * (n : Int) <= 281474976710656 := by
  have : P.bytesOf (ZP P T) = ti.bytes := by simp [Program.bytesOf, hi]
  rw [this] at ox
  have h : ((ti.bytes * n : Nat) : Int) <= 281474976710656 := by omega
  rwa [Int.natCast_mul] at h
 have uT := run_make (P := P) w T (ZP P T) ti zv hu hi rK k k n n (by omega) (Int.le_refl _) ma (by omega)
 simp only [Int.toNat_natCast] at uT
 unfold Oper.wp
 simp only [execOp, uA, hex, Sem.run_bind, uT, Result.andThen_ok, Sem.run_pure, Oper.upon_value, hd]
 have nf := IV hO (sN (Tof T0 X) h σ.ob w)
 have lp := nf.length
 have e1 : zv.cells.toList.length = zv.cells.size := Array.length_toList
 have pr : zr.length = ti.size := by omega
 have s8 : (madeCells zv.cells (n * ti.size)).toList.length = n * ti.size := by rw [Array.length_toList, size_madeCells]
 have o9 : ∀ q u, (madeCells zv.cells (n * ti.size)).toList[q]? = some u -> zv.cells.toList[q % ti.size]? = some u := by
  intro q u hq
  have uL : q < n * ti.size := by have := (List.getElem?_eq_some_iff.1 hq).1; omega
  have mb : q % ti.size < zv.cells.size := by rw [rn]; exact Nat.mod_lt _ (by omega)
  have : (madeCells zv.cells (n * ti.size)).toList[q]? = some (zv.cells[q % zv.cells.size]!) := by
   simp [madeCells, uL]
  rw [this] at hq
  cases hq
  rw [rn]
  simp [mb]
 have pP : JG (w.alloc (.cells (madeCells zv.cells (n * ti.size)) (ZP P T))) (madeCells zv.cells (n * ti.size)).toList (List.replicate n zr).flatten (fun _ => False) := by
  refine ⟨by rw [s8, YA _ ti.size (by intro q hq; rw [List.eq_of_mem_replicate hq]; exact pr)]; simp, fun _ _ => False, fun q u dd hq rH => ?_, fun _ _ hb => hb, fun _ _ _ hb => hb.elim⟩
  have uL : q < n * ti.size := by have := (List.getElem?_eq_some_iff.1 hq).1; omega
  rw [xx zr n q (by rw [pr]; exact uL), pr] at rH
  exact Fm hO (sN (Tof T0 X) h σ.ob w) (Hh e7) _ _ _ u dd (o9 q u hq) rH
 have := r.BI tE (World.grownBy_alloc w (.cells (madeCells zv.cells (n * ti.size)) (ZP P T)) none) (.slice (some ⟨w.heap.size, 0, none⟩) n n) (e := ZP P T) (size := P.cellsOf (ZP P T)) (rows := List.replicate n zr) (xs := (madeCells zv.cells (n * ti.size)).toList)
  ⟨by rw [s8, tw]; simp, .inr ⟨w.heap.size, n, _, by simp, Nat.zero_le _, heap_alloc_new w _, by simp, by simp only [maxLen]; omega, by rw [size_madeCells, tw], by rw [List.take_of_length_le (by rw [s8, tw]; simp)]⟩⟩
  (by intro q hq; rw [List.eq_of_mem_replicate hq]; omega) pP
  (fun b hb => by simp [blk] at hb; subst hb; exact ⟨Nat.le_refl _, by simp⟩)
 rw [List.length_replicate] at this
 exact hK _ _ this.1 this.2
theorem JG.place {xs ys : List Value} {ds es : List D} {S S' : Nat -> Prop} (h1 : JG w xs ds S) (h2 : JG w ys es S') (hd : ∀ b, S b -> S' b -> False) (o : Nat) (ho : o + ys.length <= xs.length) : JG w (Vm.place xs o ys) (Vm.place ds o es) (fun b => S b \/ S' b) := by
 obtain ⟨l1, Sk, a1, a2, a3⟩ := h1
 obtain ⟨l2, nU, b1, b2, b3⟩ := h2
 refine ⟨by rw [Qc _ _ _ ho, Qc _ _ _ (by omega), l1], fun k => if o <= k /\ k < o + ys.length then nU (k - o) else Sk k, fun k x d hx uM => ?_, fun k b hb => ?_, fun i j b hi hj => ?_⟩
 ·rcases WW xs o ys ho k x hx with ⟨p1, p2, p3⟩ | ⟨p1, p3⟩
  ·rcases WW ds o es (by omega) k d uM with ⟨_, _, p4⟩ | ⟨p4, _⟩
   ·simp only [p1, p2, and_self, if_true]; exact b1 _ x d p3 p4
   ·exact absurd ⟨p1, by omega⟩ p4
  ·rcases WW ds o es (by omega) k d uM with ⟨p4, p5, _⟩ | ⟨_, p4⟩
   ·exact absurd ⟨p4, by omega⟩ p1
   ·simp only [p1, if_false]; exact a1 k x d p3 p4
 ·by_cases hk : o <= k /\ k < o + ys.length
  ·simp only [hk, and_self, if_true] at hb; exact .inr (b2 _ b hb)
  ·simp only [hk, if_false] at hb; exact .inl (a2 k b hb)
 ·by_cases tZ : o <= i /\ i < o + ys.length
  ·simp only [tZ, and_self, if_true] at hi
   by_cases rP : o <= j /\ j < o + ys.length
   ·simp only [rP, and_self, if_true] at hj
    have := b3 _ _ b hi hj; omega
   ·simp only [rP, if_false] at hj; exact (hd b (a2 j b hj) (b2 _ b hi)).elim
  ·simp only [tZ, if_false] at hi
   by_cases rP : o <= j /\ j < o + ys.length
   ·simp only [rP, and_self, if_true] at hj; exact (hd b (a2 i b hi) (b2 _ b hj)).elim
   ·simp only [rP, if_false] at hj; exact a3 i j b hi hj
theorem OJ (r : Rel T0 B σ a w X h) {o : Oper} {T : TypeId} {x y : Operand} (uA : o.op = .store T x y) (hd : o.dst = none) (ht : yf P T = true) (r7 : gOf (look P σ 0 x) = true) (r8 : gOf (look P σ T y) = true)
  {t j i c : Nat} (hx : unc (look P σ 0 x) = .one (.ptr t j i c)) {size : Nat} {rows : List (List D)} (ho : σ.ob t j = .arr true size rows) (hi : i < rows.length) {ds : List D} (tg : (unc (look P σ T y)).flat = true) (oX : Jl σ (unc (look P σ T y)).cells = some ds) (uW : QR σ (unc (look P σ T y)).cells)
  (tL : (XL (unc (look P σ T y)).cells).Nodup) (lV : (t, j) ∉ XL (unc (look P σ T y)).cells) (e8 : (σ.Zx (XL (unc (look P σ T y)).cells)).zT (At.isT t) = false) (hl : ds.length = P.cellsOf T) (hle : c + P.cellsOf T <= size)
  {K : Act -> World -> Prop} {Q : Exit -> Act -> World -> Prop} (hK : ∀ a' w', JZ T0 B ((σ.Zx (XL (unc (look P σ T y)).cells)).Zs t j (.arr true size (rows.set i (place (rows.getD i []) c ds)))) a' w' -> Y9 B w w' -> K a' w') : o.wp P a w K Q := by
 obtain ⟨_, ti, _, gV, _, _⟩ := kG ht
 have lh := r.arg (P := P) 0 x hx r7
 obtain ⟨b, cap, cur, e, xs, hb, he, hh, tu, sM, sY, se, hz, nb, _, uG⟩ := r.arr ho lh
 obtain ⟨uG, hn⟩ := uG rfl
 have hy := ju tg (r.arg (P := P) T y rfl r8)
 have s6 := N0 r hy oX uW tL
 have sC := s6.1
 have e2 : (a.eval y).cells.toList.length = (a.eval y).cells.size := Array.length_toList
 have e3 : cur.toList.length = cur.size := Array.length_toList
 have ur : rows[i]? = some (rows.getD i []) := by simp [List.getD_eq_getElem?_getD, List.getElem?_eq_getElem hi]
 have hmul : i * size + size <= rows.length * size := by rw [<- Nat.succ_mul]; exact Nat.mul_le_mul_right _ hi
 have lj : rows.length * size <= cap * size := Nat.mul_le_mul_right _ tu
 have uT := run_store (P := P) (w := w) gV (o := i * size + c) (val := a.eval y) hh (by omega) (by omega) (fun u hu => by obtain ⟨x', _, pI⟩ := hy.mem hu; exact YD.Xg pI)
 have uX : σ.ob t j ≠ .none := by rw [ho]; simp
 have tU : blk (h t j).v = some b := by rw [hb]; rfl
 have hB := r.AO uX tU
 have tY := r.ub t j b uX tU
 have oo : xs.length = rows.length * size := by rw [nb, YA rows size hz]
 have oY : (rows.getD i []).length = size := hz _ (List.mem_of_getElem? ur)
 generalize hL : XL (unc (look P σ T y)).cells = L at *
 have r1 := r.Zx L
 have rp : (σ.Zx L).ob t j = .arr true size rows := by rw [St.KV, if_neg lV, ho]
 have ug := r.y4 L
 have s9 : ∀ b', (h t j).u b' -> Qz σ h L b' -> False := by
  rintro b' sH ⟨p, hp, uD, gY⟩
  obtain ⟨q1, q2⟩ := r.inj t j p.1 p.2 b' uX uD sH gY
  exact lV (by rw [q1, q2]; exact hp)
 unfold Oper.wp
 simp only [execOp, uA, he, Sem.run_bind, uT, Result.andThen_ok, Sem.run_pure, Oper.upon_skip, hd]
 refine hK _ _ ⟨X, _, r1.change (by rw [rp]; simp) (by simp [World.setRow]) (fun k hk => setRow_other w b k _ (fun e => hk (e ▸ tY))) (Qz σ h L) (fun b' uS => ug b' uS) _ (by rw [rp]; simp [Ob.BL])
  ⟨(h t j).v, fun k => ((place xs (i * size + c) (a.eval y).cells.toList)[k]?).getD undef, fun b' => (h t j).u b' \/ Qz σ h L b'⟩ rfl (fun b' uS => uS) (fun b' uS => .inl (r.ub t j b' uX uS)) (At.isT t) e8 (.inl (fun u i c => by simp [At.isT])) ?_⟩ (Y9.setRow hB.1 _)
 have tz := setRow_heap w b cur (place cur.toList (i * size + c) (a.eval y).cells.toList).toArray e (0, 0) hh
 have uU : ∀ b', b' ≠ b -> (w.setRow b (place cur.toList (i * size + c) (a.eval y).cells.toList).toArray).heap[b']? = w.heap[b']? := fun b' uD => setRow_other w b b' _ uD
 have sn : ∀ r ∈ rows.set i (place (rows.getD i []) c ds), r.length = size := by
  intro r' th
  rcases List.mem_or_eq_of_mem_set th with th | th
  ·exact hz r' th
  ·rw [th, Qc _ _ _ (by omega), oY]
 refine ⟨e, place xs (i * size + c) (a.eval y).cells.toList, ⟨?_, .inr ⟨b, cap, _, by simpa using hb, Nat.zero_le _, tz, by simpa using tu, sM, ?_, ?_⟩⟩, sn, ?_, fun k u d hu _ _ => by simp [hu]⟩
 ·rw [Qc _ _ _ (by omega), oo]; simp
 ·simp only [List.size_toArray]
  rw [Qc _ _ _ (by omega), e3, sY]
 ·simp only [List.length_set]
  rw [NM _ _ _ _ (by omega) (by omega), se]
 ·rw [qP size c ds (by omega) rows i _ ur hz]
  have k1 : JG (w.setRow b (place cur.toList (i * size + c) (a.eval y).cells.toList).toArray) xs rows.flatten (fun b => (h t j).u b /\ blk (h t j).v ≠ some b) := uG.SF (fun b' uS => uU b' (fun e => uS.2 (by rw [e]; exact tU)))
  have k2 : JG (w.setRow b (place cur.toList (i * size + c) (a.eval y).cells.toList).toArray) (a.eval y).cells.toList ds (Qz σ h L) := s6.SF (fun b' uS => uU b' (fun e => s9 b' (by rw [e]; exact tY) uS))
  refine (k1.place k2 (fun b' h1 h2 => s9 b' h1.1 h2) _ (by omega)).mono (fun b' uS => ?_)
  rcases uS with uS | uS
  ·exact ⟨.inl uS.1, uS.2⟩
  ·exact ⟨.inr uS, fun e => s9 b' (r.ub t j b' uX e) uS⟩
end
theorem Uc {α β : Type} (f : α -> β) (l : List α) (k : Nat) : cut (l.map f) k (l.length - k) = (l.drop k).map f := by
 unfold cut
 rw [<- List.map_drop, <- List.map_take, List.take_of_length_le (by rw [List.length_drop]; exact Nat.le_refl _)]
def hol : D -> D
 | .sl _ _ => .unk
 | d => d
def QS (rows : List (List D)) (lo n : Nat) : List (List D) := rows.take lo ++ (cut rows lo n).map (fun r => r.map hol) ++ rows.drop (lo + n)
theorem zq {rows : List (List D)} {lo n : Nat} (h : lo + n <= rows.length) : (QS rows lo n).length = rows.length := by
 simp only [QS, List.length_append, List.length_map, List.length_take, List.length_drop, Yp _ _ _ h]; omega
theorem Po {rows : List (List D)} {lo n p9 n' : Nat} (h : lo + n <= rows.length) (h' : lo + n <= p9) : cut (QS rows lo n) p9 n' = cut rows p9 n' := by
 unfold cut
 congr 1
 have hl : (rows.take lo ++ (cut rows lo n).map (fun r => r.map hol)).length = lo + n := by
  simp only [List.length_append, List.length_map, List.length_take, Yp _ _ _ h]; omega
 unfold QS
 rw [List.drop_append, List.drop_eq_nil_of_le (by omega), hl, List.drop_drop, List.nil_append]
 congr 1
 omega
section
variable {P : Program} {T0 : CS} {B : Nat -> Prop} {σ : St} {a : Act} {w w' : World} {X X' : Nat -> Prop} {h : Nat -> Nat -> Hd}
theorem Own.BR {v : Value} {d : D} {S S' : Nat -> Prop} (hs : d.scalar = true) (ho : Own w v d S) : Own w v d S' := by
 cases ho with
 | int k n => exact .int _ _ _
 | bool b => exact .bool _ _
 | str s => exact .str _ _
 | unk v h => exact .unk _ h _
 | sl => cases hs
theorem Own.hol {v : Value} {d : D} {S S' : Nat -> Prop} (ho : Own w v d S) : Own w v (Vm.hol d) S' := by
 cases d with
 | sl s r => exact .unk _ ho.Xg _
 | int k n => exact ho.BR rfl
 | bool b => exact ho.BR rfl
 | str s => exact ho.BR rfl
 | unk => exact ho.BR rfl
theorem Fk (d : D) : (hol d).scalar = true := by cases d <;> rfl
theorem PN {rows : List (List D)} {size lo n : Nat} (hz : ∀ r ∈ rows, r.length = size) (hle : lo + n <= rows.length) {k : Nat} {d : D} (hd : (QS rows lo n).flatten[k]? = some d) :
  (lo * size <= k /\ k < lo * size + n * size /\ ∃ d', rows.flatten[k]? = some d' /\ d = hol d') \/ (¬ (lo * size <= k /\ k < lo * size + n * size) /\ rows.flatten[k]? = some d) := by
 have tg : rows.flatten.length = rows.length * size := YA rows size hz
 have hm : lo * size + n * size <= rows.length * size := by rw [<- Nat.add_mul]; exact Nat.mul_le_mul_right _ hle
 have e1 : (rows.take lo).flatten = rows.flatten.take (lo * size) := zz rows size hz lo (by omega)
 have e2 : ((cut rows lo n).map (fun r => r.map hol)).flatten = (cut rows.flatten (lo * size) (n * size)).map hol := by
  rw [<- UO rows size hz lo n hle, List.map_flatten]
 have l1 : ((rows.take lo).flatten).length = lo * size := by rw [e1, List.length_take]; omega
 have l2 : (((cut rows lo n).map (fun r => r.map hol)).flatten).length = n * size := by rw [e2, List.length_map, Yp _ _ _ (by omega)]
 unfold QS at hd
 rw [List.flatten_append, List.flatten_append] at hd
 by_cases h1 : k < lo * size + n * size
 ·rw [List.getElem?_append_left (by rw [List.length_append, l1, l2]; exact h1)] at hd
  by_cases h0 : k < lo * size
  ·rw [List.getElem?_append_left (by rw [l1]; exact h0), e1, List.getElem?_take, if_pos h0] at hd
   exact .inr ⟨by omega, hd⟩
  ·rw [List.getElem?_append_right (by rw [l1]; omega), l1, e2, List.getElem?_map] at hd
   cases hc : (cut rows.flatten (lo * size) (n * size))[k - lo * size]? with
   | none => rw [hc] at hd; cases hd
   | some d' =>
    rw [hc] at hd
    have := J5 _ _ _ _ _ hc
    rw [show lo * size + (k - lo * size) = k by omega] at this
    exact .inl ⟨by omega, h1, d', this, (by cases hd; rfl)⟩
 ·rw [List.getElem?_append_right (by rw [List.length_append, l1, l2]; omega), List.length_append, l1, l2] at hd
  have e3 : (rows.drop (lo + n)).flatten = rows.flatten.drop (lo * size + n * size) := by
   have h2 : (rows.take (lo + n)).flatten ++ (rows.drop (lo + n)).flatten = rows.flatten := by rw [<- List.flatten_append, List.take_append_drop]
   have h3 : (rows.take (lo + n)).flatten.length = lo * size + n * size := by rw [zz rows size hz (lo + n) hle, List.length_take, Nat.add_mul]; omega
   rw [<- h2, <- h3, List.drop_left]
  rw [e3, List.getElem?_drop, show lo * size + n * size + (k - (lo * size + n * size)) = k by omega] at hd
  exact .inr ⟨by omega, hd⟩
theorem Rel.C0 (r : Rel T0 B σ a w X h) {u j size lo n : Nat} {rows : List (List D)} (ho : σ.ob u j = .arr true size rows) (hle : lo + n <= rows.length) :
  ∃ (h' : Nat -> Nat -> Hd) (M : Nat -> Prop) (e : TypeId) (zs : List Value), Rel T0 B (σ.Zs u j (.arr true size (QS rows lo n))) a w X h' /\
   (∀ b, M b -> ¬ B b /\ ¬ X b /\ b < w.heap.size /\ ∀ t i, (σ.Zs u j (.arr true size (QS rows lo n))).ob t i ≠ .none -> ¬ (h' t i).u b) /\ (∀ t i, (h' t i).v = (h t i).v) /\
   w.ownsRow 0 e size (h u j).v rows.length zs /\ (∀ q ∈ rows, q.length = size) /\ JG w (cut zs (lo * size) (n * size)) (cut rows lo n).flatten M /\ (∀ v ∈ zs, v.oneCell' = true) := by
 have uX : σ.ob u j ≠ .none := by rw [ho]; simp
 have h0 := r.obj u j
 rw [ho] at h0
 obtain ⟨e, zs, rG, hz, ⟨hD, Sk, o1, o2, o3⟩, hn⟩ := h0
 have tg : rows.flatten.length = rows.length * size := YA rows size hz
 have hm : lo * size + n * size <= rows.length * size := by rw [<- Nat.add_mul]; exact Nat.mul_le_mul_right _ hle
 let M : Nat -> Prop := fun b => ∃ k, lo * size <= k /\ k < lo * size + n * size /\ Sk k b
 let uM : Hd := ⟨(h u j).v, (h u j).n, fun b => (h u j).u b /\ ¬ M b⟩
 have gn : ∀ b, M b -> (h u j).u b /\ blk (h u j).v ≠ some b := fun b ⟨k, _, _, hk⟩ => o2 k b hk
 have sn : ∀ q ∈ QS rows lo n, q.length = size := by
  intro q hq
  simp only [QS, List.mem_append, List.mem_map] at hq
  rcases hq with (hq | ⟨q', hq, rfl⟩) | hq
  ·exact hz q (List.mem_of_mem_take hq)
  ·rw [List.length_map]; exact hz q' (List.mem_of_mem_drop (List.mem_of_mem_take hq))
  ·exact hz q (List.mem_of_mem_drop hq)
 have hr := r.change (w' := w) uX rfl (fun _ _ => rfl) (fun _ => False) (fun _ hh => hh.elim) (.arr true size (QS rows lo n)) (by rw [ho]; exact ⟨rfl, rfl, (zq hle).symm⟩) uM rfl (fun b hb => .inl hb.1)
  (fun b hb => ⟨r.ub u j b uX hb, fun uS => (gn b uS).2 hb⟩) (fun _ => false) (St.y2 σ) (.inr rfl) (by
   refine ⟨e, zs, by rw [zq hle]; exact rG, sn, ⟨?_, fun k => if lo * size <= k /\ k < lo * size + n * size then (fun _ => False) else Sk k, fun k x d hx hd => ?_, fun k b hb => ?_, fun k k' b hb uS => ?_⟩, fun k x d hx hd tJ => ?_⟩
   ·rw [hD, YA _ size sn, zq hle, tg]
   ·rcases PN hz hle hd with ⟨h1, h2, d', h3, rfl⟩ | ⟨h1, h2⟩
    ·exact (o1 k x d' hx h3).hol
    ·simp only [h1, if_false]; exact o1 k x d hx h2
   ·dsimp only at hb
    split at hb
    ·exact hb.elim
    ·rename_i hk
     refine ⟨⟨(o2 k b hb).1, fun ⟨k', h1, h2, h3⟩ => ?_⟩, (o2 k b hb).2⟩
     have := o3 k k' b hb h3
     subst this
     exact hk ⟨h1, h2⟩
   ·dsimp only at hb uS
    split at hb
    ·exact hb.elim
    ·split at uS
     ·exact uS.elim
     ·exact o3 k k' b hb uS
   ·rcases PN hz hle hd with ⟨h1, h2, d', h3, rfl⟩ | ⟨h1, h2⟩
    ·rw [Fk] at tJ; cases tJ
    ·exact hn k x d hx h2 tJ)
 have dH : (cut rows lo n).flatten = cut rows.flatten (lo * size) (n * size) := UO rows size hz lo n hle
 refine ⟨_, M, e, zs, hr, fun b hb => ?_, fun t i => ?_, rG, hz, ?_, fun v hv => ?_⟩
 ·have h1 := r.own u j b uX (gn b hb).1
  refine ⟨h1.1, h1.2.1, h1.2.2, fun t i uD uS => ?_⟩
  split at uS
  ·exact uS.2 hb
  ·rename_i hc
   have uw : σ.ob t i ≠ .none := by
    rw [St.Xj σ u j _ t i uX, if_neg hc] at uD; exact uD
   exact hc (r.inj t i u j b uw uX uS (gn b hb).1)
 ·split
  ·rename_i hc; rw [hc.1, hc.2]
  ·rfl
 ·rw [dH]
  have uk : (cut zs (lo * size) (n * size)).length = n * size := Yp _ _ _ (by rw [hD, tg]; exact hm)
  refine ⟨by rw [uk, Yp _ _ _ (by rw [tg]; exact hm)], fun k b => k < n * size /\ Sk (lo * size + k) b, fun k x d hx hd => ?_, fun k b hb => ⟨lo * size + k, by omega, by omega, hb.2⟩, fun i k b hi hk => by have := o3 _ _ b hi.2 hk.2; omega⟩
  have hk : k < n * size := by rw [<- uk]; exact (List.getElem?_eq_some_iff.1 hx).1
  exact (o1 _ x d (J5 _ _ _ _ _ hx) (J5 _ _ _ _ _ hd)).mono (fun b hb => ⟨hk, hb⟩)
 ·obtain ⟨k, hk⟩ := List.mem_iff_getElem?.1 hv
  have uL : k < rows.flatten.length := by rw [<- hD]; exact (List.getElem?_eq_some_iff.1 hk).1
  exact (o1 k v _ hk (List.getElem?_eq_getElem uL)).Xg
def GJ (σ : St) (x : V) (size : Nat) (uC : List (List D)) (l : List (Nat × Nat)) : Prop :=
 match x with
 | .one (.nil _) => uC = [] /\ l = []
 | .one (.sref t j lo len) => lo = 0 /\ len = uC.length /\ l = [(t, j)] /\ (σ.ob t j = .arr true size uC \/ (σ.ob t j = .lit size [] /\ uC = []))
 | _ => False
theorem M3 (r : Rel T0 B σ a w X h) {o : Oper} {t : TypeId} {x y : Operand} {d u j lo n : Nat} {rows uC : List (List D)} {l1 : List (Nat × Nat)} (uA : o.op = .call ⟨.builtin .append, #[x, y], #[t, t]⟩) (hd : o.dst = some d)
  (r7 : gOf (look P σ t x) = true) (r8 : gOf (look P σ t y) = true) (ht : Yq P t = true) (hz : XX P (ZP P t) = true) (tH : 0 < P.cellsOf (ZP P t))
  (tc : GJ σ (unc (look P σ t x)) (P.cellsOf (ZP P t)) uC l1) (hy : unc (look P σ t y) = .one (.sref u j lo n)) (ho : σ.ob u j = .arr true (P.cellsOf (ZP P t)) rows) (hle : lo + n <= rows.length) (mU : (u, j) ∉ l1)
  (tE : ((σ.Zs u j (.arr true (P.cellsOf (ZP P t)) (QS rows lo n))).Zx l1).fresh d = true)
  (tB : (uC.length + n) * P.bytesOf (ZP P t) <= 140737488355328) (ow : uC.length + n <= 9223372036854775807)
  {K : Act -> World -> Prop} {Q : Exit -> Act -> World -> Prop} (hK : ∀ a' w', JZ T0 B (((σ.Zs u j (.arr true (P.cellsOf (ZP P t)) (QS rows lo n))).Zx l1).new d (.one (.sref d 0 0 (uC.length + n))) [.arr true (P.cellsOf (ZP P t)) (uC ++ cut rows lo n)]) a' w' -> Y9 B w w' -> K a' w') : o.wp P a w K Q := by
 obtain ⟨ti, hu, hi, si⟩ := XS ht
 obtain ⟨i, z, row, tZ, rK, sV, sj, rn, tw, sN⟩ := K9 hz
 rw [hi] at tZ; cases tZ
 have ox : P.bytesOf (ZP P t) = ti.bytes := by simp [Program.bytesOf, hi]
 rw [ox] at tB
 rw [<- tw] at ho tH hK tE tc
 have pQ := r.arg (P := P) t x rfl r7
 have nW := r.arg (P := P) t y rfl r8
 rw [hy] at nW
 have mf : YD (Tof T0 X) h σ.ob w (.sref u j lo n) (a.eval y) := nW
 obtain ⟨_, _, _, base, cap, o6, tu, nR, oq, hb⟩ := mf.2.1 _ _ _ ho
 obtain ⟨h', M, e0, zs, r0, hM, sf, la, s5, s6, gZ⟩ := r.C0 ho hle
 have uX : σ.ob u j ≠ .none := by rw [ho]; simp
 generalize hσ1 : σ.Zs u j (.arr true ti.size (QS rows lo n)) = σ1 at *
 have rp : ∀ t' i', ¬ (t' = u /\ i' = j) -> σ1.ob t' i' = σ.ob t' i' := fun t' i' uD => by rw [<- hσ1, St.Xj σ u j _ t' i' uX, if_neg uD]
 have lp : zs.length = rows.length * ti.size := la.1
 have mg : lo * ti.size + n * ti.size <= zs.length := by rw [lp, <- Nat.add_mul]; exact Nat.mul_le_mul_right _ hle
 generalize mc : cut zs (lo * ti.size) (n * ti.size) = ys at *
 have sC : ys.length = n * ti.size := by rw [<- mc]; exact Yp _ _ _ mg
 have uk : (cut rows lo n).length = n := Yp _ _ _ hle
 have mV : ∀ q ∈ cut rows lo n, q.length = ti.size := fun q hq => s5 q (List.mem_of_mem_drop (List.mem_of_mem_take hq))
 have tq : ∃ e1 xs, w.ownsRow 0 e1 ti.size (a.eval x) uC.length xs /\ (∀ q ∈ uC, q.length = ti.size) /\ JG w xs uC.flatten (fun b => Qz σ1 h' l1 b /\ blk (a.eval x) ≠ some b) /\ (∀ b, blk (a.eval x) = some b -> Qz σ1 h' l1 b) := by
  unfold GJ at tc
  split at tc
  ·rename_i s heq
   obtain ⟨rfl, rfl⟩ := tc
   rw [heq] at pQ
   have he : a.eval x = .slice none 0 0 := pQ
   rw [he]
   exact ⟨0, [], World.ownsRow_nil w 0 0 _, (by intro q hq; cases hq), JG.nil _, (fun b hb => by cases hb)⟩
  ·rename_i u2 j2 fv lX heq
   obtain ⟨rfl, rfl, rfl, sL⟩ := tc
   rw [heq] at pQ
   have pR : YD (Tof T0 X) h σ.ob w (.sref u2 j2 0 uC.length) (a.eval x) := pQ
   have uD : ¬ (u2 = u /\ j2 = j) := fun hc => mU (by rw [hc.1, hc.2]; simp)
   have h0 := r0.obj u2 j2
   rw [rp u2 j2 uD] at h0
   rcases sL with sL | ⟨sL, rfl⟩
   ·obtain ⟨_, tb, _⟩ := pR.2.1 _ _ _ sL
    have he : a.eval x = (h' u2 j2).v := by rw [sf]; exact tb rfl rfl
    rw [sL] at h0
    obtain ⟨e, xs, uG, mW, uF, hn⟩ := h0
    have oN : σ1.ob u2 j2 ≠ .none := by rw [rp u2 j2 uD, sL]; simp
    rw [he]
    exact ⟨e, xs, uG, mW, uF.mono (fun b hb => ⟨⟨(u2, j2), by simp, oN, hb.1⟩, hb.2⟩), fun b hb => ⟨(u2, j2), by simp, oN, r0.ub u2 j2 b oN hb⟩⟩
   ·obtain ⟨_, tb, _⟩ := pR.2.2 _ _ sL
    have he : a.eval x = (h' u2 j2).v := by rw [sf]; exact tb rfl rfl
    rw [sL] at h0
    obtain ⟨e, xs, uG, mW, uF⟩ := h0
    have oN : σ1.ob u2 j2 ≠ .none := by rw [rp u2 j2 uD, sL]; simp
    have dI : xs = [] := by cases uF; rfl
    subst dI
    rw [he]
    exact ⟨e, [], uG, (by intro q hq; cases hq), JG.nil _, fun b hb => ⟨(u2, j2), by simp, oN, r0.ub u2 j2 b oN hb⟩⟩
  ·exact tc.elim
 obtain ⟨e1, xs, uG, lY, oz, tf⟩ := tq
 have pq : ∀ q ∈ uC ++ cut rows lo n, q.length = ti.size := by
  intro q hq
  rcases List.mem_append.1 hq with hq | hq
  ·exact lY q hq
  ·exact mV q hq
 have s9 : ∀ b, Qz σ1 h' l1 b -> M b -> False := by
  rintro b ⟨p, hp, uD, sH⟩ hb
  exact (hM b hb).2.2.2 p.1 p.2 uD sH
 have r1 := r0.Zx l1
 have ug := r0.y4 l1
 have uL := St.KJ tE
 let N : Nat -> Prop := fun b => Qz σ1 h' l1 b \/ M b
 have hN : ∀ b, N b -> ¬ B b /\ ¬ X b /\ b < w.heap.size /\ ∀ u' i', (σ1.Zx l1).ob u' i' ≠ .none -> ¬ (h' u' i').u b := by
  rintro b (hb | hb)
  ·exact ug b hb
  ·obtain ⟨q1, q2, q3, q4⟩ := hM b hb
   refine ⟨q1, q2, q3, fun u' i' uD => q4 u' i' ?_⟩
   rw [St.KV] at uD
   split at uD
   ·exact absurd rfl uD
   ·exact uD
 have key : ∀ (v' : Value) (w' : World) (e2 : TypeId), (Builtin.append_ #[t, t] o.type #[a.eval x, a.eval y]).run P w = .ok v' w' -> w'.ownsRow 0 e2 ti.size v' (uC.length + n) (xs ++ ys) ->
   w.grownBy w' (blk (a.eval x)) -> (∀ b, blk v' = some b -> (w.heap.size <= b /\ b < w'.heap.size) \/ blk (a.eval x) = some b) -> o.wp P a w K Q := by
  intro v' w' e2 uT uV tM r9
  unfold Oper.wp
  have s7 : (execOp a.eval o).run P w = .ok (.value v') w' := by
   simp only [execOp, uA, resolve, invoke, builtin, Sem.run_bind, Sem.run_pure, Result.andThen_ok, List.map_toArray, List.map_cons, List.map_nil, uT]
  rw [s7, Oper.upon_value, hd]
  refine hK _ _ ⟨X, fun u' j' => if u' = d then ⟨v', fun k => ((xs ++ ys)[k]?).getD undef, fun b => blk v' = some b \/ (N b /\ blk (a.eval x) ≠ some b)⟩ else h' u' j', ?_⟩
   ⟨tM.os, tM.tape, tM.output, tM.size, fun k hk => tM.block k (r.hB k hk) (fun e => (hN k (.inl (tf k e.symm))).1 hk)⟩
  have tF : ((σ1.Zx l1).new d (.one (.sref d 0 0 (uC.length + n))) [.arr true ti.size (uC ++ cut rows lo n)]).ob d 0 = .arr true ti.size (uC ++ cut rows lo n) := by rw [St.Qu]; simp [uL, YS]
  have sI : (uC ++ cut rows lo n).length = uC.length + n := by rw [List.length_append, uk]
  have te : w'.ownsRow 0 e2 ti.size v' (uC ++ cut rows lo n).length (xs ++ ys) := by rw [sI]; exact uV
  have uU : ∀ b, blk (a.eval x) ≠ some b -> b < w.heap.size -> w'.heap[b]? = w.heap[b]? := fun b hb hl => tM.block b hl (fun e => hb e.symm)
  have lz : JG w' (xs ++ ys) (uC ++ cut rows lo n).flatten (fun b => (blk v' = some b \/ (N b /\ blk (a.eval x) ≠ some b)) /\ blk v' ≠ some b) := by
   rw [List.flatten_append]
   have h1 : JG w' xs uC.flatten (fun b => Qz σ1 h' l1 b /\ blk (a.eval x) ≠ some b) := oz.SF (fun b hb => uU b hb.2 (ug b hb.1).2.2.1)
   have pv : ∀ b, M b -> blk (a.eval x) ≠ some b := fun b hb e => s9 b (tf b e) hb
   have h2 : JG w' ys (cut rows lo n).flatten M := s6.SF (fun b hb => uU b (pv b hb) (hM b hb).2.2.1)
   refine (h1.append h2 (fun b tW u4 => s9 b tW.1 u4)).mono (fun b hb => ?_)
   have hg : N b /\ blk (a.eval x) ≠ some b := by
    rcases hb with hb | hb
    ·exact ⟨.inl hb.1, hb.2⟩
    ·exact ⟨.inr hb, pv b hb⟩
   refine ⟨.inr hg, fun e => ?_⟩
   rcases r9 b e with hl | hl
   ·have := (hN b hg.1).2.2.1; omega
   ·exact hg.2 hl
  refine r1.Ey tE N tM.size (fun k hk uD => tM.block k hk (fun e => uD (.inl (tf k e.symm)))) (fun b hb => ⟨(hN b hb).1, (hN b hb).2.1, fun u' j' _ uD => (hN b hb).2.2.2 u' j' uD⟩) (fun _ hb => hb) (fun _ hb => .inl hb) _ _ [.arr true ti.size (uC ++ cut rows lo n)]
   (fun _ => ⟨v', fun k => ((xs ++ ys)[k]?).getD undef, fun b => blk v' = some b \/ (N b /\ blk (a.eval x) ≠ some b)⟩) ?_ (fun j' => ?_) (fun j' b _ hb => .inl hb) (fun j' b uD uS => ?_) (fun j1 j2 b uD uw _ _ => ?_)
  ·refine ⟨JK uV, fun q' uh uQ hh => ?_, fun uh uQ hh => by rw [tF] at hh; cases hh⟩
   rw [tF] at hh; cases hh
   simp only [if_true]
   have := kS te
   rw [sI] at this ⊢
   exact this
  ·cases j' with
   | zero => exact ⟨e2, xs ++ ys, te, pq, lz, fun k x d hx _ _ => by simp [hx]⟩
   | succ j' => simp [YS, JA]
  ·rcases uS with uS | uS
   ·rcases r9 b uS with h1 | h1
    ·exact ⟨.inl h1.1, fun hx => by have := (r.hX b hx).2; omega, h1.2⟩
    ·have h3 : N b := .inl (tf b h1)
     have h2 := hN b h3
     exact ⟨.inr h3, h2.2.1, by have := tM.size; omega⟩
   ·have h2 := hN b uS.1
    exact ⟨.inr uS.1, h2.2.1, by have := tM.size; omega⟩
  ·have : ∀ j, YS [Ob.arr true ti.size (uC ++ cut rows lo n)] j ≠ .none -> j = 0 := by
    intro j hj
    cases j with
    | zero => rfl
    | succ j => simp [YS] at hj
   rw [this j1 uD, this j2 uw]
 cases base with
 | none =>
  have lB := oq rfl
  subst lB
  have gm : n = 0 := by omega
  subst gm
  have gp : ys = [] := List.eq_nil_of_length_eq_zero (by rw [sC]; simp)
  have um : ∃ base cap, a.eval x = .slice base uC.length cap /\ uC.length <= cap /\ (base = none -> cap = 0) := by
   rcases uG.2 with ⟨h1, h2⟩ | ⟨g, cap, cur, h1, _, _, tk, _⟩
   ·exact ⟨none, 0, by rw [h1, h2], by omega, fun _ => rfl⟩
   ·exact ⟨_, cap, h1, tk, (fun hh => by cases hh)⟩
  obtain ⟨base, cap, hex, tk, nZ⟩ := um
  refine key (a.eval x) w e1 ?_ (by rw [gp]; simpa using uG) ⟨rfl, rfl, rfl, Nat.le_refl _, fun _ _ _ => rfl⟩ (fun b hb => .inr hb)
  rw [o6, hex]
  exact K5 t o.type _ ti hu hi base uC.length cap tk nZ
 | some ad =>
  have uI : ∀ k v, ys[k]? = some v -> w.cell? (ad.add k) = some v := by
   intro k v hv
   have sD : 0 < n := by
    rcases Nat.eq_zero_or_pos n with h0 | h0
    ·have hk := (List.getElem?_eq_some_iff.1 hv).1
     rw [sC, h0] at hk
     simp at hk
    ·exact h0
   obtain ⟨b, rN, hh, sw⟩ := hb sD
   cases sw
   rcases la.2 with ⟨mZ, _⟩ | ⟨g, ou, cur, sf, _, mP, tk, sM, sY, se⟩
   ·rw [hh] at mZ; cases mZ
   ·rw [hh] at sf; cases sf
    rw [<- mc] at hv
    have h1 := J5 _ _ _ _ _ hv
    rw [ze]
    refine Jt mP _ _ ?_
    rw [<- se, List.getElem?_take] at h1
    split at h1
    ·exact h1
    ·cases h1
  have dJ : ∀ v ∈ ys, v.oneCell' = true := fun v hv => gZ v (by rw [<- mc] at hv; exact List.mem_of_mem_drop (List.mem_of_mem_take hv))
  obtain ⟨v', w', e2, uT, uV, tM, r9⟩ := xZ (P := P) (w := w) t o.type _ e1 ti z hu hi rK rn (by omega) (a.eval x) uC.length xs uG ad n cap ys sC uI dJ (by simp only [maxLen]; omega) tB
  refine key v' w' e2 ?_ uV tM r9
  rw [o6]; exact uT
end
def B7 (w : World) (res : List (List D)) (e : Ending) (w' : World) : Prop :=
 ∃ (vs : List Value) (uj : List (List Value)), e = .returned (V4 vs) /\ Below w.heap.size w w' /\ Zy Ku vs uj /\ Zy (fun (cs : List Value) (row : List D) => cs.length = row.length) uj res /\
  JG w' uj.flatten res.flatten (fun b => w.heap.size <= b /\ b < w'.heap.size)
def YP (P : Program) (f : FuncId) (args res : List (List D)) : Prop :=
 U5 P f = true /\ ∀ (T : CS) (w : World) (uu : List Value), (∀ b k, T b k -> b < w.heap.size) -> Zy (fun v row => ∃ cs, Ku v cs /\ Zy (Rd T w) cs row) uu args -> Calls P f uu.toArray w (B7 w res)
theorem yW {α β : Type} {R : α -> β -> Prop} : ∀ {uj : List (List α)} {res : List (List β)}, Zy (fun (cs : List α) (row : List β) => cs.length = row.length) uj res -> (∀ (k : Nat) (x : α) (d : β), uj.flatten[k]? = some x -> res.flatten[k]? = some d -> R x d) -> Zy (fun cs row => Zy R cs row) uj res := by
 intro uj res uF
 induction uF with
 | nil => intro _; exact .nil
 | @cons cs row uj res hl _ ih =>
  intro hk
  refine .cons (Zy.zo hl (fun k x d hx hd => hk k x d ?_ ?_)) (ih (fun k x d hx hd => hk (cs.length + k) x d ?_ ?_))
  ·rw [List.flatten_cons, List.getElem?_append_left (List.getElem?_eq_some_iff.1 hx).1]; exact hx
  ·rw [List.flatten_cons, List.getElem?_append_left (List.getElem?_eq_some_iff.1 hd).1]; exact hd
  ·rw [List.flatten_cons, List.getElem?_append_right (by omega)]; simpa using hx
  ·rw [List.flatten_cons, List.getElem?_append_right (by omega), hl]; simpa using hd
theorem YP.rd {P : Program} {f : FuncId} {args res : List (List D)} (hs : YP P f args res) : QB P f false args res := by
 refine ⟨hs.1, fun T w uu hT ha => (hs.2 T w uu hT ha).mono ?_⟩
 rintro e w' ⟨vs, uj, he, hb, hf, hl, ⟨_, Sk, h1, h2, h3⟩⟩
 refine ⟨vs, uj, fun b => w.heap.size <= b /\ b < w'.heap.size, he, hb, fun b hb => hb, hf, yW hl (fun k x d hx hd => ?_), fun hh => by cases hh⟩
 simp only [yO, Bool.false_eq_true, if_false]
 exact (h1 k x d hx hd).rd (fun b k' hb => .inr (h2 k b hb))
def Yc : List Bool -> List D -> List Ob
 | _, [] => []
 | q :: qs, .sl size rows :: ds => .arr q size rows :: Yc qs ds
 | [], .sl size rows :: ds => .arr true size rows :: Yc [] ds
 | qs, _ :: ds => .none :: Yc qs.tail ds
def xk : List Bool -> List D -> Prop
 | _, [] => True
 | q :: qs, .sl _ rows :: ds => (q = false -> ∀ r ∈ rows, ∀ x ∈ r, x.scalar = true) /\ xk qs ds
 | [], .sl _ _ :: ds => xk [] ds
 | qs, _ :: ds => xk qs.tail ds
theorem XH : ∀ (qs : List Bool) (ds : List D) (k : Nat), xk qs ds -> (∀ size rows, ds[k]? = some (.sl size rows) -> ∃ q, YS (Yc qs ds) k = .arr q size rows /\ (q = false -> ∀ r ∈ rows, ∀ x ∈ r, x.scalar = true)) /\ (YS (Yc qs ds) k ≠ .none -> ∃ size rows, ds[k]? = some (.sl size rows))
 | qs, [], k, _ => ⟨fun size rows h => by simp at h, fun h => by cases qs <;> simp [Yc, YS] at h⟩
 | q :: qs, .sl size rows :: ds, 0, hf => ⟨fun s r h => by simp at h; obtain ⟨rfl, rfl⟩ := h; exact ⟨q, by simp [Yc, YS], hf.1⟩, fun _ => ⟨size, rows, by simp⟩⟩
 | [], .sl size rows :: ds, 0, hf => ⟨fun s r h => by simp at h; obtain ⟨rfl, rfl⟩ := h; exact ⟨true, by simp [Yc, YS], fun h => by cases h⟩, fun _ => ⟨size, rows, by simp⟩⟩
 | qs, .int k n :: ds, 0, hf => ⟨fun s r h => by simp at h, fun h => by cases qs <;> simp [Yc, YS] at h⟩
 | qs, .bool b :: ds, 0, hf => ⟨fun s r h => by simp at h, fun h => by cases qs <;> simp [Yc, YS] at h⟩
 | qs, .str s :: ds, 0, hf => ⟨fun s r h => by simp at h, fun h => by cases qs <;> simp [Yc, YS] at h⟩
 | qs, .unk :: ds, 0, hf => ⟨fun s r h => by simp at h, fun h => by cases qs <;> simp [Yc, YS] at h⟩
 | q :: qs, .sl size rows :: ds, k + 1, hf => by
  have := XH qs ds k hf.2
  simpa [Yc, YS] using this
 | [], .sl size rows :: ds, k + 1, hf => by
  have := XH [] ds k hf
  simpa [Yc, YS] using this
 | qs, .int _ _ :: ds, k + 1, hf => by
  have := XH qs.tail ds k (by cases qs <;> exact hf)
  cases qs <;> simpa [Yc, YS] using this
 | qs, .bool _ :: ds, k + 1, hf => by
  have := XH qs.tail ds k (by cases qs <;> exact hf)
  cases qs <;> simpa [Yc, YS] using this
 | qs, .str _ :: ds, k + 1, hf => by
  have := XH qs.tail ds k (by cases qs <;> exact hf)
  cases qs <;> simpa [Yc, YS] using this
 | qs, .unk :: ds, k + 1, hf => by
  have := XH qs.tail ds k (by cases qs <;> exact hf)
  cases qs <;> simpa [Yc, YS] using this
section
variable {P : Program} {T0 : CS} {B : Nat -> Prop} {σ : St} {a : Act} {w w' : World} {X X' : Nat -> Prop} {h : Nat -> Nat -> Hd}
theorem Hz (r : Rel T0 B σ a w X h) {o : Oper} {c : Call} {f : FuncId} {d : Nat} {rows res : List (List D)} (qs : List Bool) (uA : o.op = .call c) (hc : c.callee = .value (.func f)) (hd : o.dst = some d) (tE : σ.fresh d = true)
  (uH : QC P σ c.args.toList c.argTypes.toList rows) (hs : YP P f rows res) (hq : xk qs res.flatten)
  {K : Act -> World -> Prop} {Q : Exit -> Act -> World -> Prop} (hK : ∀ a' w', JZ T0 B (σ.new d (xL d res) (Yc qs res.flatten)) a' w' -> Y9 B w w' -> K a' w') : o.wp P a w K Q := by
 have uL := St.KJ tE
 unfold Oper.wp
 rw [jr uA hc hs.1, Oper.upon_enter]
 have nA := r.QC false uH (fun hh => by cases hh)
 simp only [Bool.false_eq_true, if_false] at nA
 refine (hs.2 (T4 T0 X h σ) w _ (fun b k hb => r.IE hb) nA).mono ?_
 rintro e w' ⟨vs, uj, rfl, tv, um, hlen, ⟨_, Sk, h1, h2, h3⟩⟩
 rw [hd]
 have hex : ∀ j, ∃ hd : Hd, (∀ c, uj.flatten[j]? = some c -> hd.v = c) /\ (∀ size rows, res.flatten[j]? = some (.sl size rows) -> (∀ b, hd.u b -> Sk j b) /\ (∀ b, blk hd.v = some b -> hd.u b) /\ ∀ T h ob, JA T h ob w' hd (.arr true size rows) /\ ((∀ r ∈ rows, ∀ x ∈ r, x.scalar = true) -> JA T h ob w' hd (.arr false size rows))) := by
  intro j
  have tg : uj.flatten.length = res.flatten.length := by
   have := yW (R := fun _ _ => True) hlen (fun _ _ _ _ _ => trivial)
   exact (yD this).length
  cases hj : res.flatten[j]? with
  | none => exact ⟨Hd.of ((uj.flatten[j]?).getD undef), fun c ux => by simp [Hd.of, ux], fun size rows hh => by cases hh⟩
  | some dd =>
   have pw : j < uj.flatten.length := by rw [tg]; exact (List.getElem?_eq_some_iff.1 hj).1
   have oO : uj.flatten[j]? = some uj.flatten[j] := List.getElem?_eq_getElem pw
   cases dd with
   | int k n => exact ⟨Hd.of uj.flatten[j], fun c ux => by rw [oO] at ux; cases ux; rfl, fun size rows hh => by cases hh⟩
   | bool k => exact ⟨Hd.of uj.flatten[j], fun c ux => by rw [oO] at ux; cases ux; rfl, fun size rows hh => by cases hh⟩
   | str k => exact ⟨Hd.of uj.flatten[j], fun c ux => by rw [oO] at ux; cases ux; rfl, fun size rows hh => by cases hh⟩
   | unk => exact ⟨Hd.of uj.flatten[j], fun c ux => by rw [oO] at ux; cases ux; rfl, fun size rows hh => by cases hh⟩
   | sl size rows =>
    have ho := h1 j _ _ oO hj
    generalize hv : uj.flatten[j] = v at ho
    cases ho with
    | sl v size rows S e xs nU ho hz hb hl hk ng uM =>
     refine ⟨⟨v, fun k => (xs[k]?).getD undef, Sk j⟩, fun c ux => by rw [oO, hv] at ux; cases ux; rfl, fun uh uQ hh => ?_⟩
     cases hh
     refine ⟨fun b hb => hb, hb, fun T h ob => ⟨⟨e, xs, ho, hz, ⟨hl, nU, hk, fun k b hb => ng k b hb, uM⟩, fun k x d hx _ _ => by simp [hx]⟩, fun tn => ⟨e, xs, ho, hz, Zy.zo hl (fun k x d hx hd => ?_)⟩⟩⟩
     obtain ⟨r0, rO, hdr⟩ := List.mem_flatten.1 (List.mem_of_getElem? hd)
     have tJ := tn r0 rO d hdr
     have := hk k x d hx hd
     cases this with
     | int k n => exact .int _ _
     | bool b => exact .bool _
     | str s => exact .str _
     | unk v h => exact .unk _ h
     | sl => cases tJ
 obtain ⟨hf, oU⟩ := Classical.axiomOfChoice hex
 refine hK _ _ ⟨X, fun t j => if t = d then hf j else h t j, ?_⟩ (Y9.SL tv r.hB)
 have uX : ∀ j, (σ.new d (xL d res) (Yc qs res.flatten)).ob d j = YS (Yc qs res.flatten) j := fun j => by rw [St.Qu]; simp [uL]
 have sK : Zy (fun cs row => Zy (qV (Tof T0 X) w') cs row) uj res := by
  refine yW hlen (fun k x d hx hd => ?_)
  have ho := h1 k x d hx hd
  cases ho with
  | int k n => exact Rd.int _ _
  | bool b => exact Rd.bool _
  | str s => exact Rd.str _
  | unk v h => exact Rd.unk _ h
  | sl v size rows S e xs nU ho hz hb hl hk ng uM => exact ⟨e, xs, ho⟩
 refine r.new tE (Below.grownBy tv) (fun b hb => hb) (fun b hb => .inl hb) (xL d res) (V4 vs) (Yc qs res.flatten) hf ?_ (fun j => ?_) (fun j b uD hb => ?_) (fun j b uD hb => ?_) (fun j j' b uD uw hb uS => ?_)
 ·exact Nt (h := fun t j => if t = d then hf j else h t j) (ob := (σ.new d (xL d res) (Yc qs res.flatten)).ob) (t := d) um sK (fun i size rows hi => by
   obtain ⟨q, pJ, _⟩ := (XH qs res.flatten i hq).1 size rows hi
   exact ⟨q, by rw [uX]; exact pJ⟩) (fun i c hi => by simp only [if_true]; exact (oU i).1 c hi)
 ·by_cases uD : YS (Yc qs res.flatten) j = .none
  ·rw [uD]; trivial
  ·obtain ⟨size, rows, hj⟩ := (XH qs res.flatten j hq).2 uD
   obtain ⟨q, pJ, ga⟩ := (XH qs res.flatten j hq).1 size rows hj
   rw [pJ]
   have := ((oU j).2 size rows hj).2.2 (Tof T0 X) (fun t j => if t = d then hf j else h t j) (σ.new d (xL d res) (Yc qs res.flatten)).ob
   cases q with
   | true => exact this.1
   | false => exact this.2 (ga rfl)
 ·obtain ⟨size, rows, hj⟩ := (XH qs res.flatten j hq).2 uD
  exact ((oU j).2 size rows hj).2.1 b hb
 ·obtain ⟨size, rows, hj⟩ := (XH qs res.flatten j hq).2 uD
  have := h2 j b (((oU j).2 size rows hj).1 b hb)
  exact ⟨this.1, fun hx => by have := (r.hX b hx).2; omega, this.2⟩
 ·obtain ⟨size, rows, hj⟩ := (XH qs res.flatten j hq).2 uD
  obtain ⟨uh, uQ, rP⟩ := (XH qs res.flatten j' hq).2 uw
  exact h3 j j' b (((oU j).2 size rows hj).1 b hb) (((oU j').2 uh uQ rP).1 b uS)
end
end Go.Vm
