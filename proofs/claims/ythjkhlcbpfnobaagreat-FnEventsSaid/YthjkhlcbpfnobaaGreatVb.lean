/- An abstract machine NL the model of Go, by value, and that it is sound: part Vb. No condition. -/
import Derived.Test.YthjkhlcbpfnobaaGreatVa
set_option linter.unusedVariables false
set_option linter.unusedSimpArgs false
namespace Go.Vm
open Go.RowKit
section
variable {P : Program} {T0 : CS} {B : Nat -> Prop} {σ : St} {a : Act} {w w' : World} {X X' : Nat -> Prop} {h : Nat -> Nat -> Hd}
theorem YH.Cv {T T' : CS} {h h' : Nat -> Nat -> Hd} {ob sI : Nat -> Nat -> Ob} (hT : ∀ b k v, T b k -> w.cell? ⟨b, k, none⟩ = some v -> w'.cell? ⟨b, k, none⟩ = some v /\ T' b k) (hc : ∀ t j, Cpt h h' ob sI t j)
  {x : At} {v : Value} (r : YH T h ob w x v) : YH T' h' sI w' x v := by
 obtain ⟨d, hd⟩ : ∃ d, x.ref d = false := by
  cases x with
  | sref t j lo len => exact ⟨t + 1, by simp [At.ref]⟩
  | ptr t j i c => exact ⟨t + 1, by simp [At.ref]⟩
  | bptr t c => exact ⟨t + 1, by simp [At.ref]⟩
  | fn f t => exact ⟨t + 1, by simp [At.ref]⟩
  | tref t j i c o => exact ⟨t + 1, by simp [At.ref]⟩
  | any => exact ⟨0, rfl⟩
  | d x => exact ⟨0, rfl⟩
  | nil s => exact ⟨0, rfl⟩
  | rptr r c => exact ⟨0, rfl⟩
 exact YH.carry hT (d := d) (fun t j _ => hc t j) hd r
def Wu (p : At -> Bool) : List At -> Bool
 | [] => false
 | x :: xs => p x || Wu p xs
def V.Gv (p : At -> Bool) : V -> Bool
 | .one x => p x
 | .agg xs => Wu p xs
 | _ => false
def Il (p : At -> Bool) : List V -> Bool
 | [] => false
 | x :: xs => x.Gv p || Il p xs
def V.zb (p : At -> Bool) : V -> Bool
 | .tup xs => Il p xs
 | .cnd _ x => x.Gv p
 | .fix _ x => x.Gv p
 | .one x => p x
 | .agg xs => Wu p xs
 | .any => false
def za (p : At -> Bool) : List Ob -> Bool
 | [] => false
 | .box cells :: os => Wu p cells || za p os
 | .lit _ rows :: os => Wu p rows.flatten || za p os
 | _ :: os => za p os
def St.zb (p : At -> Bool) : St -> Bool
 | [] => false
 | e :: σ => e.1.zb p || za p e.2 || St.zb p σ
def At.isT (t : Nat) : At -> Bool
 | .tref u _ _ _ _ => u == t
 | _ => false
theorem xk : ∀ (xs : List At), Wu (fun _ => false) xs = false
 | [] => rfl
 | _ :: xs => by simp [Wu, xk xs]
theorem OM : ∀ (xs : List V), Il (fun _ => false) xs = false
 | [] => rfl
 | x :: xs => by cases x <;> simp [Il, V.Gv, xk, OM xs]
theorem EJ (x : V) : x.Gv (fun _ => false) = false := by cases x <;> simp [V.Gv, xk]
theorem zm (x : V) : x.zb (fun _ => false) = false := by cases x <;> simp [V.zb, xk, OM, EJ]
theorem js : ∀ (os : List Ob), za (fun _ => false) os = false
 | [] => rfl
 | o :: os => by cases o <;> simp [za, xk, js os]
theorem St.zm : ∀ (σ : St), St.zb (fun _ => false) σ = false
 | [] => rfl
 | e :: σ => by simp [St.zb, Go.Vm.zm, Go.Vm.js, St.zm σ]
theorem St.N2 {p : At -> Bool} : ∀ {σ : St}, σ.zb p = false -> ∀ t, (σ.get t).zb p = false
 | [], _, t => by simp [St.get, V.zb]
 | e :: σ, h, 0 => by simp only [St.zb, Bool.or_eq_false_iff] at h; exact h.1.1
 | e :: σ, h, t + 1 => by
  simp only [St.zb, Bool.or_eq_false_iff] at h
  have := St.N2 h.2 t
  simpa [St.get] using this
theorem HH {p : At -> Bool} : ∀ {os : List Ob}, za p os = false -> ∀ j, za p [YU os j] = false
 | [], _, j => by simp [YU, za]
 | o :: os, h, 0 => by cases o <;> simp_all [YU, za]
 | o :: os, h, j + 1 => by
  have h2 : za p os = false := by cases o <;> simp_all [za]
  have := HH h2 j
  simpa [YU] using this
theorem St.H3 {p : At -> Bool} : ∀ {σ : St}, σ.zb p = false -> ∀ t j, za p [σ.ob t j] = false
 | [], _, t, j => by simp [St.ob, za]
 | e :: σ, h, 0, j => by simp only [St.zb, Bool.or_eq_false_iff] at h; exact HH h.1.2 j
 | e :: σ, h, t + 1, j => by
  simp only [St.zb, Bool.or_eq_false_iff] at h
  have := St.H3 h.2 t j
  simpa [St.ob] using this
theorem Nq {T T' : CS} {h h' : Nat -> Nat -> Hd} {ob sI : Nat -> Nat -> Ob} {p : At -> Bool} (f : ∀ {x : At} {v : Value}, p x = false -> YH T h ob w x v -> YH T' h' sI w' x v) {xs : List At} {vs : List Value} (hx : Wu p xs = false)
  (r : Z5 (YH T h ob w) xs vs) : Z5 (YH T' h' sI w') xs vs := by
 induction r with
 | nil => exact .nil
 | cons r _ ih =>
  simp only [Wu, Bool.or_eq_false_iff] at hx
  exact .cons (f hx.1 r) (ih hx.2)
theorem Jn.map {T T' : CS} {h h' : Nat -> Nat -> Hd} {ob sI : Nat -> Nat -> Ob} {p : At -> Bool} (f : ∀ {x : At} {v : Value}, p x = false -> YH T h ob w x v -> YH T' h' sI w' x v) {x : V} {v : Value} (hx : x.Gv p = false)
  (r : Jn T h ob w x v) : Jn T' h' sI w' x v := by
 cases x with
 | any => exact r
 | one x => exact f hx r
 | agg xs => obtain ⟨cs, e, r⟩ := r; exact ⟨cs, e, Nq f hx r⟩
 | tup xs => exact r.elim
 | cnd g x => exact r.elim
 | fix u x => exact r.elim
theorem QK.map {T T' : CS} {h h' : Nat -> Nat -> Hd} {ob sI : Nat -> Nat -> Ob} {p : At -> Bool} (f : ∀ {x : At} {v : Value}, p x = false -> YH T h ob w x v -> YH T' h' sI w' x v) {x : V} {v : Value} (hx : x.zb p = false)
  (r : QK T h ob w x v) : QK T' h' sI w' x v := by
 cases x with
 | any => exact r
 | one x => exact f hx r
 | agg xs => obtain ⟨cs, e, r⟩ := r; exact ⟨cs, e, Nq f hx r⟩
 | tup xs =>
  obtain ⟨vs, e, r⟩ := r
  refine ⟨vs, e, ?_⟩
  clear e
  generalize vs.toList = vl at r
  simp only [V.zb] at hx
  induction r with
  | nil => exact .nil
  | cons r _ ih =>
   simp only [Il, Bool.or_eq_false_iff] at hx
   exact .cons (Jn.map f hx.1 r) (ih hx.2)
 | cnd g x => exact ⟨fun hg => Jn.map f hx (r.1 hg), r.2⟩
 | fix u x => exact ⟨r.1, Jn.map f hx r.2⟩
theorem Qs.map {T T' : CS} {h h' : Nat -> Nat -> Hd} {ob sI : Nat -> Nat -> Ob} {p : At -> Bool} (f : ∀ {x : At} {v : Value}, p x = false -> YH T h ob w x v -> YH T' h' sI w' x v)
  (hT : ∀ b k v, T b k -> w.cell? ⟨b, k, none⟩ = some v -> w'.cell? ⟨b, k, none⟩ = some v /\ T' b k) {hd : Hd} {o : Ob}
  (th : o ≠ .none -> ∀ b, blk hd.v = some b -> hd.u b) (hb : o ≠ .none -> ∀ b, hd.u b -> w'.heap[b]? = w.heap[b]?) (hx : za p [o] = false) (r : Qs T h ob w hd o) : Qs T' h' sI w' hd o := by
 cases o with
 | none => trivial
 | box cells =>
  obtain ⟨b, cs, e, hv, hh, uJ⟩ := r
  simp only [za, Bool.or_false] at hx
  exact ⟨b, cs, e, hv, by rw [hb (by simp) b (th (by simp) b (by rw [hv]; rfl))]; exact hh, Nq f hx uJ⟩
 | arr q size rows =>
  have hk : ∀ {e : TypeId} {n : Nat} {xs : List Value}, w.ownsRow 0 e size hd.v n xs -> w'.ownsRow 0 e size hd.v n xs := fun ho => yd (fun b h => hb (by simp) b (th (by simp) b h)) ho
  cases q with
  | false =>
   obtain ⟨e, xs, ho, hz, uJ⟩ := r
   exact ⟨e, xs, hk ho, hz, uJ.imp fun _ _ => Rd.mono hT⟩
  | true =>
   obtain ⟨e, xs, ho, hz, uJ, hn⟩ := r
   exact ⟨e, xs, hk ho, hz, uJ.V2 (fun b h => hb (by simp) b h.1), hn⟩
 | lit size rows =>
  obtain ⟨e, xs, ho, hz, uJ⟩ := r
  simp only [za, Bool.or_false] at hx
  exact ⟨e, xs, yd (fun b h => hb (by simp) b (th (by simp) b h)) ho, hz, Nq f hx uJ⟩
def Ob.D2 : Ob -> Ob -> Prop
 | .arr q s r, .arr q' s' r' => q = q' /\ s = s' /\ r.length = r'.length
 | .lit s r, .lit s' r' => s = s' /\ r.length = r'.length
 | .box _, .box _ => True
 | _, _ => False
theorem Rel.change (r : Rel T0 B σ a w X h) {t j : Nat} (ua : σ.ob t j ≠ .none) (tM : w'.heap.size = w.heap.size) (hw : ∀ k, ¬ (h t j).u k -> w'.heap[k]? = w.heap[k]?) (M : Nat -> Prop)
  (hM : ∀ b, M b -> ¬ B b /\ ¬ X b /\ b < w.heap.size /\ ∀ u i, σ.ob u i ≠ .none -> ¬ (h u i).u b) (o' : Ob) (rG : (σ.ob t j).D2 o') (uU : Hd) (hv : uU.v = (h t j).v) (hu : ∀ b, uU.u b -> (h t j).u b \/ M b) (th : ∀ b, blk uU.v = some b -> uU.u b)
  (p : At -> Bool) (hp : σ.zb p = false) (hn : (∀ u i c o, p (.tref t u i c o) = true) \/ uU.n = (h t j).n)
  (pU : Qs (Tof T0 X) (fun u i => if u = t /\ i = j then uU else h u i) (σ.Zs t j o').ob w' uU o') : Rel T0 B (σ.Zs t j o') a w' X (fun u i => if u = t /\ i = j then uU else h u i) := by
 have tW : ∀ u i, ¬ (u = t /\ i = j) -> (σ.Zs t j o').ob u i = σ.ob u i := by
  intro u i uH
  rw [St.XK σ t j o' u i ua, if_neg uH]
 have tP : (σ.Zs t j o').ob t j = o' := by rw [St.XK σ t j o' t j ua]; simp
 have hT : ∀ b k v, Tof T0 X b k -> w.cell? ⟨b, k, none⟩ = some v -> w'.cell? ⟨b, k, none⟩ = some v /\ Tof T0 X b k := by
  intro b' k v uP uM
  refine ⟨?_, uP⟩
  have uH : ¬ (h t j).u b' := by
   intro sJ
   have uK := r.own t j b' ua sJ
   rcases uP with uP | uP
   ·exact uK.1 (r.hT _ _ uP)
   ·exact uK.2.1 uP
  rw [World.cell?_of_block (hw b' uH)]; exact uM
 have hC : ∀ u i, ((fun u i => if u = t /\ i = j then uU else h u i) u i).v = (h u i).v := by
  intro u i
  by_cases hc : u = t /\ i = j
  ·simp only [hc, and_self, if_true]; exact hv
  ·simp only [hc, if_false]
 have m7 : ∀ u i q size rows, (σ.Zs t j o').ob u i = .arr q size rows -> ∃ uX, σ.ob u i = .arr q size uX /\ uX.length = rows.length := by
  intro u i q size rows ho
  by_cases hc : u = t /\ i = j
  ·obtain ⟨rfl, rfl⟩ := hc
   rw [tP] at ho; subst ho
   cases tQ : σ.ob u i with
   | arr q0 s0 r0 => rw [tQ] at rG; obtain ⟨rfl, rfl, hl⟩ := rG; exact ⟨r0, rfl, hl⟩
   | none => rw [tQ] at rG; exact rG.elim
   | box c => rw [tQ] at rG; exact rG.elim
   | lit s r => rw [tQ] at rG; exact rG.elim
  ·rw [tW u i hc] at ho; exact ⟨rows, ho, rfl⟩
 have cW : ∀ u i size rows, (σ.Zs t j o').ob u i = .lit size rows -> ∃ uX, σ.ob u i = .lit size uX /\ uX.length = rows.length := by
  intro u i size rows ho
  by_cases hc : u = t /\ i = j
  ·obtain ⟨rfl, rfl⟩ := hc
   rw [tP] at ho; subst ho
   cases tQ : σ.ob u i with
   | arr q0 s0 r0 => rw [tQ] at rG; exact rG.elim
   | none => rw [tQ] at rG; exact rG.elim
   | box c => rw [tQ] at rG; exact rG.elim
   | lit s r => rw [tQ] at rG; obtain ⟨rfl, hl⟩ := rG; exact ⟨r, rfl, hl⟩
  ·rw [tW u i hc] at ho; exact ⟨rows, ho, rfl⟩
 have n8 : ∀ u i cells, (σ.Zs t j o').ob u i = .box cells -> ∃ tc, σ.ob u i = .box tc := by
  intro u i cells ho
  by_cases hc : u = t /\ i = j
  ·obtain ⟨rfl, rfl⟩ := hc
   rw [tP] at ho; subst ho
   cases tQ : σ.ob u i with
   | arr q0 s0 r0 => rw [tQ] at rG; exact rG.elim
   | none => rw [tQ] at rG; exact rG.elim
   | box c => exact ⟨c, rfl⟩
   | lit s r => rw [tQ] at rG; exact rG.elim
  ·rw [tW u i hc] at ho; exact ⟨cells, ho⟩
 have at_ : ∀ {x : At} {v : Value}, p x = false -> YH (Tof T0 X) h σ.ob w x v -> YH (Tof T0 X) (fun u i => if u = t /\ i = j then uU else h u i) (σ.Zs t j o').ob w' x v := by
  intro x v im rx
  cases x with
  | any => exact rx
  | d x => exact Rd.mono hT rx
  | nil s => exact rx
  | sref u i lo len =>
   refine ⟨rx.1, fun q size rows ho => ?_, fun size rows ho => ?_⟩
   ·obtain ⟨uX, tQ, hl⟩ := m7 u i q size rows ho
    rw [hC, <- hl]; exact rx.2.1 q size uX tQ
   ·obtain ⟨uX, tQ, hl⟩ := cW u i size rows ho
    rw [hC, <- hl]; exact rx.2.2 size uX tQ
  | ptr u i k c =>
   refine ⟨rx.1, fun q size rows ho => ?_⟩
   obtain ⟨uX, tQ, hl⟩ := m7 u i q size rows ho
   rw [hC]; exact rx.2 q size uX tQ
  | bptr u c =>
   refine ⟨rx.1, fun cells ho => ?_⟩
   obtain ⟨tc, tQ⟩ := n8 u 0 cells ho
   rw [hC]; exact rx.2 tc tQ
  | fn f u =>
   refine ⟨rx.1, fun cells ho => ?_⟩
   obtain ⟨tc, tQ⟩ := n8 u 0 cells ho
   rw [hC]; exact rx.2 tc tQ
  | tref u i k c o =>
   refine ⟨rx.1, fun size rows ho => ?_⟩
   obtain ⟨uX, tQ, hl⟩ := m7 u i true size rows ho
   have h1 := rx.2 size uX tQ
   by_cases hc : u = t /\ i = j
   ·obtain ⟨rfl, rfl⟩ := hc
    rcases hn with hn | hn
    ·rw [hn] at im; cases im
    ·simp only [and_self, if_true, hn]; exact h1
   ·simp only [hc, if_false]; exact h1
  | rptr rr c =>
   obtain ⟨b, off, g, e, hk⟩ := rx
   exact ⟨b, off, g, e, fun k d hd => ⟨(hT _ _ _ (hk k d hd).2.1 (hk k d hd).1).1, (hk k d hd).2.1, Rd.mono hT (hk k d hd).2.2⟩⟩
 have tX : ∀ u i, (σ.Zs t j o').ob u i ≠ .none -> σ.ob u i ≠ .none := by
  intro u i tE
  by_cases sJ : u = t /\ i = j
  ·obtain ⟨rfl, rfl⟩ := sJ; exact ua
  ·rw [tW u i sJ] at tE; exact tE
 refine ⟨by rw [r.size, St.Y0], r.defers, by rw [tM]; exact r.hB, fun b hb => by rw [tM]; exact r.hX b hb, r.hT, fun u sJ => ?_, fun u i => ?_, fun u i b' uH uP => ?_, fun u i b' uH uP => ?_, fun u i u' i' b' uH ux tf tA => ?_⟩
 ·rw [St.Y0] at sJ
  rw [St.Xj]; exact QK.map at_ (St.N2 hp u) (r.slot u sJ)
 ·by_cases hc : u = t /\ i = j
  ·obtain ⟨rfl, rfl⟩ := hc; rw [tP]; simp only [and_self, if_true]; exact pU
  ·rw [tW u i hc]
   simp only [hc, if_false]
   exact Qs.map at_ hT (fun ho b => r.ub u i b ho) (fun ho b hb => hw b (fun gw => hc (r.inj u i t j b ho ua hb gw))) (St.H3 hp u i) (r.obj u i)
 ·by_cases hc : u = t /\ i = j
  ·simp only [hc, and_self, if_true] at uP ⊢; exact th b' uP
  ·simp only [hc, if_false] at uP ⊢; exact r.ub u i b' (tX u i uH) uP
 ·rw [tM]
  by_cases hc : u = t /\ i = j
  ·simp only [hc, and_self, if_true] at uP
   rcases hu b' uP with h1 | h1
   ·exact r.own t j b' ua h1
   ·have := hM b' h1; exact ⟨this.1, this.2.1, this.2.2.1⟩
  ·simp only [hc, if_false] at uP; exact r.own u i b' (tX u i uH) uP
 ·by_cases hc : u = t /\ i = j
  ·by_cases tB : u' = t /\ i' = j
   ·exact ⟨by rw [hc.1, tB.1], by rw [hc.2, tB.2]⟩
   ·simp only [hc, and_self, if_true] at tf
    simp only [tB, if_false] at tA
    rcases hu b' tf with h1 | h1
    ·have := r.inj t j u' i' b' ua (tX u' i' ux) h1 tA
     rw [hc.1, hc.2]; exact this
    ·exact absurd tA ((hM b' h1).2.2.2 u' i' (tX u' i' ux))
  ·by_cases tB : u' = t /\ i' = j
   ·simp only [tB, and_self, if_true] at tA
    simp only [hc, if_false] at tf
    rcases hu b' tA with h1 | h1
    ·have := r.inj u i t j b' (tX u i uH) ua tf h1
     rw [tB.1, tB.2]; exact this
    ·exact absurd tf ((hM b' h1).2.2.2 u i (tX u i uH))
   ·simp only [hc, if_false] at tf
    simp only [tB, if_false] at tA
    exact r.inj u i u' i' b' (tX u i uH) (tX u' i' ux) tf tA
theorem Rel.E3 (r : Rel T0 B σ a w X h) {t j : Nat} (ua : σ.ob t j ≠ .none) (tM : w'.heap.size = w.heap.size) (hw : ∀ k, ¬ (h t j).u k -> w'.heap[k]? = w.heap[k]?)
  (o' : Ob) (rG : (σ.ob t j).D2 o') (pU : Qs (Tof T0 X) h (σ.Zs t j o').ob w' (h t j) o') : Rel T0 B (σ.Zs t j o') a w' X h := by
 have hh : (fun u i => if u = t /\ i = j then h t j else h u i) = h := by
  funext u i
  by_cases hc : u = t /\ i = j
  ·simp [hc]
  ·simp [hc]
 have := r.change ua tM hw (fun _ => False) (fun _ hh => hh.elim) o' rG (h t j) rfl (fun b hb => .inl hb) (fun b hb => r.ub t j b ua hb) (fun _ => false) (St.zm σ) (.inr rfl) (by rw [hh]; exact pU)
 rw [hh] at this; exact this
theorem run_store {T : TypeId} {ti : TypeInfo} (hi : P.info? T = some ti) {g o : Nat} {e : TypeId} {cur : Array Value} {val : Value} (hg : w.heap[g]? = some (.cells cur e (0, 0))) (tM : val.cells.size = P.cellsOf T) (hle : o + P.cellsOf T <= cur.size) (h1 : ∀ u ∈ val.cells.toList, u.oneCell' = true) :
  (Instr.storeAt T (.pointer (some ⟨g, o, none⟩)) val).run P w = .ok () (w.setRow g (place cur.toList o val.cells.toList).toArray) := by
 have uk := run_storeCells_at P g o e val.cells.toList 0 cur w hg (by simp; omega) h1
 have uH : ¬ val.cells.size ≠ P.cellsOf T := by omega
 simp only [Instr.storeAt, Instr.sureAddr, storeVar, Sem.run_bind, Sem.run_pure, Result.andThen_ok, JG hi, if_neg uH]
 rw [uk]
 simp [place]
theorem Yr.setRow {B : Nat -> Prop} {g : Nat} (hg : ¬ B g) (cs : Array Value) : Yr B w (w.setRow g cs) :=
 ⟨rfl, rfl, rfl, by simp [World.setRow], fun k hk => setRow_other w g k cs (fun e => hg (e ▸ hk))⟩
theorem LG (r : Rel T0 B σ a w X h) {o : Oper} {T : TypeId} {x y : Operand} (uE : o.op = .store T x y) (hd : o.dst = none) (ht : yW P T = true) (ry : gOf (look P σ 0 x) = true) (rz : gOf (look P σ T y) = true)
  {t c : Nat} (hx : unc (look P σ 0 x) = .one (.bptr t c)) {cells : List At} (ho : σ.ob t 0 = .box cells) (tb : (unc (look P σ T y)).flat = true) (hl : (unc (look P σ T y)).cells.length = P.cellsOf T) (hle : c + P.cellsOf T <= cells.length)
  {K : Act -> World -> Prop} {Q : Exit -> Act -> World -> Prop} (hK : ∀ a' w', Q0 T0 B (σ.Zs t 0 (.box (place cells c (unc (look P σ T y)).cells))) a' w' -> Yr B w w' -> K a' w') : o.wp P a w K Q := by
 obtain ⟨_, ti, _, hi, _, _⟩ := qQ ht
 have lG := r.arg (P := P) 0 x hx ry
 obtain ⟨b, cs, e, hb, he, hh, uJ⟩ := r.box ho lG
 have hy := jV tb (r.arg (P := P) T y rfl rz)
 have sE := hy.length
 have uu := uJ.length
 have e1 : cs.toList.length = cs.size := Array.length_toList
 have e2 : (a.eval y).cells.toList.length = (a.eval y).cells.size := Array.length_toList
 have uY := run_store (P := P) (w := w) hi (o := c) (val := a.eval y) hh (by omega) (by omega) (fun u hu => by obtain ⟨x', _, pH⟩ := hy.mem hu; exact YH.Xc pH)
 have ua : σ.ob t 0 ≠ .none := by rw [ho]; simp
 have uo : blk (h t 0).v = some b := by rw [hb]; rfl
 have hB := r.AX ua uo
 have th := r.ub t 0 b ua uo
 unfold Oper.wp
 simp only [execOp, uE, he, Sem.run_bind, uY, Result.andThen_ok, Sem.run_pure, Oper.upon_skip, hd]
 refine hK _ _ ⟨X, h, ?_⟩ (Yr.setRow hB.1 _)
 have te := setRow_heap w b cs (place cs.toList c (a.eval y).cells.toList).toArray e (0, 0) hh
 refine r.E3 ua (by simp [World.setRow]) (fun k hk => setRow_other w b k _ (fun e => hk (e ▸ th))) _ (by rw [ho]; trivial) ?_
 have r2 : Rel T0 B (σ.Zs t 0 (.box (place cells c (unc (look P σ T y)).cells))) a (w.setRow b (place cs.toList c (a.eval y).cells.toList).toArray) X h -> True := fun _ => trivial
 have hT : ∀ b' k v, Tof T0 X b' k -> w.cell? ⟨b', k, none⟩ = some v -> (w.setRow b (place cs.toList c (a.eval y).cells.toList).toArray).cell? ⟨b', k, none⟩ = some v /\ Tof T0 X b' k := by
  intro b' k v uP uM
  refine ⟨?_, uP⟩
  have uH : b' ≠ b := by
   rintro rfl
   rcases uP with uP | uP
   ·exact hB.1 (r.hT _ _ uP)
   ·exact hB.2.1 uP
  rw [World.cell?_of_block (setRow_other w b b' _ uH)]; exact uM
 have tW : ∀ u i, ¬ (u = t /\ i = 0) -> (σ.Zs t 0 (.box (place cells c (unc (look P σ T y)).cells))).ob u i = σ.ob u i := by
  intro u i uH
  rw [St.XK σ t 0 _ u i ua, if_neg uH]
 have tP : (σ.Zs t 0 (.box (place cells c (unc (look P σ T y)).cells))).ob t 0 = .box (place cells c (unc (look P σ T y)).cells) := by rw [St.XK σ t 0 _ t 0 ua]; simp
 have fa : ∀ u i, Cpt h h σ.ob (σ.Zs t 0 (.box (place cells c (unc (look P σ T y)).cells))).ob u i := by
  intro u i
  by_cases hu : u = t /\ i = 0
  ·obtain ⟨rfl, rfl⟩ := hu
   refine ⟨fun q size rows uc => ?_, fun size rows uc => ?_, fun uN uc => ⟨rfl, cells, ho⟩⟩
   ·rw [tP] at uc; cases uc
   ·rw [tP] at uc; cases uc
  ·exact Cpt.same rfl (tW u i hu)
 have at_ : ∀ {x : At} {v : Value}, YH (Tof T0 X) h σ.ob w x v -> YH (Tof T0 X) h (σ.Zs t 0 (.box (place cells c (unc (look P σ T y)).cells))).ob (w.setRow b (place cs.toList c (a.eval y).cells.toList).toArray) x v := fun rx => YH.Cv hT fa rx
 refine ⟨b, _, e, hb, te, ?_⟩
 have := (uJ.place c hy).imp (fun _ _ => at_)
 simpa using this
end
end Go.Vm
namespace Go.Vm
open Go.RowKit
section
variable {P : Program} {T0 : CS} {B : Nat -> Prop} {σ : St} {a : Act} {w w' : World} {X X' : Nat -> Prop} {h : Nat -> Nat -> Hd}
theorem zS {α : Type} (size c : Nat) (ds : List α) (hc : c + ds.length <= size) : ∀ (rows : List (List α)) (i : Nat) (row : List α), rows[i]? = some row -> (∀ r ∈ rows, r.length = size) ->
  (rows.set i (place row c ds)).flatten = place rows.flatten (i * size + c) ds
 | [], i, row, hr, _ => by simp at hr
 | r0 :: rows, 0, row, hr, hz => by
  simp at hr; subst hr
  have h0 : r0.length = size := hz r0 (by simp)
  simp only [List.set_cons_zero, List.flatten_cons, place, Nat.zero_mul, Nat.zero_add]
  rw [List.take_append_of_le_length (by omega), List.drop_append_of_le_length (by omega)]
  simp
 | r0 :: rows, i + 1, row, hr, hz => by
  have h0 : r0.length = size := hz r0 (by simp)
  have ih := zS size c ds hc rows i row (by simpa using hr) (fun r hr => hz r (by simp [hr]))
  rw [List.set_cons_succ, List.flatten_cons, ih, List.flatten_cons]
  unfold place
  have e1 : (i + 1) * size + c = r0.length + (i * size + c) := by rw [h0, Nat.add_mul]; omega
  have e2 : (i + 1) * size + c + ds.length = r0.length + (i * size + c + ds.length) := by rw [h0, Nat.add_mul]; omega
  rw [e2, e1, List.take_length_add_append, List.drop_length_add_append]
  simp
theorem RH {α : Type} (l : List α) (n off : Nat) (xs : List α) (hl : off + xs.length <= n) (hn : n <= l.length) : (place l off xs).take n = place (l.take n) off xs := by
 unfold place
 rw [List.take_take, Nat.min_eq_left (by omega), List.drop_take]
 rw [List.take_append, List.take_append]
 simp only [List.length_append, List.length_take]
 rw [Nat.min_eq_left (by omega), List.take_of_length_le (l := List.take off l) (by simp; omega), List.take_of_length_le (l := xs) (by omega)]
theorem qd {α : Type} (l : List α) (o : Nat) (xs : List α) (hl : o + xs.length <= l.length) (k : Nat) (v : α) (hv : (place l o xs)[k]? = some v) :
  (o <= k /\ k < o + xs.length /\ xs[k - o]? = some v) \/ (¬ (o <= k /\ k < o + xs.length) /\ l[k]? = some v) := by
 unfold place at hv
 have h1 : (l.take o).length = o := by simp; omega
 rcases Nat.lt_or_ge k o with hk | hk
 ·rw [List.append_assoc, List.getElem?_append_left (by omega), List.getElem?_take, if_pos hk] at hv
  exact .inr ⟨by omega, hv⟩
 ·rw [List.append_assoc, List.getElem?_append_right (by omega), h1] at hv
  rcases Nat.lt_or_ge (k - o) xs.length with ou | ou
  ·rw [List.getElem?_append_left ou] at hv
   exact .inl ⟨hk, by omega, hv⟩
  ·rw [List.getElem?_append_right ou, List.getElem?_drop] at hv
   refine .inr ⟨by omega, ?_⟩
   rw [show o + xs.length + (k - o - xs.length) = k by omega] at hv; exact hv
theorem MC (r : Rel T0 B σ a w X h) {o : Oper} {T : TypeId} {x y : Operand} (uE : o.op = .store T x y) (hd : o.dst = none) (ht : yW P T = true) (ry : gOf (look P σ 0 x) = true) (rz : gOf (look P σ T y) = true)
  {t j i c : Nat} (hx : unc (look P σ 0 x) = .one (.ptr t j i c)) {q : Bool} {size : Nat} {rows : List (List D)} (ho : σ.ob t j = .arr q size rows) (hi : i < rows.length) {ds : List D} (tb : (unc (look P σ T y)).flat = true) (oC : rowOf σ (unc (look P σ T y)).cells = some ds) (uk : J1 (unc (look P σ T y)).cells = true)
  (hl : ds.length = P.cellsOf T) (hle : c + P.cellsOf T <= size) (hq : q = true -> (∀ d ∈ ds, d.scalar = true) /\ ∀ k d, k < P.cellsOf T -> (rows.getD i [])[c + k]? = some d -> d.scalar = true)
  {K : Act -> World -> Prop} {Q : Exit -> Act -> World -> Prop} (hK : ∀ a' w', Q0 T0 B (σ.Zs t j (.arr q size (rows.set i (place (rows.getD i []) c ds)))) a' w' -> Yr B w w' -> K a' w') : o.wp P a w K Q := by
 obtain ⟨_, ti, _, iq, _, _⟩ := qQ ht
 have lG := r.arg (P := P) 0 x hx ry
 obtain ⟨b, cap, cur, e, xs, hb, he, hh, tn, sV, sU, ss, hz, pW, uJ, uK⟩ := r.arr ho lG
 have hy := jV tb (r.arg (P := P) T y rfl rz)
 have mP := r.rowOf true oC hy (fun _ => uk)
 simp only [if_true] at mP
 have sE := mP.length
 have e2 : (a.eval y).cells.toList.length = (a.eval y).cells.size := Array.length_toList
 have e3 : cur.toList.length = cur.size := Array.length_toList
 have um : rows[i]? = some (rows.getD i []) := by simp [List.getD_eq_getElem?_getD, List.getElem?_eq_getElem hi]
 have hmul : i * size + size <= rows.length * size := by rw [<- Nat.succ_mul]; exact Nat.mul_le_mul_right _ hi
 have mQ : rows.length * size <= cap * size := Nat.mul_le_mul_right _ tn
 have uY := run_store (P := P) (w := w) iq (o := i * size + c) (val := a.eval y) hh (by omega) (by omega) (fun u hu => by obtain ⟨x', _, pH⟩ := hy.mem hu; exact YH.Xc pH)
 have ua : σ.ob t j ≠ .none := by rw [ho]; simp
 have uo : blk (h t j).v = some b := by rw [hb]; rfl
 have hB := r.AX ua uo
 have th := r.ub t j b ua uo
 unfold Oper.wp
 simp only [execOp, uE, he, Sem.run_bind, uY, Result.andThen_ok, Sem.run_pure, Oper.upon_skip, hd]
 refine hK _ _ ⟨X, h, ?_⟩ (Yr.setRow hB.1 _)
 refine r.E3 ua (by simp [World.setRow]) (fun k hk => setRow_other w b k _ (fun e => hk (e ▸ th))) _ (by rw [ho]; simp [Ob.D2]) ?_
 have te := setRow_heap w b cur (place cur.toList (i * size + c) (a.eval y).cells.toList).toArray e (0, 0) hh
 have hT : ∀ b' k v, Tof T0 X b' k -> w.cell? ⟨b', k, none⟩ = some v -> (w.setRow b (place cur.toList (i * size + c) (a.eval y).cells.toList).toArray).cell? ⟨b', k, none⟩ = some v /\ Tof T0 X b' k := by
  intro b' k v uP uM
  refine ⟨?_, uP⟩
  have uH : b' ≠ b := by
   rintro rfl
   rcases uP with uP | uP
   ·exact hB.1 (r.hT _ _ uP)
   ·exact hB.2.1 uP
  rw [World.cell?_of_block (setRow_other w b b' _ uH)]; exact uM
 have oR : xs.length = rows.length * size := by rw [pW, YI rows size hz]
 have pS : (rows.getD i []).length = size := hz _ (List.mem_of_getElem? um)
 have tG : (w.setRow b (place cur.toList (i * size + c) (a.eval y).cells.toList).toArray).ownsRow 0 e size (h t j).v (rows.set i (place (rows.getD i []) c ds)).length (place xs (i * size + c) (a.eval y).cells.toList) := by
  refine ⟨?_, .inr ⟨b, cap, _, by simpa using hb, Nat.zero_le _, te, by simpa using tn, sV, ?_, ?_⟩⟩
  ·rw [XU _ _ _ (by omega), oR]; simp
  ·simp only [List.size_toArray]
   rw [XU _ _ _ (by omega), e3, sU]
  ·simp only [List.length_set]
   rw [RH _ _ _ _ (by omega) (by omega), ss]
 have sv : ∀ r ∈ rows.set i (place (rows.getD i []) c ds), r.length = size := by
  intro r' tS
  rcases List.mem_or_eq_of_mem_set tS with tS | tS
  ·exact hz r' tS
  ·rw [tS, XU _ _ _ (by omega), pS]
 cases q with
 | false =>
  refine ⟨e, _, tG, sv, ?_⟩
  rw [zS size c ds (by omega) rows i _ um hz]
  exact ((uJ rfl).imp fun _ _ => Rd.mono hT).place _ (mP.imp fun _ _ => Rd.mono hT)
 | true =>
  obtain ⟨⟨_, Sk, h1, h2, h3⟩, hn⟩ := uK rfl
  obtain ⟨ee, bb⟩ := hq rfl
  have uM : ∀ k u, (place xs (i * size + c) (a.eval y).cells.toList)[k]? = some u -> (i * size + c <= k /\ k < i * size + c + ds.length /\ (a.eval y).cells.toList[k - (i * size + c)]? = some u) \/ (¬ (i * size + c <= k /\ k < i * size + c + ds.length) /\ xs[k]? = some u) := by
   intro k u hu
   exact qd xs _ _ (by omega) k u hu |>.imp (fun hh => ⟨hh.1, by omega, hh.2.2⟩) (fun hh => ⟨by rw [<- sE]; exact hh.1, hh.2⟩)
  have pz : ∀ k d, (rows.set i (place (rows.getD i []) c ds)).flatten[k]? = some d -> (i * size + c <= k /\ k < i * size + c + ds.length /\ ds[k - (i * size + c)]? = some d) \/ (¬ (i * size + c <= k /\ k < i * size + c + ds.length) /\ rows.flatten[k]? = some d) := by
   intro k d sP
   rw [zS size c ds (by omega) rows i _ um hz] at sP
   exact qd _ _ _ (by rw [YI rows size hz]; omega) k d sP
  refine ⟨e, _, tG, sv, ⟨?_, Sk, fun k u d hu sP => ?_, h2, h3⟩, fun k u d hu sP tL => ?_⟩
  ·rw [XU _ _ _ (by omega), pW, YI rows size hz, YI _ size sv]; simp
  ·rcases uM k u hu with ⟨p1, p2, p3⟩ | ⟨p1, p3⟩
   ·rcases pz k d sP with ⟨_, _, p4⟩ | ⟨p4, _⟩
    ·obtain ⟨d', uU, tS⟩ := mP.get _ _ p3
     rw [p4] at uU; cases uU
     have hs := ee d (List.mem_of_getElem? p4)
     cases tS with
     | int k n => exact .int _ _ _
     | bool b => exact .bool _ _
     | str s => exact .str _ _
     | unk v h => exact .unk _ h _
     | nil => simp [D.scalar] at hs
     | sl => simp [D.scalar] at hs
    ·exact absurd ⟨p1, p2⟩ p4
   ·rcases pz k d sP with ⟨p4, p5, _⟩ | ⟨_, p4⟩
    ·exact absurd ⟨p4, p5⟩ p1
    ·refine (h1 k u d p3 p4).V2 (fun b' uP => setRow_other w b b' _ ?_)
     rintro rfl
     exact (h2 k b' uP).2 uo
  ·rcases pz k d sP with ⟨p4, p5, p6⟩ | ⟨p4, p6⟩
   ·have := ee d (List.mem_of_getElem? p6)
    rw [tL] at this; cases this
   ·rcases uM k u hu with ⟨p1, p2, _⟩ | ⟨_, p3⟩
    ·exact absurd ⟨p1, p2⟩ p4
    ·exact hn k u d p3 p6 tL
end
end Go.Vm
namespace Go.Vm
open Go.RowKit
section
variable {P : Program} {T0 : CS} {B : Nat -> Prop} {σ : St} {a : Act} {w w' : World} {X X' : Nat -> Prop} {h : Nat -> Nat -> Hd}
theorem PX (t ty e e0 : TypeId) (i : TypeInfo) (ht : P.underlying t = some (.slice e)) (hi : P.info? e = some i)
  (g p7 m9 : Nat) (cur : Array Value) (hg : w.heap[g]? = some (.cells cur e0 (0, 0)))
  (a : Addr) (m c : Nat) (news : List Value) (hl : news.length = m * i.size) (tZ : ∀ j u, news[j]? = some u -> w.cell? (a.add j) = some u) (h1 : ∀ u ∈ news, u.oneCell' = true)
  (pV : p7 + m <= m9) (lA : p7 * i.size + news.length <= cur.size) :
  (Builtin.append_ #[t, t] ty #[.slice (some ⟨g, 0, none⟩) p7 m9, .slice (some a) m c]).run P w =
   .ok (.slice (some ⟨g, 0, none⟩) (p7 + m) m9) (w.setRow g (cur.toList.take (p7 * i.size) ++ news ++ cur.toList.drop (p7 * i.size + news.length)).toArray) := by
 have hf := run_firstCells_some (P := P) w i.size m a m c news hl tZ
 have uk := run_storeCells_at P g (p7 * i.size) e0 news 0 cur w hg (by simpa using lA) h1
 simp only [Nat.add_zero] at uk
 simp [Builtin.append_, run_underlying ht, sizeOf, typeInfo, hi, Builtin.lenOf, pV, hf, Addr.add_lit, uk]
theorem xd (t ty e e0 : TypeId) (i : TypeInfo) (z : Value) (ht : P.underlying t = some (.slice e)) (hi : P.info? e = some i) (hz : i.zero = some z)
  (pI : z.cells.size = i.size) (tM : 0 < i.size) (v : Value) (n : Nat) (xs : List Value) (uK : w.ownsRow 0 e0 i.size v n xs)
  (a : Addr) (m c : Nat) (news : List Value) (hl : news.length = m * i.size) (tZ : ∀ j u, news[j]? = some u -> w.cell? (a.add j) = some u) (h1 : ∀ u ∈ news, u.oneCell' = true)
  (fU : n + m <= maxLen) (tK : (n + m) * i.bytes <= 140737488355328) :
  ∃ v' w' e1, (Builtin.append_ #[t, t] ty #[v, .slice (some a) m c]).run P w = .ok v' w' /\ w'.ownsRow 0 e1 i.size v' (n + m) (xs ++ news) /\ w.grownBy w' (blk v) /\
   (∀ b, blk v' = some b -> (w.heap.size <= b /\ b < w'.heap.size) \/ blk v = some b) := by
 have hlen : (xs ++ news).length = (n + m) * i.size := by rw [List.length_append, uK.1, hl, Nat.add_mul]
 rcases uK.2 with ⟨rfl, rfl⟩ | ⟨g, cap, cur, rfl, _, hg, tz, nh, sU, iy⟩
 ·have hx : xs = [] := List.eq_nil_of_length_eq_zero (by simpa using uK.1)
  subst hx
  obtain ⟨v', w', hr, ho, tR, _⟩ := run_append_own (P := P) w w.heap.size t ty e i z i.size i.bytes ht hi hz rfl rfl pI tM (.slice none 0 0) 0 [] (World.ownsRow_nil w _ e i.size) a m c news hl tZ h1 fU tK (Nat.le_refl _)
  refine ⟨v', w', e, hr, ?_, tR, fun b hb => .inl ?_⟩
  ·refine ⟨ho.1, ho.2.imp id ?_⟩
   rintro ⟨g, cap, cur, hv, _, rest⟩
   exact ⟨g, cap, cur, hv, Nat.zero_le _, rest⟩
  ·have uP : v'.ownBlock = some b := by
    cases v' with
    | slice o l c => cases o with
     | none => simp [blk] at hb
     | some ad => simpa [blk, Value.ownBlock] using hb
    | pointer o => rcases ho.2 with ⟨hv, _⟩ | ⟨g, cap, cur, hv, _⟩ <;> cases hv
    | _ => simp [blk] at hb
   exact ho.lt b uP
 ·by_cases pV : n + m <= cap
  ·have lA : n * i.size + news.length <= cur.size := by rw [hl, sU, <- Nat.add_mul]; exact Nat.mul_le_mul_right _ pV
   have hr := PX (P := P) (w := w) t ty e e0 i ht hi g n cap cur hg a m c news hl tZ h1 pV lA
   refine ⟨_, _, e0, hr, ⟨hlen, .inr ⟨g, cap, _, rfl, Nat.zero_le _, setRow_heap w g cur _ e0 _ hg, pV, nh, ?_, ?_⟩⟩, ⟨rfl, rfl, rfl, by simp [World.setRow], fun k _ hk => setRow_other w g k _ (fun e => hk (by simp [blk, e]))⟩, fun b hb => .inr (by simpa [blk] using hb)⟩
   ·simp only [List.size_toArray, List.length_append, List.length_take, List.length_drop, Array.length_toList]
    omega
   ·rw [iy, <- hlen]
    exact List.take_left
  ·have holds : ∀ j u, xs[j]? = some u -> w.cell? ((⟨g, 0, none⟩ : Addr).add j) = some u := uK.cells (g := g) rfl
   have fb : n + m <= 9223372036854775807 := by simp only [maxLen] at fU; omega
   have hr := run_append_grow (P := P) w t ty e i z ht hi hz ⟨g, 0, none⟩ n cap xs uK.1 holds a m c news hl tZ (by omega) (by omega) (growslice_fits (by omega) tK)
   have r6 := grownCap_ge w (n + m) cap e
   have fc : grownCap w (n + m) cap e <= maxLen := grownCap_le_maxLen w (n + m) cap e fU
   refine ⟨_, _, e, hr, ⟨hlen, .inr ⟨w.heap.size, _, _, rfl, Nat.zero_le _, heap_alloc_new w.drew _, r6, fc, ?_, ?_⟩⟩, ⟨rfl, rfl, rfl, by simp, fun k hk _ => (World.grownBy_alloc w.drew _ none).block k hk (by simp)⟩, fun b hb => .inl ?_⟩
   ·simp only [Array.size_append, List.size_toArray, size_zeroCells, pI, uK.1, hl, <- Nat.add_mul]
    congr 1
    omega
   ·simp only [Array.toList_append, List.append_assoc]
    rw [<- List.append_assoc, <- hlen]
    exact List.take_left
   ·simp [blk] at hb; subst hb; simp
theorem K6 (t ty e : TypeId) (i : TypeInfo) (ht : P.underlying t = some (.slice e)) (hi : P.info? e = some i) (base : Option Addr) (n cap : Nat) (tz : n <= cap) (hb : base = none -> cap = 0) :
  (Builtin.append_ #[t, t] ty #[.slice base n cap, .slice none 0 0]).run P w = .ok (.slice base n cap) w := by
 cases base with
 | none =>
  have := hb rfl; subst this
  have : n = 0 := by omega
  subst this
  simp [Builtin.append_, run_underlying ht, sizeOf, typeInfo, hi, Builtin.lenOf, Builtin.firstCells]
 | some ad => simp [Builtin.append_, run_underlying ht, sizeOf, typeInfo, hi, Builtin.lenOf, Builtin.firstCells, tz, storeCells]
theorem Rel.less (r : Rel T0 B σ a w X h) {σ' : St} (hl : σ'.length = σ.length) (tT : ∀ t, σ'.get t = σ.get t) (hk : ∀ t j, σ'.ob t j ≠ .none -> σ'.ob t j = σ.ob t j) : Rel T0 B σ' a w X h := by
 have back : ∀ t j o, σ'.ob t j = o -> o ≠ .none -> σ.ob t j = o := by
  intro t j o ho uH
  rw [<- hk t j (by rw [ho]; exact uH)]; exact ho
 have at_ : ∀ {x : At} {v : Value}, (fun _ : At => false) x = false -> YH (Tof T0 X) h σ.ob w x v -> YH (Tof T0 X) h σ'.ob w x v := by
  intro x v _ rx
  cases x with
  | any => exact rx
  | d x => exact rx
  | nil s => exact rx
  | sref u i lo len => exact ⟨rx.1, fun q size rows ho => rx.2.1 q size rows (back u i _ ho (by simp)), fun size rows ho => rx.2.2 size rows (back u i _ ho (by simp))⟩
  | ptr u i k c => exact ⟨rx.1, fun q size rows ho => rx.2 q size rows (back u i _ ho (by simp))⟩
  | bptr u c => exact ⟨rx.1, fun cells ho => rx.2 cells (back u 0 _ ho (by simp))⟩
  | fn f u => exact ⟨rx.1, fun cells ho => rx.2 cells (back u 0 _ ho (by simp))⟩
  | tref u i k c o => exact ⟨rx.1, fun size rows ho => rx.2 size rows (back u i _ ho (by simp))⟩
  | rptr rr c => exact rx
 have tX : ∀ u i, σ'.ob u i ≠ .none -> σ.ob u i ≠ .none := fun u i hn => by rw [<- hk u i hn]; exact hn
 refine ⟨by rw [r.size, hl], r.defers, r.hB, r.hX, r.hT, fun u hu => ?_, fun u i => ?_, fun u i b hn => r.ub u i b (tX u i hn), fun u i b hn => r.own u i b (tX u i hn), fun u i u' i' b hn tE => r.inj u i u' i' b (tX u i hn) (tX u' i' tE)⟩
 ·rw [tT u]; exact QK.map at_ (zm _) (r.slot u (by omega))
 ·by_cases hn : σ'.ob u i = .none
  ·rw [hn]; trivial
  ·rw [hk u i hn]
   exact Qs.map at_ (fun b k v hb hc => ⟨hc, hb⟩) (fun ho b => r.ub u i b ho) (fun _ _ _ => rfl) (js _) (r.obj u i)
theorem St.Sc (σ : St) (t j u i : Nat) : (σ.Zs t j .none).ob u i = if u = t /\ i = j then .none else σ.ob u i := by
 by_cases ua : σ.ob t j = .none
 ·have key : ∀ (σ : St) (t u : Nat), σ.ob t j = .none -> (σ.Zs t j .none).ob u i = σ.ob u i := by
   intro σ
   induction σ with
   | nil => intro t u _; simp [St.Zs]
   | cons e σ ih =>
    intro t u ho
    cases t with
    | zero => cases u with
     | zero =>
      simp only [St.Zs, St.ob, List.getElem?_cons_zero, FG] at ho ⊢
      split
      ·rename_i hh; rw [hh.1, ho]
      ·rfl
     | succ u => simp [St.Zs, St.ob]
    | succ t => cases u with
     | zero => simp [St.Zs, St.ob]
     | succ u =>
      have := ih t u (by simpa [St.ob] using ho)
      simp only [St.ob, St.Zs] at this ⊢; simpa using this
  rw [key σ t u ua]
  split
  ·rename_i hh; rw [hh.1, hh.2]; exact ua
  ·rfl
 ·exact St.XK σ t j _ u i ua
theorem Rel.drop (r : Rel T0 B σ a w X h) (t j : Nat) : Rel T0 B (σ.Zs t j .none) a w X h := by
 refine r.less (St.Y0 _ _ _ _) (fun u => St.Xj _ _ _ _ u) (fun u i hn => ?_)
 rw [St.Sc] at hn ⊢
 split
 ·rename_i hh; rw [if_pos hh] at hn; exact absurd rfl hn
 ·rfl
def St.Zz : St -> List (Nat × Nat) -> St
 | σ, [] => σ
 | σ, p :: l => St.Zz (σ.Zs p.1 p.2 .none) l
theorem St.Jr : ∀ (l : List (Nat × Nat)) (σ : St), (σ.Zz l).length = σ.length
 | [], σ => rfl
 | p :: l, σ => by rw [St.Zz, St.Jr l, St.Y0]
theorem St.yM : ∀ (l : List (Nat × Nat)) (σ : St) (t : Nat), (σ.Zz l).get t = σ.get t
 | [], σ, t => rfl
 | p :: l, σ, t => by rw [St.Zz, St.yM l, St.Xj]
theorem St.Js : ∀ (l : List (Nat × Nat)) (σ : St) (t j : Nat), (σ.Zz l).ob t j = if (t, j) ∈ l then .none else σ.ob t j
 | [], σ, t, j => by simp [St.Zz]
 | p :: l, σ, t, j => by
  rw [St.Zz, St.Js l, St.Sc]
  by_cases h1 : (t, j) ∈ l
  ·simp [h1]
  ·by_cases h2 : t = p.1 /\ j = p.2
   ·have : (t, j) = p := by rw [h2.1, h2.2]
    rw [if_neg h1, if_pos h2, if_pos (by rw [this]; simp)]
   ·have : ¬ (t, j) = p := fun e => h2 (by rw [<- e]; exact ⟨rfl, rfl⟩)
    simp [h1, h2, this]
theorem Rel.Zz (r : Rel T0 B σ a w X h) (l : List (Nat × Nat)) : Rel T0 B (σ.Zz l) a w X h := by
 refine r.less (St.Jr l σ) (St.yM l σ) (fun u i hn => ?_)
 rw [St.Js] at hn ⊢
 split
 ·rename_i hh; rw [if_pos hh] at hn; exact absurd rfl hn
 ·rfl
end
end Go.Vm
namespace Go.Vm
open Go.RowKit
section
variable {P : Program} {T0 : CS} {B : Nat -> Prop} {σ : St} {a : Act} {w w' : World} {X X' : Nat -> Prop} {h : Nat -> Nat -> Hd}
theorem zC {T : TypeId} (hz : Xn P T = true) : ∃ i z row, P.info? T = some i /\ i.zero = some z /\ jO P 12 T = some row /\ i.size = row.length /\ z.cells.size = i.size /\ i.size = P.cellsOf T /\ (∀ T' h ob w, Z5 (YH T' h ob w) row z.cells.toList) := by
 have sn : ∃ row, jO P 12 T = some row := by
  unfold Xn at hz
  split at hz
  ·rename_i row i hr hi; exact ⟨row, hr⟩
  ·cases hz
 obtain ⟨row, hr⟩ := sn
 obtain ⟨i, z, hi, rm, tM, uJ⟩ := M1 hz hr
 refine ⟨i, z, row, hi, rm, hr, tM, ?_, by simp [Program.cellsOf, hi], uJ⟩
 have := (uJ (fun _ _ => True) (fun _ _ => Hd.of undef) (fun _ _ => .none) default).length
 have e1 : z.cells.toList.length = z.cells.size := Array.length_toList
 omega
def qz (σ : St) (x : V) (size : Nat) (news : List (List D)) : Prop :=
 match x with
 | .one (.d (.sl s rows)) => s = size /\ news = rows
 | .one (.nil _) => news = []
 | .one (.sref t j lo len) => ∃ rows, σ.ob t j = .arr false size rows /\ lo + len <= rows.length /\ news = cut rows lo len
 | _ => False
def Vu (σ : St) (x : V) (size : Nat) (uG : List (List D)) (σ1 : St) : Prop :=
 match x with
 | .one (.nil _) => uG = [] /\ σ1 = σ
 | .one (.sref t j lo len) => ∃ rows, σ.ob t j = .arr false size rows /\ lo = 0 /\ len <= rows.length /\ uG = rows.take len /\ σ1 = σ.Zs t j .none
 | _ => False
theorem kH (v : Value) (n : Nat) : blk (Rf v n) = blk v := by
 cases v with
 | slice o _ _ => cases o <;> rfl
 | _ => rfl
theorem JT (rows : List (List D)) (size : Nat) (hz : ∀ r ∈ rows, r.length = size) (len : Nat) (hle : len <= rows.length) : (rows.take len).flatten = rows.flatten.take (len * size) := by
 induction rows generalizing len with
 | nil => simp
 | cons r rows ih =>
  cases len with
  | zero => simp
  | succ len =>
   have h1 := hz r (by simp)
   have h2 := ih (fun q hq => hz q (by simp [hq])) len (by simpa using hle)
   have h3 : (len + 1) * size = r.length + len * size := by rw [Nat.add_mul, h1]; omega
   rw [List.take_succ_cons, List.flatten_cons, List.flatten_cons, h2, h3, List.take_length_add_append]
theorem xh {e : TypeId} {size : Nat} {v : Value} {n len : Nat} {xs : List Value} (ho : w.ownsRow 0 e size v n xs) (hle : len <= n) : w.ownsRow 0 e size (Rf v len) len (xs.take (len * size)) := by
 have hm : len * size <= n * size := Nat.mul_le_mul_right _ hle
 refine ⟨by rw [List.length_take, ho.1]; omega, ?_⟩
 rcases ho.2 with ⟨rfl, rfl⟩ | ⟨g, cap, cur, rfl, hx, hg, tz, nh, sU, ss⟩
 ·have : len = 0 := by omega
  subst this
  exact .inl ⟨rfl, rfl⟩
 ·refine .inr ⟨g, cap, cur, rfl, hx, hg, by omega, nh, sU, ?_⟩
  rw [<- ss, List.take_take]
  congr 1
  omega
theorem HI (r : Rel T0 B σ a w X h) {x : V} {v : Value} {size : Nat} {news : List (List D)} (hs : qz σ x size news) (hv : QK (Tof T0 X) h σ.ob w x v) :
  (∀ n ∈ news, n.length = size) /\ ((v = .slice none 0 0 /\ news = []) \/ ∃ ad c xs, v = .slice (some ad) news.length c /\ (∀ j u, xs[j]? = some u -> w.cell? (ad.add j) = some u) /\ Z5 (Rd (Tof T0 X) w) xs news.flatten) := by
 unfold qz at hs
 split at hs
 ·rename_i s rows
  obtain ⟨rfl, rfl⟩ := hs
  refine ⟨L9 (show Rd _ _ _ _ from hv), ?_⟩
  cases (show Rd _ _ _ _ from hv) with
  | nil => exact .inl ⟨rfl, rfl⟩
  | sl ad len cap s rows g hl hc hm hz oN hg hr =>
   refine .inr ⟨ad, cap, (List.range news.flatten.length).map g, by rw [hl], fun j u hu => ?_, ?_⟩
   ·rw [List.getElem?_map] at hu
    rcases Nat.lt_or_ge j news.flatten.length with hj | hj
    ·rw [List.getElem?_range hj] at hu
     cases hu
     have uH : news.flatten ≠ [] := by intro he; rw [he] at hj; simp at hj
     have := (hg j _ (List.getElem?_eq_getElem hj)).1
     obtain ⟨b, off, sp⟩ := ad
     have := oN uH
     simp at this; subst this
     rw [z8]; assumption
    ·rw [List.getElem?_eq_none (by simpa using hj)] at hu; cases hu
   ·refine Z5.zq (by simp) (fun k u d hu hd => ?_)
    rw [List.getElem?_map] at hu
    have hk := (List.getElem?_eq_some_iff.1 hd).1
    rw [List.getElem?_range hk] at hu
    cases hu
    exact hr k d hd
 ·subst hs
  exact ⟨(by intro n hn; cases hn), .inl ⟨hv, rfl⟩⟩
 ·rename_i t j lo len
  obtain ⟨rows, ho, hle, rfl⟩ := hs
  have h0 := r.obj t j
  rw [ho] at h0
  obtain ⟨e, xs, ⟨hl, uK⟩, hz, uJ⟩ := h0
  refine ⟨fun x hx => hz x (List.mem_of_mem_drop (List.mem_of_mem_take hx)), ?_⟩
  have s6 : YH (Tof T0 X) h σ.ob w (.sref t j lo len) v := hv
  obtain ⟨_, _, _, base, cap, rfl, tn, _, oD, hb⟩ := s6.2.1 _ size rows ho
  have uu : (cut rows lo len).length = len := Yu _ _ _ hle
  by_cases tO : 0 < len
  ·obtain ⟨b, rn, hh, rfl⟩ := hb tO
   rcases uK with ⟨hn, _⟩ | ⟨g, oc, cur, s6, _, m3, tz, sV, sU, ss⟩
   ·rw [hh] at hn; cases hn
   ·rw [hh] at s6; cases s6
    refine .inr ⟨_, cap, cut xs (lo * size) (len * size), by rw [uu], fun j u hu => ?_, ?_⟩
    ·have h1 := J7 _ _ _ _ _ hu
     rw [z8]
     refine J0 m3 _ _ ?_
     rw [<- ss, List.getElem?_take] at h1
     split at h1
     ·exact h1
     ·cases h1
    ·have oR : xs.length = rows.length * size := by rw [uJ.length, YI rows size hz]
     have hmul : lo * size + len * size <= rows.length * size := by rw [<- Nat.add_mul]; exact Nat.mul_le_mul_right _ hle
     refine Z5.zq ?_ (fun k u d hu hd => ?_)
     ·rw [Yu _ _ _ (by omega), YI (cut rows lo len) size (fun x hx => hz x (List.mem_of_mem_drop (List.mem_of_mem_take hx))), uu]
     ·have h1 := J7 _ _ _ _ _ hu
      have h2 := xR rows size lo len hz k d hd
      obtain ⟨d', uU, hr⟩ := uJ.get _ _ h1
      rw [h2] at uU; cases uU
      exact hr
  ·have : len = 0 := by omega
   subst this
   have rf : cut rows lo 0 = [] := by simp [cut]
   rw [rf]
   cases base with
   | none => have := oD rfl; subst this; exact .inl ⟨rfl, rfl⟩
   | some ad => exact .inr ⟨ad, cap, [], rfl, by simp, .nil⟩
 ·exact hs.elim
theorem GG (r : Rel T0 B σ a w X h) {o : Oper} {t : TypeId} {x y : Operand} {d : Nat} {uG news : List (List D)} {σ1 : St} (uE : o.op = .call ⟨.builtin .append, #[x, y], #[t, t]⟩) (hd : o.dst = some d)
  (ry : gOf (look P σ t x) = true) (rz : gOf (look P σ t y) = true) (ht : Y2 P t = true) (hz : Xn P (ZR P t) = true) (tO : 0 < P.cellsOf (ZR P t))
  (tu : Vu σ (unc (look P σ t x)) (P.cellsOf (ZR P t)) uG σ1) (rq : qz σ (unc (look P σ t y)) (P.cellsOf (ZR P t)) news) (tD : σ1.fresh d = true)
  (tK : (uG.length + news.length) * P.bytesOf (ZR P t) <= 140737488355328) (nN : uG.length + news.length <= 9223372036854775807)
  {K : Act -> World -> Prop} {Q : Exit -> Act -> World -> Prop} (hK : ∀ a' w', Q0 T0 B (σ1.new d (.one (.sref d 0 0 (uG.length + news.length))) [.arr false (P.cellsOf (ZR P t)) (uG ++ news)]) a' w' -> Yr B w w' -> K a' w') : o.wp P a w K Q := by
 obtain ⟨ti, hu, hi, s8⟩ := XT ht
 obtain ⟨i, z, row, tk, rm, sn, rA, pI, sC, sc⟩ := zC hz
 rw [hi] at tk; cases tk
 have nO : P.bytesOf (ZR P t) = ti.bytes := by simp [Program.bytesOf, hi]
 rw [nO] at tK
 rw [<- sC] at tu rq tO hK
 have pY := r.arg (P := P) t x rfl ry
 have nj := r.arg (P := P) t y rfl rz
 obtain ⟨lB, tL⟩ := HI r rq nj
 have tx : ∃ e0 xs, w.ownsRow 0 e0 ti.size (a.eval x) uG.length xs /\ (∀ q ∈ uG, q.length = ti.size) /\ Z5 (Rd (Tof T0 X) w) xs uG.flatten /\ Rel T0 B σ1 a w X h /\
   (∀ b, blk (a.eval x) = some b -> ¬ B b /\ ¬ X b /\ b < w.heap.size /\ ∀ u j, σ1.ob u j ≠ .none -> ¬ (h u j).u b) := by
  unfold Vu at tu
  split at tu
  ·rename_i s heq
   obtain ⟨rfl, rfl⟩ := tu
   rw [heq] at pY
   have he : a.eval x = .slice none 0 0 := pY
   rw [he]
   exact ⟨0, [], World.ownsRow_nil w 0 0 _, (by intro q hq; cases hq), .nil, r, (fun b hb => by cases hb)⟩
  ·rename_i u j lo len heq
   obtain ⟨rows, ho, rfl, hle, rfl, rfl⟩ := tu
   rw [heq] at pY
   have pZ : YH (Tof T0 X) h σ.ob w (.sref u j 0 len) (a.eval x) := pY
   obtain ⟨_, _, sF, _⟩ := pZ.2.1 _ _ _ ho
   have he : a.eval x = Rf (h u j).v len := sF rfl
   have h0 := r.obj u j
   rw [ho] at h0
   obtain ⟨e, xs, uK, tj, uJ⟩ := h0
   have ua : σ.ob u j ≠ .none := by rw [ho]; simp
   have oq : (rows.take len).length = len := by rw [List.length_take]; omega
   have tb : (rows.take len).flatten = rows.flatten.take (len * ti.size) := JT rows ti.size tj len hle
   refine ⟨e, xs.take (len * ti.size), by rw [he, oq]; exact xh uK hle, fun q hq => tj q (List.mem_of_mem_take hq), by rw [tb]; exact uJ.take _, r.drop u j, fun b hb => ?_⟩
   rw [he, kH] at hb
   have oz := r.ub u j b ua hb
   have tG := r.own u j b ua oz
   refine ⟨tG.1, tG.2.1, tG.2.2, fun u' j' uH uP => ?_⟩
   have po : σ.ob u' j' ≠ .none := by
    intro hh
    rw [St.XK σ u j _ u' j' ua] at uH
    split at uH
    ·exact uH rfl
    ·exact uH hh
   have := r.inj u j u' j' b ua po oz uP
   obtain ⟨rfl, rfl⟩ := this
   rw [St.XK σ u j _ u j ua] at uH
   simp at uH
  ·exact tu.elim
 obtain ⟨e0, xs, uK, ir, nQ, r1, uo⟩ := tx
 have p8 : ∀ q ∈ uG ++ news, q.length = ti.size := by
  intro q hq
  rcases List.mem_append.1 hq with hq | hq
  ·exact ir q hq
  ·exact lB q hq
 have key : ∀ (v' : Value) (w' : World) (e1 : TypeId) (ys : List Value), (Builtin.append_ #[t, t] o.type #[a.eval x, a.eval y]).run P w = .ok v' w' -> w'.ownsRow 0 e1 ti.size v' (uG.length + news.length) (xs ++ ys) ->
   Z5 (Rd (Tof T0 X) w) ys news.flatten -> w.grownBy w' (blk (a.eval x)) -> (∀ b, blk v' = some b -> (w.heap.size <= b /\ b < w'.heap.size) \/ blk (a.eval x) = some b) -> o.wp P a w K Q := by
  intro v' w' e1 ys uY uc nP tR pJ
  have uQ := St.JH tD
  have hT : ∀ b k v, Tof T0 X b k -> w.cell? ⟨b, k, none⟩ = some v -> w'.cell? ⟨b, k, none⟩ = some v /\ Tof T0 X b k := by
   intro b k v hb uM
   refine ⟨?_, hb⟩
   have uH : some b ≠ blk (a.eval x) := by
    intro e
    have h1 := uo b e.symm
    rcases hb with hb | hb
    ·exact h1.1 (r.hT b k hb)
    ·exact h1.2.1 hb
   rw [World.cell?_of_block (tR.block b (r.Tlt hb) uH)]; exact uM
  unfold Oper.wp
  have rQ : (execOp a.eval o).run P w = .ok (.value v') w' := by
   simp only [execOp, uE, resolve, invoke, builtin, Sem.run_bind, Sem.run_pure, Result.andThen_ok, List.map_toArray, List.map_cons, List.map_nil, uY]
  rw [rQ, Oper.upon_value, hd]
  refine hK _ _ ⟨X, fun u j => if u = d then Hd.of v' else h u j, ?_⟩ ⟨tR.os, tR.tape, tR.output, tR.size, fun k hk => tR.block k (r.hB k hk) (fun e => (uo k e.symm).1 hk)⟩
  have tC : (σ1.new d (.one (.sref d 0 0 (uG.length + news.length))) [.arr false ti.size (uG ++ news)]).ob d 0 = .arr false ti.size (uG ++ news) := by rw [St.Qj]; simp [uQ, YU]
  have u9 : w'.ownsRow 0 e1 ti.size v' (uG ++ news).length (xs ++ ys) := by rw [List.length_append]; exact uc
  have pX : Z5 (Rd (Tof T0 X) w') (xs ++ ys) (uG ++ news).flatten := by
   rw [List.flatten_append]
   exact (nQ.imp fun _ _ => Rd.mono hT).append (nP.imp fun _ _ => Rd.mono hT)
  refine r1.Hn tD (fun b => blk (a.eval x) = some b) tR.size (fun k hk uH => tR.block k hk (fun e => uH e.symm)) (fun b hb => ⟨(uo b hb).1, (uo b hb).2.1, fun u j _ uH => (uo b hb).2.2.2 u j uH⟩) (fun _ hb => hb) (fun _ hb => .inl hb) _ _ [.arr false ti.size (uG ++ news)] (fun _ => Hd.of v') ?_ (fun j => ?_) (fun j b _ hb => hb) (fun j b uH uP => ?_) (fun j j' b uH ux _ _ => ?_)
  ·refine ⟨QJ uc, fun q' ug uT hh => ?_, fun ug uT hh => by rw [tC] at hh; cases hh⟩
   rw [tC] at hh; cases hh
   simp only [if_true, List.length_append]
   have := xy u9
   rwa [List.length_append] at this
  ·cases j with
   | zero => exact ⟨e1, xs ++ ys, u9, p8, pX⟩
   | succ j => simp [YU, Qs]
  ·rcases pJ b uP with h1 | h1
   ·exact ⟨.inl h1.1, fun hx => by have := (r.hX b hx).2; omega, h1.2⟩
   ·have h2 := uo b h1
    exact ⟨.inr h1, h2.2.1, by have := tR.size; omega⟩
  ·have : ∀ j, YU [Ob.arr false ti.size (uG ++ news)] j ≠ .none -> j = 0 := by
    intro j hj
    cases j with
    | zero => rfl
    | succ j => simp [YU] at hj
   rw [this j uH, this j' ux]
 rcases tL with ⟨nS, rfl⟩ | ⟨ad, c, ys, nS, uM, nP⟩
 ·have ur : ∃ base cap, a.eval x = .slice base uG.length cap /\ uG.length <= cap /\ (base = none -> cap = 0) := by
   rcases uK.2 with ⟨h1, h2⟩ | ⟨g, cap, cur, h1, _, _, tz, _⟩
   ·exact ⟨none, 0, by rw [h1, h2], by omega, fun _ => rfl⟩
   ·exact ⟨_, cap, h1, tz, (fun hh => by cases hh)⟩
  obtain ⟨base, cap, hex, tz, nz⟩ := ur
  refine key (a.eval x) w e0 [] ?_ (by simpa using uK) .nil ⟨rfl, rfl, rfl, Nat.le_refl _, fun _ _ _ => rfl⟩ (fun b hb => .inr hb)
  rw [hex, nS]
  exact K6 t o.type _ ti hu hi base uG.length cap tz nz
 ·have sE : ys.length = news.length * ti.size := by rw [nP.length, YI news ti.size lB]
  obtain ⟨v', w', e1, uY, uc, tR, pJ⟩ := xd (P := P) (w := w) t o.type _ e0 ti z hu hi rm pI (by omega) (a.eval x) uG.length xs uK ad news.length c ys sE uM
   (fun u sJ => by
    obtain ⟨k, hk⟩ := List.mem_iff_getElem?.1 sJ
    obtain ⟨d', _, tS⟩ := nP.get k u hk
    exact Rd.Xc tS) (by simp only [maxLen]; omega) tK
  refine key v' w' e1 ys ?_ uc nP tR pJ
  rw [nS]; exact uY
end
end Go.Vm
namespace Go.Vm
open Go.RowKit
section
variable {P : Program} {T0 : CS} {B : Nat -> Prop} {σ : St} {a : Act} {w w' : World} {X X' : Nat -> Prop} {h : Nat -> Nat -> Hd}
def Re (P : Program) (σ : St) (T : TypeId) (size : Nat) : List (Nat × Operand) -> Nat -> List (List D) -> Prop
 | [], _, rs => rs = []
 | (i, x) :: ps, k, rs => i = k /\ gOf (look P σ T x) = true /\ (unc (look P σ T x)).flat = true /\ J1 (unc (look P σ T x)).cells = true /\
   ∃ r rest, rowOf σ (unc (look P σ T x)).cells = some r /\ r.length = size /\ Re P σ T size ps (k + 1) rest /\ rs = r :: rest
theorem Oi {α : Type} (l : List α) (o : Nat) (xs ys : List α) (hl : o + (xs ++ ys).length <= l.length) : place (place l o xs) (o + xs.length) ys = place l o (xs ++ ys) := by
 simp only [List.length_append] at hl
 unfold place
 have h1 : (l.take o ++ xs).length = o + xs.length := by simp; omega
 have h2 : (l.take o ++ xs ++ l.drop (o + xs.length)).take (o + xs.length) = l.take o ++ xs := by
  rw [List.take_append_of_le_length (by omega), List.take_of_length_le (by omega)]
 have h3 : (l.take o ++ xs ++ l.drop (o + xs.length)).drop (o + xs.length + ys.length) = l.drop (o + (xs ++ ys).length) := by
  rw [show o + xs.length + ys.length = (l.take o ++ xs).length + ys.length by omega, List.drop_length_add_append, List.drop_drop]
  congr 1; simp; omega
 rw [h2, h3]; simp
theorem Pw (r : Rel T0 B σ a w X h) (T : TypeId) (size : Nat) : ∀ (ps : List (Nat × Operand)) (k : Nat) (rs : List (List D)) (cells : Array Value), Re P σ T size ps k rs -> (k + ps.length) * size <= cells.size ->
   ∃ uN ys, Instr.fill (fun i => some (i * size, size)) cells (ps.map fun x => (x.1, a.eval x.2)) = some uN /\ uN.toList = place cells.toList (k * size) ys /\ Z5 (Rd (Tof T0 X) w) ys rs.flatten /\ (∀ q ∈ rs, q.length = size) /\ rs.length = ps.length
 | [], k, rs, cells, hb, _ => by cases hb; exact ⟨cells, [], rfl, by simp [place], .nil, (by intro q hq; cases hq), rfl⟩
 | (i, x) :: ps, k, rs, cells, hb, hl => by
  obtain ⟨rfl, hg, hf, uk, r0, rest, rY, hlen, hb, rfl⟩ := hb
  have hx := jV hf (r.arg (P := P) T x rfl hg)
  have mP := r.rowOf true rY hx (fun _ => uk)
  simp only [if_true] at mP
  have n7 := mP.length
  have e1 : cells.toList.length = cells.size := Array.length_toList
  have e2 : (a.eval x).cells.toList.length = (a.eval x).cells.size := Array.length_toList
  have hmul : (i + (ps.length + 1)) * size = i * size + size + ps.length * size := by rw [Nat.add_mul, Nat.add_mul]; omega
  simp only [List.length_cons] at hl
  have heq := Vp (i * size) (a.eval x).cells cells (by omega)
  have rA : ((a.eval x).cells.zipIdx.foldl (fun cs x => cs.setIfInBounds (i * size + x.2) x.1) cells).size = cells.size := by
   rw [<- Array.length_toList, heq, XU _ _ _ (by omega), e1]
  have hD : (i + 1 + ps.length) * size = i * size + size + ps.length * size := by rw [Nat.add_mul, Nat.add_mul]; omega
  obtain ⟨uN, ys, h1, h2, h3, h4, h5⟩ := Pw r T size ps (i + 1) rest _ hb (by rw [rA]; omega)
  have sE : ys.length = ps.length * size := by rw [h3.length, YI rest size h4, h5]
  refine ⟨uN, (a.eval x).cells.toList ++ ys, ?_, ?_, ?_, ?_, by simp [h5]⟩
  ·simp only [List.map_cons, Instr.fill]
   rw [if_neg (by simp; omega)]
   exact h1
  ·rw [h2, heq]
   rw [show (i + 1) * size = i * size + (a.eval x).cells.toList.length by rw [Nat.add_mul]; omega]
   exact Oi _ _ _ _ (by simp; omega)
  ·rw [List.flatten_cons]; exact mP.append h3
  ·intro q hq
   rcases List.mem_cons.1 hq with rfl | hq
   ·exact hlen
   ·exact h4 q hq
theorem PL (r : Rel T0 B σ a w X h) {o : Oper} {T : TypeId} {n : Nat} {parts : Array (Nat × Operand)} {d : Nat} {rows : List (List D)} (uE : o.op = .buildSlice T n parts) (hd : o.dst = some d) (tD : σ.fresh d = true)
  (ht : Y2 P T = true) (hz : Xn P (ZR P T) = true) (tO : 0 < P.cellsOf (ZR P T)) (hn : parts.toList.length = n) (ed : n * P.cellsOf (ZR P T) <= 16777216) (hb : Re P σ (ZR P T) (P.cellsOf (ZR P T)) parts.toList 0 rows)
  {K : Act -> World -> Prop} {Q : Exit -> Act -> World -> Prop} (hK : ∀ a' w', Q0 T0 B (σ.new d (.one (.sref d 0 0 rows.length)) [.arr false (P.cellsOf (ZR P T)) rows]) a' w' -> Yr B w w' -> K a' w') : o.wp P a w K Q := by
 obtain ⟨ti, hu, hi, s8⟩ := XT ht
 obtain ⟨i, z, row, tk, rm, sn, rA, pI, sC, sc⟩ := zC hz
 rw [hi] at tk; cases tk
 have sw : (zeroValue (ZR P T)).run P w = .ok z w := by simp [zeroValue, typeInfo, hi, rm]
 obtain ⟨zero, hzero⟩ : ∃ zero : Array Value, (n * P.cellsOf (ZR P T) = 0 -> zero = #[]) /\ (¬ n * P.cellsOf (ZR P T) = 0 -> zero = z.cells) := by
  by_cases h0 : n * P.cellsOf (ZR P T) = 0
  ·exact ⟨#[], fun _ => rfl, fun hh => absurd h0 hh⟩
  ·exact ⟨z.cells, fun hh => absurd hh h0, fun _ => rfl⟩
 obtain ⟨uN, ys, h1, h2, h3, h4, h5⟩ := Pw r (ZR P T) (P.cellsOf (ZR P T)) parts.toList 0 rows ((Array.range (n * P.cellsOf (ZR P T))).map (zero[· % zero.size]!)) hb (by simp [hn])
 have sE : ys.length = n * P.cellsOf (ZR P T) := by rw [h3.length, YI rows _ h4, h5, hn]
 have uu : uN.toList = ys := by
  rw [h2]
  unfold place
  simp [sE]
 have rO : (parts.map fun (x : Nat × Operand) => (x.1, a.eval x.2)).toList = parts.toList.map fun x => (x.1, a.eval x.2) := by simp
 have uY : (execOp a.eval o).run P w = .ok (.value (.slice (some ⟨w.heap.size, 0, none⟩) n n)) (w.alloc (.cells uN (ZR P T))) := by
  have re : ¬ (n * P.cellsOf (ZR P T) > 2 ^ 24) := by omega
  by_cases h0 : n * P.cellsOf (ZR P T) = 0
  ·have pg := hzero.1 h0
   subst pg
   simp only [execOp, uE, Instr.buildSlice, Sem.run_bind, run_underlying hu, Result.andThen_ok, JG hi, if_neg re, if_pos h0, rO, h1, newRow, Sem.run_pure, run_newObj_alloc]
  ·have pg := hzero.2 h0
   subst pg
   simp only [execOp, uE, Instr.buildSlice, Sem.run_bind, run_underlying hu, Result.andThen_ok, JG hi, if_neg re, if_neg h0, sw, rO, h1, newRow, Sem.run_pure, run_newObj_alloc]
 unfold Oper.wp
 rw [uY, Oper.upon_value, hd]
 have hlen : rows.length = n := by rw [h5, hn]
 have hT : ∀ b k v, Tof T0 X b k -> w.cell? ⟨b, k, none⟩ = some v -> (w.alloc (.cells uN (ZR P T))).cell? ⟨b, k, none⟩ = some v /\ Tof T0 X b k := by
  intro b k v hb uM
  refine ⟨?_, hb⟩
  rw [World.cell?_of_block ((World.grownBy_alloc w (.cells uN (ZR P T)) none).block b (r.Tlt hb) (by simp))]; exact uM
 have nU : uN.size = n * P.cellsOf (ZR P T) := by rw [<- Array.length_toList, uu, sE]
 have sV : n <= maxLen := by
  have : n <= n * P.cellsOf (ZR P T) := Nat.le_mul_of_pos_right _ tO
  simp only [maxLen]; omega
 have := r.C9 tD (World.grownBy_alloc w (.cells uN (ZR P T)) none) (.slice (some ⟨w.heap.size, 0, none⟩) n n) (size := P.cellsOf (ZR P T)) (rows := rows)
  ⟨ZR P T, ys, ⟨by rw [sE, hlen], .inr ⟨w.heap.size, n, uN, by rw [hlen], Nat.zero_le _, heap_alloc_new w _, by omega, sV, nU, by rw [uu, hlen, List.take_of_length_le (by omega)]⟩⟩, h4, h3.imp fun _ _ => Rd.mono hT⟩
  (fun b hb => by simp [blk] at hb; subst hb; exact ⟨Nat.le_refl _, by simp⟩)
 exact hK _ _ this.1 this.2
theorem GF (r : Rel T0 B σ a w X h) {o : Oper} {T : TypeId} {n : Nat} {parts : Array (Nat × Operand)} {d : Nat} {rows : List (List D)} (uE : o.op = .buildSlice T n parts) (hd : o.dst = some d)
  (ht : Y2 P T = true) (hz : Xn P (ZR P T) = true) (tO : 0 < P.cellsOf (ZR P T)) (hn : parts.toList.length = n) (ed : n * P.cellsOf (ZR P T) <= 16777216) (hb : Re P σ (ZR P T) (P.cellsOf (ZR P T)) parts.toList 0 rows)
  {K : Act -> World -> Prop} {Q : Exit -> Act -> World -> Prop} (hK : ∀ a' w', Q0 T0 B (σ.put d (.one (.d (.sl (P.cellsOf (ZR P T)) rows)))) a' w' -> Yr B w w' -> K a' w') : o.wp P a w K Q := by
 obtain ⟨ti, hu, hi, s8⟩ := XT ht
 obtain ⟨i, z, row, tk, rm, sn, rA, pI, sC, sc⟩ := zC hz
 rw [hi] at tk; cases tk
 have sw : (zeroValue (ZR P T)).run P w = .ok z w := by simp [zeroValue, typeInfo, hi, rm]
 obtain ⟨zero, hzero⟩ : ∃ zero : Array Value, (n * P.cellsOf (ZR P T) = 0 -> zero = #[]) /\ (¬ n * P.cellsOf (ZR P T) = 0 -> zero = z.cells) := by
  by_cases h0 : n * P.cellsOf (ZR P T) = 0
  ·exact ⟨#[], fun _ => rfl, fun hh => absurd h0 hh⟩
  ·exact ⟨z.cells, fun hh => absurd hh h0, fun _ => rfl⟩
 obtain ⟨uN, ys, h1, h2, h3, h4, h5⟩ := Pw r (ZR P T) (P.cellsOf (ZR P T)) parts.toList 0 rows ((Array.range (n * P.cellsOf (ZR P T))).map (zero[· % zero.size]!)) hb (by simp [hn])
 have sE : ys.length = n * P.cellsOf (ZR P T) := by rw [h3.length, YI rows _ h4, h5, hn]
 have uu : uN.toList = ys := by
  rw [h2]
  unfold place
  simp [sE]
 have rO : (parts.map fun (x : Nat × Operand) => (x.1, a.eval x.2)).toList = parts.toList.map fun x => (x.1, a.eval x.2) := by simp
 have uY : (execOp a.eval o).run P w = .ok (.value (.slice (some ⟨w.heap.size, 0, none⟩) n n)) (w.alloc (.cells uN (ZR P T))) := by
  have re : ¬ (n * P.cellsOf (ZR P T) > 2 ^ 24) := by omega
  by_cases h0 : n * P.cellsOf (ZR P T) = 0
  ·have pg := hzero.1 h0
   subst pg
   simp only [execOp, uE, Instr.buildSlice, Sem.run_bind, run_underlying hu, Result.andThen_ok, JG hi, if_neg re, if_pos h0, rO, h1, newRow, Sem.run_pure, run_newObj_alloc]
  ·have pg := hzero.2 h0
   subst pg
   simp only [execOp, uE, Instr.buildSlice, Sem.run_bind, run_underlying hu, Result.andThen_ok, JG hi, if_neg re, if_neg h0, sw, rO, h1, newRow, Sem.run_pure, run_newObj_alloc]
 unfold Oper.wp
 rw [uY, Oper.upon_value, hd]
 have hlen : rows.length = n := by rw [h5, hn]
 have ov := World.grownBy_alloc w (.cells uN (ZR P T)) none
 have r2 := r.grow (X' := fun b => X b \/ b = w.heap.size) ov (fun b hb => .inl hb) (fun b hb => hb.imp id (fun hh => by subst hh; exact ⟨Nat.le_refl _, by simp⟩))
 have hT : ∀ b k v, Tof T0 X b k -> w.cell? ⟨b, k, none⟩ = some v -> (w.alloc (.cells uN (ZR P T))).cell? ⟨b, k, none⟩ = some v /\ Tof T0 (fun b => X b \/ b = w.heap.size) b k := by
  intro b k v hb uM
  refine ⟨?_, hb.imp id .inl⟩
  rw [World.cell?_of_block (ov.block b (r.Tlt hb) (by simp))]; exact uM
 have nU : uN.size = n * P.cellsOf (ZR P T) := by rw [<- Array.length_toList, uu, sE]
 have sV : n <= maxLen := by
  have : n <= n * P.cellsOf (ZR P T) := Nat.le_mul_of_pos_right _ tO
  simp only [maxLen]; omega
 refine hK _ _ ⟨_, _, r2.put d _ _ ?_⟩ (Yr.Vh ov r.hB)
 exact Es (e := ZR P T) (xs := ys) ⟨by rw [sE, hlen], .inr ⟨w.heap.size, n, uN, by rw [hlen], Nat.zero_le _, heap_alloc_new w _, by omega, sV, nU, by rw [uu, hlen, List.take_of_length_le (by omega)]⟩⟩ h4 (fun b k hb => by simp [blk] at hb; subst hb; exact .inr (.inr rfl)) (h3.imp fun _ _ => Rd.mono hT)
def zD : List At -> Option (List D)
 | [] => some []
 | .d x :: xs => (zD xs).map (x :: ·)
 | .nil s :: xs => (zD xs).map (.sl s [] :: ·)
 | _ => none
theorem H6 {T : CS} {ob : Nat -> Nat -> Ob} : ∀ {xs : List At} {ds : List D} {vs : List Value}, zD xs = some ds -> Z5 (YH T h ob w) xs vs -> Z5 (Rd T w) vs ds
 | [], ds, vs, hz, uJ => by cases uJ; simp [zD] at hz; subst hz; exact .nil
 | x :: xs, ds, vs, hz, uJ => by
  cases uJ with
  | cons hx uJ =>
   cases x with
   | d x =>
    simp only [zD, Option.map_eq_some_iff] at hz
    obtain ⟨oP, sv, rfl⟩ := hz
    exact .cons hx (H6 sv uJ)
   | nil s =>
    simp only [zD, Option.map_eq_some_iff] at hz
    obtain ⟨oP, sv, rfl⟩ := hz
    cases hx
    exact .cons (.nil _) (H6 sv uJ)
   | any => simp [zD] at hz
   | sref => simp [zD] at hz
   | ptr => simp [zD] at hz
   | bptr => simp [zD] at hz
   | fn => simp [zD] at hz
   | rptr => simp [zD] at hz
   | tref => simp [zD] at hz
theorem qO {α : Type} (z : List α) (n k : Nat) (hk : k < n * z.length) : (List.replicate n z).flatten[k]? = z[k % z.length]? := by
 induction n generalizing k with
 | zero => simp at hk
 | succ n ih =>
  rw [List.replicate_succ, List.flatten_cons]
  rcases Nat.lt_or_ge k z.length with uQ | r6
  ·rw [List.getElem?_append_left uQ, Nat.mod_eq_of_lt uQ]
  ·rw [List.getElem?_append_right r6, ih (k - z.length) (by rw [Nat.add_mul] at hk; omega)]
   congr 1
   rw [Nat.mod_eq_sub_mod r6]
theorem O8 (r : Rel T0 B σ a w X h) {o : Oper} {T : TypeId} {x : Operand} {d : Nat} {k : IntKind} {n : Nat} {z : List At} {zr : List D} (uE : o.op = .makeSlice T x x) (hd : o.dst = some d) (tD : σ.fresh d = true)
  (ht : Y2 P T = true) (hz : Xn P (ZR P T) = true) (sn : jO P 12 (ZR P T) = some z) (gQ : zD z = some zr) (tO : 0 < P.cellsOf (ZR P T)) (hx : kW P σ x k (n : Int)) (nO : P.bytesOf (ZR P T) * n <= 281474976710656) (nN : n <= 9223372036854775807)
  {K : Act -> World -> Prop} {Q : Exit -> Act -> World -> Prop} (hK : ∀ a' w', Q0 T0 B (σ.new d (.one (.sref d 0 0 n)) [.arr false (P.cellsOf (ZR P T)) (List.replicate n zr)]) a' w' -> Yr B w w' -> K a' w') : o.wp P a w K Q := by
 obtain ⟨ti, hu, hi, s8⟩ := XT ht
 obtain ⟨i, zv, row, tk, rm, nR, rA, pI, sC, sc⟩ := zC hz
 rw [hi] at tk; cases tk
 rw [sn] at nR; cases nR
 have hex := z7 r hx
 have lH : (ti.bytes : Int) * (n : Int) <= 281474976710656 := by
  have : P.bytesOf (ZR P T) = ti.bytes := by simp [Program.bytesOf, hi]
  rw [this] at nO
  have h : ((ti.bytes * n : Nat) : Int) <= 281474976710656 := by omega
  rwa [Int.natCast_mul] at h
 have uY := run_make (P := P) w T (ZR P T) ti zv hu hi rm k k n n (by omega) (Int.le_refl _) lH (by omega)
 simp only [Int.toNat_natCast] at uY
 unfold Oper.wp
 simp only [execOp, uE, hex, Sem.run_bind, uY, Result.andThen_ok, Sem.run_pure, Oper.upon_value, hd]
 have n9 := H6 gQ (sc (Tof T0 X) h σ.ob w)
 have hE := n9.length
 have e1 : zv.cells.toList.length = zv.cells.size := Array.length_toList
 have p9 : zr.length = ti.size := by omega
 have hT : ∀ b k v, Tof T0 X b k -> w.cell? ⟨b, k, none⟩ = some v -> (w.alloc (.cells (madeCells zv.cells (n * ti.size)) (ZR P T))).cell? ⟨b, k, none⟩ = some v /\ Tof T0 X b k := by
  intro b k v hb uM
  refine ⟨?_, hb⟩
  rw [World.cell?_of_block ((World.grownBy_alloc w (.cells (madeCells zv.cells (n * ti.size)) (ZR P T)) none).block b (r.Tlt hb) (by simp))]; exact uM
 have rR : (madeCells zv.cells (n * ti.size)).toList.length = n * ti.size := by rw [Array.length_toList, size_madeCells]
 have nV : ∀ q u, (madeCells zv.cells (n * ti.size)).toList[q]? = some u -> zv.cells.toList[q % ti.size]? = some u := by
  intro q u hq
  have uQ : q < n * ti.size := by have := (List.getElem?_eq_some_iff.1 hq).1; omega
  have lI : q % ti.size < zv.cells.size := by rw [pI]; exact Nat.mod_lt _ (by omega)
  have : (madeCells zv.cells (n * ti.size)).toList[q]? = some (zv.cells[q % zv.cells.size]!) := by
   simp [madeCells, uQ]
  rw [this] at hq
  cases hq
  rw [pI]
  simp [lI]
 have pX : Z5 (Rd (Tof T0 X) w) (madeCells zv.cells (n * ti.size)).toList (List.replicate n zr).flatten := by
  refine Z5.zq (by rw [rR, YI _ ti.size (by intro q hq; rw [List.eq_of_mem_replicate hq]; exact p9)]; simp) (fun q u dd hq sP => ?_)
  have uQ : q < n * ti.size := by have := (List.getElem?_eq_some_iff.1 hq).1; omega
  rw [qO zr n q (by rw [p9]; exact uQ), p9] at sP
  obtain ⟨d', uU, tS⟩ := n9.get _ _ (nV q u hq)
  rw [sP] at uU; cases uU
  exact tS
 have := r.C9 tD (World.grownBy_alloc w (.cells (madeCells zv.cells (n * ti.size)) (ZR P T)) none) (.slice (some ⟨w.heap.size, 0, none⟩) n n) (size := P.cellsOf (ZR P T)) (rows := List.replicate n zr)
  ⟨ZR P T, (madeCells zv.cells (n * ti.size)).toList, ⟨by rw [rR, sC]; simp, .inr ⟨w.heap.size, n, _, by simp, Nat.zero_le _, heap_alloc_new w _, by simp, by simp only [maxLen]; omega, by rw [size_madeCells, sC], by rw [List.take_of_length_le (by rw [rR, sC]; simp)]⟩⟩,
   (by intro q hq; rw [List.eq_of_mem_replicate hq]; omega), pX.imp fun _ _ => Rd.mono hT⟩
  (fun b hb => by simp [blk] at hb; subst hb; exact ⟨Nat.le_refl _, by simp⟩)
 rw [List.length_replicate] at this
 exact hK _ _ this.1 this.2
end
end Go.Vm
namespace Go.Vm
open Go.RowKit
def J6 (l : List UInt8) : List (List D) := l.map fun b => [D.int .u8 (b.toNat : Int)]
def R0 (P : Program) (t : TypeId) : Bool := match P.underlying t with
 | some (.slice e) => (match P.underlying e with | some (.int .u8) => true | _ => false)
 | _ => false
theorem Ok {P : Program} {t : TypeId} (ht : R0 P t = true) : ∃ e, P.underlying t = some (.slice e) /\ P.underlying e = some (.int .u8) := by
 unfold R0 at ht
 split at ht
 ·rename_i e he
  split at ht
  ·rename_i h2; exact ⟨e, he, h2⟩
  ·cases ht
 ·cases ht
theorem Vg (l : List UInt8) : (J6 l).flatten = l.map fun b => D.int .u8 (b.toNat : Int) := by
 induction l with
 | nil => rfl
 | cons b l ih => simp only [J6, List.map_cons, List.flatten_cons] at ih ⊢; rw [ih]; rfl
section
variable {P : Program} {T0 : CS} {B : Nat -> Prop} {σ : St} {a : Act} {w w' : World} {X X' : Nat -> Prop} {h : Nat -> Nat -> Hd}
theorem T4 (r : Rel T0 B σ a w X h) {o : Oper} {S T : TypeId} {x : Operand} {l : List UInt8} (uE : o.op = .convert S T x) (hg : gOf (look P σ S x) = true) (hS : R0 P S = true) (hT : UQ P T = true)
  (rq : qz σ (unc (look P σ S x)) 1 (J6 l)) : ∃ val, (execOp a.eval o).run P w = .ok (.value val) w /\ QK (Tof T0 X) h σ.ob w (.one (.d (.str ⟨l.toArray⟩))) val := by
 obtain ⟨e, hs, he⟩ := Ok hS
 have hv := r.arg (P := P) S x rfl hg
 obtain ⟨_, tL⟩ := HI r rq hv
 refine ⟨.string ⟨l.toArray⟩, ?_, .str _⟩
 rcases tL with ⟨hex, rf⟩ | ⟨ad, c, xs, hex, uM, uJ⟩
 ·have hl : l = [] := by cases l with
   | nil => rfl
   | cons b l => simp [J6] at rf
  subst hl
  have hr : (convert S T (.slice none 0 0)).run P w = .ok (.string ⟨#[]⟩) w := by
   rw [run_convert_bytes_string w S T e none 0 0 hs he (xG hT)]
   rfl
  simp only [execOp, uE, hex, Sem.run_bind, hr, Result.andThen_ok, Sem.run_pure, List.toArray]
 ·have hlen : (J6 l).length = l.length := by simp [J6]
  rw [hlen] at hex
  have hr := run_convert_bytes_back (P := P) w S T e ad c l hs he (xG hT) (fun j hj => by
   rw [Vg] at uJ
   obtain ⟨u, hu, hr⟩ := uJ.get' j (D.int .u8 (l[j].toNat : Int)) (by simp [hj])
   have := UM hr
   subst this
   exact uM j _ hu)
  simp only [execOp, uE, hex, Sem.run_bind, hr, Result.andThen_ok, Sem.run_pure]
theorem Tz (r : Rel T0 B σ a w X h) {o : Oper} {S T : TypeId} {x : Operand} {d : Nat} {s : ByteArray} (uE : o.op = .convert S T x) (hd : o.dst = some d) (hg : gOf (look P σ S x) = true) (hS : UQ P S = true) (hT : R0 P T = true)
  (hx : unc (look P σ S x) = .one (.d (.str s))) (tM : s.size <= 9223372036854775807)
  {K : Act -> World -> Prop} {Q : Exit -> Act -> World -> Prop} (hK : ∀ a' w', Q0 T0 B (σ.put d (.one (.d (.sl 1 (J6 s.data.toList))))) a' w' -> Yr B w w' -> K a' w') : o.wp P a w K Q := by
 obtain ⟨e, sP, he⟩ := Ok hT
 have hex := U1 (r.arg (P := P) S x hx hg)
 have uY := run_bytes_of_string (P := P) w S T e s (xG hS) sP he
 unfold Oper.wp
 simp only [execOp, uE, hex, Sem.run_bind, uY, Result.andThen_ok, Sem.run_pure, Oper.upon_value, hd]
 generalize tn : grownCap w s.size 0 e = cap at *
 have r6 : s.size <= cap := by rw [<- tn]; exact grownCap_ge w s.size 0 e
 have sV : cap <= maxLen := by rw [<- tn]; exact grownCap_le_maxLen w s.size 0 e (by simp only [maxLen]; omega)
 generalize hw' : w.drew.alloc (.cells (bytesRow s cap) e ((bytesRow s cap).size, (bytesRow s cap).size + 1)) = w'
 have ov : w.grownBy w' none := by
  rw [<- hw']
  exact ⟨rfl, rfl, rfl, by simp, fun k hk _ => (World.grownBy_alloc w.drew _ none).block k hk (by simp)⟩
 have pU : w'.heap[w.heap.size]? = some (.cells (bytesRow s cap) e ((bytesRow s cap).size, (bytesRow s cap).size + 1)) := by rw [<- hw']; exact heap_alloc_new w.drew _
 have hG : w.heap.size < w'.heap.size := (Array.getElem?_eq_some_iff.1 pU).1
 have r2 := r.grow (X' := fun b => X b \/ b = w.heap.size) ov (fun b hb => .inl hb) (fun b hb => hb.imp id (fun hh => by subst hh; exact ⟨Nat.le_refl _, hG⟩))
 refine hK _ _ ⟨_, _, r2.put d _ _ ?_⟩ (Yr.Vh ov r.hB)
 have tb := Vg s.data.toList
 refine Rd.sl ⟨w.heap.size, 0, none⟩ s.size cap 1 _ (fun k => .int .u8 ((s.data.toList.getD k 0).toNat : Int)) (by simp [J6]) r6 sV (by intro q hq; simp [J6] at hq; obtain ⟨b, _, rfl⟩ := hq; rfl) (fun _ => rfl) (fun k dd hk => ?_) (fun k dd hk => ?_)
 ·rw [tb, List.getElem?_map] at hk
  cases hb : s.data.toList[k]? with
  | none => rw [hb] at hk; cases hk
  | some b =>
   refine ⟨?_, .inr (.inr rfl)⟩
   simp only [Nat.zero_add]
   refine J0 pU _ _ ?_
   have fe : k < s.data.size := by have := (List.getElem?_eq_some_iff.1 hb).1; simpa using this
   simp only [bytesRow]
   rw [Array.toList_append, List.getElem?_append_left (by simpa using fe)]
   simp [hb]
 ·rw [tb, List.getElem?_map] at hk
  cases hb : s.data.toList[k]? with
  | none => rw [hb] at hk; cases hk
  | some b =>
   rw [hb] at hk; cases hk
   rw [List.getD_eq_getElem?_getD, hb]
   exact .int _ _
end
end Go.Vm
namespace Go.Vm
open Go.RowKit
def XE : List At -> List (Nat × Nat)
 | [] => []
 | .sref t j _ _ :: xs => (t, j) :: XE xs
 | _ :: xs => XE xs
def mvD (σ : St) : At -> Option D
 | .d (.sl _ _) => none
 | .d x => some x
 | .nil s => some (.sl s [])
 | .sref t j lo len => (match σ.ob t j with | .arr _ size rows => if lo = 0 /\ len = rows.length then some (.sl size rows) else none | _ => none)
 | _ => none
def IV (σ : St) : At -> Prop
 | .sref t j _ _ => (match σ.ob t j with | .arr false _ rows => ∀ r ∈ rows, ∀ x ∈ r, x.scalar = true | _ => True)
 | _ => True
def JO (σ : St) : List At -> Option (List D)
 | [] => some []
 | x :: xs => (match mvD σ x, JO σ xs with | some d, some ds => some (d :: ds) | _, _ => none)
def QG (σ : St) : List At -> Prop
 | [] => True
 | x :: xs => IV σ x /\ QG σ xs
def JS (σ : St) : List (List At) -> Option (List (List D))
 | [] => some []
 | xs :: rest => (match JO σ xs, JS σ rest with | some r, some rs => some (r :: rs) | _, _ => none)
def JD (σ : St) : List (List At) -> Prop
 | [] => True
 | x :: xs => QG σ x /\ JD σ xs
theorem OT : ∀ (xs : List At) (i j : Nat) (t u lo len oO rk : Nat), (XE xs).Nodup -> xs[i]? = some (.sref t u lo len) -> xs[j]? = some (.sref t u oO rk) -> i = j := by
 intro xs
 induction xs with
 | nil => intro i j t u lo len oO rk _ hi; simp at hi
 | cons x xs ih =>
  intro i j t u lo len oO rk tN hi hj
  have mem : ∀ (k lo len : Nat), xs[k]? = some (At.sref t u lo len) -> (t, u) ∈ XE xs := by
   intro k lo len hk
   clear ih tN hi hj
   induction xs generalizing k with
   | nil => simp at hk
   | cons y ys nm =>
    cases k with
    | zero => simp at hk; subst hk; simp [XE]
    | succ k =>
     have := nm k (by simpa using hk)
     cases y <;> simp [XE, this]
  have cX : (XE xs).Nodup := by
   cases x <;> simp only [XE] at tN <;> first | exact tN | exact (List.nodup_cons.1 tN).2
  cases i with
  | zero =>
   simp at hi; subst hi
   cases j with
   | zero => rfl
   | succ j =>
    simp only [XE] at tN
    exact absurd (mem j oO rk (by simpa using hj)) (List.nodup_cons.1 tN).1
  | succ i =>
   cases j with
   | zero =>
    simp at hj; subst hj
    simp only [XE] at tN
    exact absurd (mem i lo len (by simpa using hi)) (List.nodup_cons.1 tN).1
   | succ j => rw [ih i j t u lo len oO rk cX (by simpa using hi) (by simpa using hj)]
theorem Im : ∀ {xs : List At} {k t j lo len : Nat}, xs[k]? = some (At.sref t j lo len) -> (t, j) ∈ XE xs
 | [], k, t, j, lo, len, h => by simp at h
 | x :: xs, 0, t, j, lo, len, h => by simp at h; subst h; simp [XE]
 | x :: xs, k + 1, t, j, lo, len, h => by
  have := Im (xs := xs) (k := k) (by simpa using h)
  cases x <;> simp [XE, this]
theorem qo {σ : St} : ∀ {xs : List At} {ds : List D}, JO σ xs = some ds -> xs.length = ds.length /\ ∀ (k : Nat) (x : At) (d : D), xs[k]? = some x -> ds[k]? = some d -> mvD σ x = some d
 | [], ds, h => by simp [JO] at h; subst h; exact ⟨rfl, fun k x d hx => by simp at hx⟩
 | x :: xs, ds, h => by
  simp only [JO] at h
  split at h
  ·rename_i d oP h1 h2
   cases h
   obtain ⟨hl, ih⟩ := qo h2
   refine ⟨by simp [hl], fun k y e hy he => ?_⟩
   cases k with
   | zero => simp at hy he; subst hy; subst he; exact h1
   | succ k => exact ih k y e (by simpa using hy) (by simpa using he)
  ·cases h
theorem RZ {σ : St} : ∀ {xs ys : List At} {ds es : List D}, JO σ xs = some ds -> JO σ ys = some es -> JO σ (xs ++ ys) = some (ds ++ es)
 | [], ys, ds, es, h1, h2 => by simp [JO] at h1; subst h1; simpa using h2
 | x :: xs, ys, ds, es, h1, h2 => by
  simp only [JO] at h1
  split at h1
  ·rename_i d oP h3 h4
   cases h1
   simp [JO, h3, RZ h4 h2]
  ·cases h1
theorem yA {σ : St} : ∀ {tY : List (List At)} {rs : List (List D)}, JS σ tY = some rs -> JO σ tY.flatten = some rs.flatten /\ tY.length = rs.length /\ ∀ n, (∀ x ∈ tY, x.length = n) -> ∀ r ∈ rs, r.length = n
 | [], rs, h => by simp [JS] at h; subst h; exact ⟨rfl, rfl, fun n _ r hr => by cases hr⟩
 | xs :: tY, rs, h => by
  simp only [JS] at h
  split at h
  ·rename_i r lN h1 h2
   cases h
   obtain ⟨i1, i2, i3⟩ := yA h2
   refine ⟨by rw [List.flatten_cons, List.flatten_cons]; exact RZ h1 i1, by simp [i2], fun n hn q hq => ?_⟩
   rcases List.mem_cons.1 hq with rfl | hq
   ·rw [<- (qo h1).1]; exact hn xs (by simp)
   ·exact i3 n (fun x hx => hn x (by simp [hx])) q hq
  ·cases h
theorem TI {σ : St} : ∀ {xs : List At}, QG σ xs -> ∀ (k : Nat) (x : At), xs[k]? = some x -> IV σ x
 | [], _, k, x, hx => by simp at hx
 | y :: xs, h, 0, x, hx => by simp at hx; subst hx; exact h.1
 | y :: xs, h, k + 1, x, hx => TI h.2 k x (by simpa using hx)
theorem TL {σ : St} : ∀ {xs ys : List At}, QG σ xs -> QG σ ys -> QG σ (xs ++ ys)
 | [], _, _, h => h
 | _ :: _, _, h1, h2 => ⟨h1.1, TL h1.2 h2⟩
theorem zV {σ : St} : ∀ {tY : List (List At)}, JD σ tY -> QG σ tY.flatten
 | [], _ => trivial
 | xs :: tY, h => by rw [List.flatten_cons]; exact TL h.1 (zV h.2)
section
variable {P : Program} {T0 : CS} {B : Nat -> Prop} {σ : St} {a : Act} {w w' : World} {X X' : Nat -> Prop} {h : Nat -> Nat -> Hd}
theorem Rd.own {T : CS} {v : Value} {d : D} {S : Nat -> Prop} (hs : d.scalar = true) (hr : Rd T w v d) : Own w v d S := by
 cases hr with
 | int k n => exact .int _ _ _
 | bool b => exact .bool _ _
 | str s => exact .str _ _
 | unk v h => exact .unk _ h _
 | nil => cases hs
 | sl => cases hs
theorem Rel.wL (r : Rel T0 B σ a w X h) {t j : Nat} {q : Bool} {size : Nat} {rows : List (List D)} (ho : σ.ob t j = .arr q size rows) (hq : q = false -> ∀ r ∈ rows, ∀ x ∈ r, x.scalar = true) : Own w (h t j).v (.sl size rows) (h t j).u := by
 have h0 := r.obj t j
 have th := r.ub t j
 rw [ho] at h0 th
 cases q with
 | false =>
  obtain ⟨e, xs, sX, hz, uJ⟩ := h0
  refine .sl _ size rows _ e xs (fun _ _ => False) sX hz (fun b hb => th b (by simp) hb) uJ.length (fun k x d hx hd => ?_) (fun k b hb => hb.elim) (fun i j b hb => hb.elim)
  obtain ⟨d', uU, hr⟩ := uJ.get k x hx
  rw [hd] at uU; cases uU
  obtain ⟨r0, rY, hdr⟩ := List.mem_flatten.1 (List.mem_of_getElem? hd)
  exact Rd.own (hq rfl r0 rY d hdr) hr
 | true =>
  obtain ⟨e, xs, sX, hz, ⟨hl, Sk, h1, h2, h3⟩, hn⟩ := h0
  exact .sl _ size rows _ e xs Sk sX hz (fun b hb => th b (by simp) hb) hl h1 (fun k b hb => h2 k b hb) h3
def Qg (σ : St) (h : Nat -> Nat -> Hd) (l : List (Nat × Nat)) (b : Nat) : Prop := ∃ p ∈ l, σ.ob p.1 p.2 ≠ .none /\ (h p.1 p.2).u b
theorem P5 (r : Rel T0 B σ a w X h) {xs : List At} {vs : List Value} {ds : List D} (uJ : Z5 (YH (Tof T0 X) h σ.ob w) xs vs) (s7 : JO σ xs = some ds) (uj : QG σ xs) (tN : (XE xs).Nodup) : Qt w vs ds (Qg σ h (XE xs)) := by
 obtain ⟨hl, s7⟩ := qo s7
 refine ⟨by rw [<- uJ.length, hl], fun k b => ∃ t j lo len, xs[k]? = some (.sref t j lo len) /\ σ.ob t j ≠ .none /\ (h t j).u b, fun k v d hv hd => ?_, ?_, ?_⟩
 ·obtain ⟨x, hx, hr⟩ := uJ.get' k v hv
  have hm := s7 k x d hx hd
  have ho := TI uj k x hx
  cases x with
  | d x =>
   cases x with
   | sl s rows => simp [mvD] at hm
   | int k n => simp [mvD] at hm; subst hm; exact Rd.own rfl hr
   | bool b => simp [mvD] at hm; subst hm; exact Rd.own rfl hr
   | str s => simp [mvD] at hm; subst hm; exact Rd.own rfl hr
   | unk => simp [mvD] at hm; subst hm; exact Rd.own rfl hr
  | nil s =>
   simp [mvD] at hm; subst hm
   cases hr
   exact .sl _ s [] _ 0 [] (fun _ _ => False) (World.ownsRow_nil w 0 0 s) (by intro q hq; cases hq) (fun b hb => by cases hb) rfl (fun k x d hx => by simp at hx) (fun k b hb => hb.elim) (fun i j b hb => hb.elim)
  | sref t j lo len =>
   simp only [mvD] at hm
   split at hm
   ·rename_i q size rows ua
    split at hm
    ·rename_i hc
     obtain ⟨rfl, rfl⟩ := hc
     cases hm
     obtain ⟨_, tr, _⟩ := hr.2.1 q size rows ua
     rw [tr rfl rfl]
     refine (r.wL ua (fun hq => ?_)).mono (fun b hb => ⟨t, j, 0, rows.length, hx, by rw [ua]; simp, hb⟩)
     subst hq
     simp only [IV, ua] at ho; exact ho
    ·cases hm
   ·cases hm
  | any => simp [mvD] at hm
  | ptr => simp [mvD] at hm
  | bptr => simp [mvD] at hm
  | fn => simp [mvD] at hm
  | rptr => simp [mvD] at hm
  | tref => simp [mvD] at hm
 ·rintro k b ⟨t, j, lo, len, hx, uH, hu⟩
  exact ⟨(t, j), Im hx, uH, hu⟩
 ·rintro i k b ⟨t, j, lo, len, hx, uH, hu⟩ ⟨t', j', oO, rk, pH, ux, sJ⟩
  obtain ⟨rfl, rfl⟩ := r.inj t j t' j' b uH ux hu sJ
  exact OT xs i k t j lo len oO rk tN hx pH
theorem Qt.append {xs ys : List Value} {ds es : List D} {S S' : Nat -> Prop} (h1 : Qt w xs ds S) (h2 : Qt w ys es S') (hd : ∀ b, S b -> S' b -> False) : Qt w (xs ++ ys) (ds ++ es) (fun b => S b \/ S' b) := by
 obtain ⟨l1, Sk, a1, a2, a3⟩ := h1
 obtain ⟨l2, nZ, b1, b2, b3⟩ := h2
 refine ⟨by simp [l1, l2], fun k => if k < xs.length then Sk k else nZ (k - xs.length), fun k x d hx uU => ?_, fun k b hb => ?_, fun i j b hi hj => ?_⟩
 ·by_cases hk : k < xs.length
  ·simp only [hk, if_true]
   rw [List.getElem?_append_left hk] at hx
   rw [List.getElem?_append_left (by omega)] at uU
   exact a1 k x d hx uU
  ·simp only [hk, if_false]
   rw [List.getElem?_append_right (by omega)] at hx
   rw [List.getElem?_append_right (by omega), <- l1] at uU
   exact b1 _ x d hx uU
 ·by_cases hk : k < xs.length
  ·simp only [hk, if_true] at hb; exact .inl (a2 k b hb)
  ·simp only [hk, if_false] at hb; exact .inr (b2 _ b hb)
 ·by_cases tk : i < xs.length
  ·simp only [tk, if_true] at hi
   by_cases ra : j < xs.length
   ·simp only [ra, if_true] at hj; exact a3 i j b hi hj
   ·simp only [ra, if_false] at hj; exact (hd b (a2 i b hi) (b2 _ b hj)).elim
  ·simp only [tk, if_false] at hi
   by_cases ra : j < xs.length
   ·simp only [ra, if_true] at hj; exact (hd b (a2 j b hj) (b2 _ b hi)).elim
   ·simp only [ra, if_false] at hj
    have := b3 _ _ b hi hj; omega
theorem Qt.mono {xs : List Value} {ds : List D} {S S' : Nat -> Prop} (hS : ∀ b, S b -> S' b) (h1 : Qt w xs ds S) : Qt w xs ds S' := by
 obtain ⟨l1, Sk, a1, a2, a3⟩ := h1
 exact ⟨l1, Sk, a1, fun k b hb => hS b (a2 k b hb), a3⟩
theorem Qt.nil (S : Nat -> Prop) : Qt w [] [] S := ⟨rfl, fun _ _ => False, fun k x d hx => by simp at hx, fun _ _ hb => hb.elim, fun _ _ _ hb => hb.elim⟩
theorem Rel.yI (r : Rel T0 B σ a w X h) (l : List (Nat × Nat)) (b : Nat) (hb : Qg σ h l b) : ¬ B b /\ ¬ X b /\ b < w.heap.size /\ ∀ u i, (σ.Zz l).ob u i ≠ .none -> ¬ (h u i).u b := by
 obtain ⟨p, hp, uH, hu⟩ := hb
 have ho := r.own p.1 p.2 b uH hu
 refine ⟨ho.1, ho.2.1, ho.2.2, fun u i hn sJ => ?_⟩
 rw [St.Js] at hn
 split at hn
 ·exact hn rfl
 ·rename_i mX
  obtain ⟨h1, h2⟩ := r.inj p.1 p.2 u i b uH hn hu sJ
  exact mX (by rw [<- h1, <- h2]; exact hp)
end
end Go.Vm
namespace Go.Vm
open Go.RowKit
section
variable {P : Program} {T0 : CS} {B : Nat -> Prop} {σ : St} {a : Act} {w w' : World} {X X' : Nat -> Prop} {h : Nat -> Nat -> Hd}
def R2 (P : Program) (σ : St) (T : TypeId) (size : Nat) : List (Nat × Operand) -> Nat -> List (List At) -> Prop
 | [], _, rs => rs = []
 | (i, x) :: ps, k, rs => i = k /\ gOf (look P σ T x) = true /\ (unc (look P σ T x)).flat = true /\ (unc (look P σ T x)).cells.length = size /\
   ∃ rest, R2 P σ T size ps (k + 1) rest /\ rs = (unc (look P σ T x)).cells :: rest
theorem FH (r : Rel T0 B σ a w X h) (T : TypeId) (size : Nat) : ∀ (ps : List (Nat × Operand)) (k : Nat) (rs : List (List At)) (cells : Array Value), R2 P σ T size ps k rs -> (k + ps.length) * size <= cells.size ->
   ∃ uN ys, Instr.fill (fun i => some (i * size, size)) cells (ps.map fun x => (x.1, a.eval x.2)) = some uN /\ uN.toList = place cells.toList (k * size) ys /\ Z5 (YH (Tof T0 X) h σ.ob w) rs.flatten ys /\ (∀ q ∈ rs, q.length = size) /\ rs.length = ps.length
 | [], k, rs, cells, hb, _ => by cases hb; exact ⟨cells, [], rfl, by simp [place], .nil, (by intro q hq; cases hq), rfl⟩
 | (i, x) :: ps, k, rs, cells, hb, hl => by
  obtain ⟨rfl, hg, hf, hlen, rest, hb, rfl⟩ := hb
  have hx := jV hf (r.arg (P := P) T x rfl hg)
  have n7 := hx.length
  have e1 : cells.toList.length = cells.size := Array.length_toList
  have e2 : (a.eval x).cells.toList.length = (a.eval x).cells.size := Array.length_toList
  have hmul : (i + (ps.length + 1)) * size = i * size + size + ps.length * size := by rw [Nat.add_mul, Nat.add_mul]; omega
  simp only [List.length_cons] at hl
  have heq := Vp (i * size) (a.eval x).cells cells (by omega)
  have rA : ((a.eval x).cells.zipIdx.foldl (fun cs x => cs.setIfInBounds (i * size + x.2) x.1) cells).size = cells.size := by
   rw [<- Array.length_toList, heq, XU _ _ _ (by omega), e1]
  have hD : (i + 1 + ps.length) * size = i * size + size + ps.length * size := by rw [Nat.add_mul, Nat.add_mul]; omega
  obtain ⟨uN, ys, h1, h2, h3, h4, h5⟩ := FH r T size ps (i + 1) rest _ hb (by rw [rA]; omega)
  have sE : ys.length = ps.length * size := by rw [<- h3.length, YI rest size h4, h5]
  refine ⟨uN, (a.eval x).cells.toList ++ ys, ?_, ?_, ?_, ?_, by simp [h5]⟩
  ·simp only [List.map_cons, Instr.fill]
   rw [if_neg (by simp; omega)]
   exact h1
  ·rw [h2, heq]
   rw [show (i + 1) * size = i * size + (a.eval x).cells.toList.length by rw [Nat.add_mul]; omega]
   exact Oi _ _ _ _ (by simp; omega)
  ·rw [List.flatten_cons]; exact hx.append h3
  ·intro q hq
   rcases List.mem_cons.1 hq with rfl | hq
   ·exact hlen
   ·exact h4 q hq
theorem TC (r : Rel T0 B σ a w X h) {o : Oper} {T : TypeId} {n : Nat} {parts : Array (Nat × Operand)} {d : Nat} {rows : List (List At)} (uE : o.op = .buildSlice T n parts) (hd : o.dst = some d) (tD : σ.fresh d = true)
  (ht : Y2 P T = true) (hz : Xn P (ZR P T) = true) (tO : 0 < P.cellsOf (ZR P T)) (hn : parts.toList.length = n) (ed : n * P.cellsOf (ZR P T) <= 16777216) (hb : R2 P σ (ZR P T) (P.cellsOf (ZR P T)) parts.toList 0 rows) (cM : YN d rows.flatten = false)
  {K : Act -> World -> Prop} {Q : Exit -> Act -> World -> Prop} (hK : ∀ a' w', Q0 T0 B (σ.new d (.one (.sref d 0 0 rows.length)) [.lit (P.cellsOf (ZR P T)) rows]) a' w' -> Yr B w w' -> K a' w') : o.wp P a w K Q := by
 obtain ⟨ti, hu, hi, s8⟩ := XT ht
 obtain ⟨i, z, row, tk, rm, sn, rA, pI, sC, sc⟩ := zC hz
 rw [hi] at tk; cases tk
 have sw : (zeroValue (ZR P T)).run P w = .ok z w := by simp [zeroValue, typeInfo, hi, rm]
 obtain ⟨zero, hzero⟩ : ∃ zero : Array Value, (n * P.cellsOf (ZR P T) = 0 -> zero = #[]) /\ (¬ n * P.cellsOf (ZR P T) = 0 -> zero = z.cells) := by
  by_cases h0 : n * P.cellsOf (ZR P T) = 0
  ·exact ⟨#[], fun _ => rfl, fun hh => absurd h0 hh⟩
  ·exact ⟨z.cells, fun hh => absurd hh h0, fun _ => rfl⟩
 obtain ⟨uN, ys, h1, h2, h3, h4, h5⟩ := FH r (ZR P T) (P.cellsOf (ZR P T)) parts.toList 0 rows ((Array.range (n * P.cellsOf (ZR P T))).map (zero[· % zero.size]!)) hb (by simp [hn])
 have sE : ys.length = n * P.cellsOf (ZR P T) := by rw [<- h3.length, YI rows _ h4, h5, hn]
 have uu : uN.toList = ys := by
  rw [h2]
  unfold place
  simp [sE]
 have rO : (parts.map fun (x : Nat × Operand) => (x.1, a.eval x.2)).toList = parts.toList.map fun x => (x.1, a.eval x.2) := by simp
 have uY : (execOp a.eval o).run P w = .ok (.value (.slice (some ⟨w.heap.size, 0, none⟩) n n)) (w.alloc (.cells uN (ZR P T))) := by
  have re : ¬ (n * P.cellsOf (ZR P T) > 2 ^ 24) := by omega
  by_cases h0 : n * P.cellsOf (ZR P T) = 0
  ·have pg := hzero.1 h0
   subst pg
   simp only [execOp, uE, Instr.buildSlice, Sem.run_bind, run_underlying hu, Result.andThen_ok, JG hi, if_neg re, if_pos h0, rO, h1, newRow, Sem.run_pure, run_newObj_alloc]
  ·have pg := hzero.2 h0
   subst pg
   simp only [execOp, uE, Instr.buildSlice, Sem.run_bind, run_underlying hu, Result.andThen_ok, JG hi, if_neg re, if_neg h0, sw, rO, h1, newRow, Sem.run_pure, run_newObj_alloc]
 unfold Oper.wp
 rw [uY, Oper.upon_value, hd]
 have hlen : rows.length = n := by rw [h5, hn]
 have hg := World.grownBy_alloc w (.cells uN (ZR P T)) none
 have uQ := St.JH tD
 have hT : ∀ b k v, Tof T0 X b k -> w.cell? ⟨b, k, none⟩ = some v -> (w.alloc (.cells uN (ZR P T))).cell? ⟨b, k, none⟩ = some v /\ Tof T0 X b k := by
  intro b k v hb uM
  refine ⟨?_, hb⟩
  rw [World.cell?_of_block (hg.block b (r.Tlt hb) (by simp))]; exact uM
 have nU : uN.size = n * P.cellsOf (ZR P T) := by rw [<- Array.length_toList, uu, sE]
 have sV : n <= maxLen := by
  have : n <= n * P.cellsOf (ZR P T) := Nat.le_mul_of_pos_right _ tO
  simp only [maxLen]; omega
 have uK : (w.alloc (.cells uN (ZR P T))).ownsRow 0 (ZR P T) (P.cellsOf (ZR P T)) (.slice (some ⟨w.heap.size, 0, none⟩) n n) rows.length ys :=
  ⟨by rw [sE, hlen], .inr ⟨w.heap.size, n, uN, by rw [hlen], Nat.zero_le _, heap_alloc_new w _, by omega, sV, nU, by rw [uu, hlen, List.take_of_length_le (by omega)]⟩⟩
 refine hK _ _ ⟨X, fun t j => if t = d then Hd.of (.slice (some ⟨w.heap.size, 0, none⟩) n n) else h t j, ?_⟩ (Yr.Vh hg r.hB)
 have tC : (σ.new d (.one (.sref d 0 0 rows.length)) [.lit (P.cellsOf (ZR P T)) rows]).ob d 0 = .lit (P.cellsOf (ZR P T)) rows := by rw [St.Qj]; simp [uQ, YU]
 have hc : ∀ t j, t ≠ d -> Cpt h (fun t j => if t = d then Hd.of (.slice (some ⟨w.heap.size, 0, none⟩) n n) else h t j) σ.ob (σ.new d (.one (.sref d 0 0 rows.length)) [.lit (P.cellsOf (ZR P T)) rows]).ob t j := by
  intro t j uH
  have he : (σ.new d (.one (.sref d 0 0 rows.length)) [.lit (P.cellsOf (ZR P T)) rows]).ob t j = σ.ob t j := by rw [St.Qj, if_neg (fun hh => uH hh.1)]
  exact Cpt.same (by simp [uH]) he
 refine r.new tD hg (fun _ hb => hb) (fun _ hb => .inl hb) _ _ [.lit (P.cellsOf (ZR P T)) rows] (fun _ => Hd.of (.slice (some ⟨w.heap.size, 0, none⟩) n n)) ?_ (fun j => ?_) (fun j b _ hb => hb) (fun j b _ uP => ?_) (fun j j' b uH ux _ _ => ?_)
 ·refine ⟨QJ uK, fun q' ug uT uc => (by rw [tC] at uc; cases uc), fun ug uT uc => ?_⟩
  rw [tC] at uc; cases uc
  simp only [if_true]
  exact xy uK
 ·cases j with
  | zero => exact ⟨ZR P T, ys, uK, h4, kC hT hc cM h3⟩
  | succ j => simp [YU, Qs]
 ·simp [Hd.of, blk] at uP; subst uP
  refine ⟨Nat.le_refl _, fun pH => ?_, by simp⟩
  have := (r.hX _ pH).2; omega
 ·have : ∀ j, YU [Ob.lit (P.cellsOf (ZR P T)) rows] j ≠ .none -> j = 0 := by
   intro j hj
   cases j with
   | zero => rfl
   | succ j => simp [YU] at hj
  rw [this j uH, this j' ux]
theorem EX {T : CS} {ob : Nat -> Nat -> Ob} : ∀ {xs : List At} {ds : List D} {vs : List Value}, zD xs = some ds -> Z5 (YH T h ob w) xs vs -> (∀ x ∈ xs, ∀ s r, x ≠ .d (.sl s r)) -> ∀ (w' : World) (S : Nat -> Prop) (k : Nat) (v : Value) (d : D), vs[k]? = some v -> ds[k]? = some d -> Own w' v d S
 | [], ds, vs, hz, uJ, _, w', S, k, v, d, hv, _ => by cases uJ; simp at hv
 | x :: xs, ds, vs, hz, uJ, pc, w', S, k, v, d, hv, hd => by
  cases uJ with
  | cons hx uJ =>
   cases x with
   | d x =>
    simp only [zD, Option.map_eq_some_iff] at hz
    obtain ⟨oP, sv, rfl⟩ := hz
    cases k with
    | zero =>
     simp at hv hd; subst hv; subst hd
     cases x with
     | sl s r => exact absurd rfl (pc _ (by simp) s r)
     | int k n => cases (show Rd _ _ _ _ from hx); exact .int _ _ _
     | bool b => cases (show Rd _ _ _ _ from hx); exact .bool _ _
     | str s => cases (show Rd _ _ _ _ from hx); exact .str _ _
     | unk => exact .unk _ (Rd.Xc hx) _
    | succ k => exact EX sv uJ (fun x hx => pc x (by simp [hx])) w' S k v d (by simpa using hv) (by simpa using hd)
   | nil s =>
    simp only [zD, Option.map_eq_some_iff] at hz
    obtain ⟨oP, sv, rfl⟩ := hz
    cases k with
    | zero =>
     simp at hv hd; subst hv; subst hd
     cases hx
     exact .sl _ s [] _ 0 [] (fun _ _ => False) (World.ownsRow_nil w' 0 0 s) (by intro q hq; cases hq) (fun b hb => by cases hb) rfl (fun k x d hx => by simp at hx) (fun k b hb => hb.elim) (fun i j b hb => hb.elim)
    | succ k => exact EX sv uJ (fun x hx => pc x (by simp [hx])) w' S k v d (by simpa using hv) (by simpa using hd)
   | any => simp [zD] at hz
   | sref => simp [zD] at hz
   | ptr => simp [zD] at hz
   | bptr => simp [zD] at hz
   | fn => simp [zD] at hz
   | rptr => simp [zD] at hz
   | tref => simp [zD] at hz
def DU (σ : St) (x : V) (size : Nat) (uG : List (List D)) (l : List (Nat × Nat)) : Prop :=
 match x with
 | .one (.nil _) => uG = [] /\ l = []
 | .one (.sref t j lo len) => σ.ob t j = .arr true size uG /\ lo = 0 /\ len = uG.length /\ l = [(t, j)]
 | _ => False
def Dx (σ : St) (x : V) (size : Nat) (news : List (List D)) (l : List (Nat × Nat)) : Prop :=
 match x with
 | .one (.sref t j lo len) => ∃ rows, σ.ob t j = .lit size rows /\ lo = 0 /\ len = rows.length /\ JS σ rows = some news /\ JD σ rows /\ l = XE rows.flatten
 | _ => False
theorem Lt (r : Rel T0 B σ a w X h) {o : Oper} {t : TypeId} {x y : Operand} {d : Nat} {uG news : List (List D)} {l1 l2 : List (Nat × Nat)} (uE : o.op = .call ⟨.builtin .append, #[x, y], #[t, t]⟩) (hd : o.dst = some d)
  (ry : gOf (look P σ t x) = true) (rz : gOf (look P σ t y) = true) (ht : Y2 P t = true) (hz : Xn P (ZR P t) = true) (tO : 0 < P.cellsOf (ZR P t))
  (tu : DU σ (unc (look P σ t x)) (P.cellsOf (ZR P t)) uG l1) (rq : Dx σ (unc (look P σ t y)) (P.cellsOf (ZR P t)) news l2) (tN : (l1 ++ l2).Nodup) (tD : (σ.Zz (l1 ++ l2)).fresh d = true)
  (tK : (uG.length + news.length) * P.bytesOf (ZR P t) <= 140737488355328) (nN : uG.length + news.length <= 9223372036854775807)
  {K : Act -> World -> Prop} {Q : Exit -> Act -> World -> Prop} (hK : ∀ a' w', Q0 T0 B ((σ.Zz (l1 ++ l2)).new d (.one (.sref d 0 0 (uG.length + news.length))) [.arr true (P.cellsOf (ZR P t)) (uG ++ news)]) a' w' -> Yr B w w' -> K a' w') : o.wp P a w K Q := by
 obtain ⟨ti, hu, hi, s8⟩ := XT ht
 obtain ⟨i, z, row, tk, rm, sn, rA, pI, sC, sc⟩ := zC hz
 rw [hi] at tk; cases tk
 have nO : P.bytesOf (ZR P t) = ti.bytes := by simp [Program.bytesOf, hi]
 rw [nO] at tK
 rw [<- sC] at tu rq tO hK
 have pY := r.arg (P := P) t x rfl ry
 have nj := r.arg (P := P) t y rfl rz
 obtain ⟨t2, j2, rows, cP, o8, s7, pL, n7⟩ : ∃ t2 j2 rows, unc (look P σ t y) = .one (.sref t2 j2 0 rows.length) /\ σ.ob t2 j2 = .lit ti.size rows /\ JS σ rows = some news /\ JD σ rows /\ l2 = XE rows.flatten := by
  unfold Dx at rq
  split at rq
  ·rename_i t2 j2 lo len heq
   obtain ⟨rows, ho, rfl, rfl, hm, hk, rfl⟩ := rq
   exact ⟨t2, j2, rows, heq, ho, hm, hk, rfl⟩
  ·exact rq.elim
 subst n7
 obtain ⟨fV, iu, fW⟩ := yA s7
 have hH := zV pL
 rw [cP] at nj
 have h0 := r.obj t2 j2
 rw [o8] at h0
 obtain ⟨e2, ys, u9, lC, pX⟩ := h0
 obtain ⟨_, lD, _⟩ := nj.2.2 _ _ o8
 have hJ : a.eval y = (h t2 j2).v := lD rfl rfl
 have lB : ∀ q ∈ news, q.length = ti.size := fW _ lC
 have sS := P5 r pX fV hH (List.nodup_append.1 tN).2.1
 have tx : ∃ e0 xs, w.ownsRow 0 e0 ti.size (a.eval x) uG.length xs /\ (∀ q ∈ uG, q.length = ti.size) /\ Qt w xs uG.flatten (fun b => Qg σ h l1 b /\ blk (a.eval x) ≠ some b) /\ (∀ b, blk (a.eval x) = some b -> Qg σ h l1 b) := by
  unfold DU at tu
  split at tu
  ·rename_i s heq
   obtain ⟨rfl, rfl⟩ := tu
   rw [heq] at pY
   have he : a.eval x = .slice none 0 0 := pY
   rw [he]
   exact ⟨0, [], World.ownsRow_nil w 0 0 _, (by intro q hq; cases hq), Qt.nil _, (fun b hb => by cases hb)⟩
  ·rename_i u j lo len heq
   obtain ⟨ho, rfl, rfl, rfl⟩ := tu
   rw [heq] at pY
   have pZ : YH (Tof T0 X) h σ.ob w (.sref u j 0 uG.length) (a.eval x) := pY
   obtain ⟨_, tr, _⟩ := pZ.2.1 _ _ _ ho
   have he : a.eval x = (h u j).v := tr rfl rfl
   have h0 := r.obj u j
   rw [ho] at h0
   obtain ⟨e, xs, uK, tj, uJ, hn⟩ := h0
   have ua : σ.ob u j ≠ .none := by rw [ho]; simp
   rw [he]
   exact ⟨e, xs, uK, tj, uJ.mono (fun b hb => ⟨⟨(u, j), by simp, ua, hb.1⟩, hb.2⟩), fun b hb => ⟨(u, j), by simp, ua, r.ub u j b ua hb⟩⟩
  ·exact tu.elim
 obtain ⟨e0, xs, uK, ir, nQ, tv⟩ := tx
 have p8 : ∀ q ∈ uG ++ news, q.length = ti.size := by
  intro q hq
  rcases List.mem_append.1 hq with hq | hq
  ·exact ir q hq
  ·exact lB q hq
 have sE : ys.length = news.length * ti.size := by rw [sS.1, YI news ti.size lB]
 have sN : ∀ b, Qg σ h l1 b -> Qg σ h (XE rows.flatten) b -> False := by
  rintro b ⟨p, hp, uH, hu⟩ ⟨p', og, ux, sJ⟩
  obtain ⟨e1, e2⟩ := r.inj p.1 p.2 p'.1 p'.2 b uH ux hu sJ
  have sr : p = p' := Prod.ext e1 e2
  subst sr
  exact (List.nodup_append.1 tN).2.2 p hp p og rfl
 have oA : ∀ b, Qg σ h (l1 ++ XE rows.flatten) b ↔ Qg σ h l1 b \/ Qg σ h (XE rows.flatten) b := by
  intro b
  constructor
  ·rintro ⟨p, hp, hr⟩
   rcases List.mem_append.1 hp with hp | hp
   ·exact .inl ⟨p, hp, hr⟩
   ·exact .inr ⟨p, hp, hr⟩
  ·rintro (⟨p, hp, hr⟩ | ⟨p, hp, hr⟩)
   ·exact ⟨p, by simp [hp], hr⟩
   ·exact ⟨p, by simp [hp], hr⟩
 have r1 := r.Zz (l1 ++ XE rows.flatten)
 have ui := r.yI (l1 ++ XE rows.flatten)
 have uQ := St.JH tD
 have key : ∀ (v' : Value) (w' : World) (e1 : TypeId), (Builtin.append_ #[t, t] o.type #[a.eval x, a.eval y]).run P w = .ok v' w' -> w'.ownsRow 0 e1 ti.size v' (uG.length + news.length) (xs ++ ys) ->
   w.grownBy w' (blk (a.eval x)) -> (∀ b, blk v' = some b -> (w.heap.size <= b /\ b < w'.heap.size) \/ blk (a.eval x) = some b) -> o.wp P a w K Q := by
  intro v' w' e1 uY uc tR pJ
  unfold Oper.wp
  have rQ : (execOp a.eval o).run P w = .ok (.value v') w' := by
   simp only [execOp, uE, resolve, invoke, builtin, Sem.run_bind, Sem.run_pure, Result.andThen_ok, List.map_toArray, List.map_cons, List.map_nil, uY]
  rw [rQ, Oper.upon_value, hd]
  refine hK _ _ ⟨X, fun u j => if u = d then ⟨v', fun k => ((xs ++ ys)[k]?).getD undef, fun b => blk v' = some b \/ (Qg σ h (l1 ++ XE rows.flatten) b /\ blk (a.eval x) ≠ some b)⟩ else h u j, ?_⟩
   ⟨tR.os, tR.tape, tR.output, tR.size, fun k hk => tR.block k (r.hB k hk) (fun e => (ui k ((oA k).2 (.inl (tv k e.symm)))).1 hk)⟩
  have tC : ((σ.Zz (l1 ++ XE rows.flatten)).new d (.one (.sref d 0 0 (uG.length + news.length))) [.arr true ti.size (uG ++ news)]).ob d 0 = .arr true ti.size (uG ++ news) := by rw [St.Qj]; simp [uQ, YU]
  have u9 : w'.ownsRow 0 e1 ti.size v' (uG ++ news).length (xs ++ ys) := by rw [List.length_append]; exact uc
  have uZ : ∀ b, blk (a.eval x) ≠ some b -> b < w.heap.size -> w'.heap[b]? = w.heap[b]? := fun b hb hl => tR.block b hl (fun e => hb e.symm)
  have hO : Qt w' (xs ++ ys) (uG ++ news).flatten (fun b => (blk v' = some b \/ (Qg σ h (l1 ++ XE rows.flatten) b /\ blk (a.eval x) ≠ some b)) /\ blk v' ≠ some b) := by
   rw [List.flatten_append]
   have h1 : Qt w' xs uG.flatten (fun b => Qg σ h l1 b /\ blk (a.eval x) ≠ some b) := nQ.V2 (fun b hb => uZ b hb.2 (ui b ((oA b).2 (.inl hb.1))).2.2.1)
   have pn : ∀ b, Qg σ h (XE rows.flatten) b -> blk (a.eval x) ≠ some b := fun b hb e => sN b (tv b e) hb
   have h2 : Qt w' ys news.flatten (Qg σ h (XE rows.flatten)) := sS.V2 (fun b hb => uZ b (pn b hb) (ui b ((oA b).2 (.inr hb))).2.2.1)
   refine (h1.append h2 (fun b tf tA => sN b tf.1 tA)).mono (fun b hb => ?_)
   have hg : Qg σ h (l1 ++ XE rows.flatten) b /\ blk (a.eval x) ≠ some b := by
    rcases hb with hb | hb
    ·exact ⟨(oA b).2 (.inl hb.1), hb.2⟩
    ·exact ⟨(oA b).2 (.inr hb), pn b hb⟩
   refine ⟨.inr hg, fun e => ?_⟩
   rcases pJ b e with hl | hl
   ·have := (ui b hg.1).2.2.1; omega
   ·exact hg.2 hl
  refine r1.Hn tD (Qg σ h (l1 ++ XE rows.flatten)) tR.size (fun k hk uH => tR.block k hk (fun e => uH ((oA k).2 (.inl (tv k e.symm))))) (fun b hb => ⟨(ui b hb).1, (ui b hb).2.1, fun u j _ uH => (ui b hb).2.2.2 u j uH⟩) (fun _ hb => hb) (fun _ hb => .inl hb) _ _ [.arr true ti.size (uG ++ news)]
   (fun _ => ⟨v', fun k => ((xs ++ ys)[k]?).getD undef, fun b => blk v' = some b \/ (Qg σ h (l1 ++ XE rows.flatten) b /\ blk (a.eval x) ≠ some b)⟩) ?_ (fun j => ?_) (fun j b _ hb => .inl hb) (fun j b uH uP => ?_) (fun j j' b uH ux _ _ => ?_)
  ·refine ⟨QJ uc, fun q' ug uT hh => ?_, fun ug uT hh => by rw [tC] at hh; cases hh⟩
   rw [tC] at hh; cases hh
   simp only [if_true, List.length_append]
   have := xy u9
   rwa [List.length_append] at this
  ·cases j with
   | zero => exact ⟨e1, xs ++ ys, u9, p8, hO, fun k x d hx _ _ => by simp [hx]⟩
   | succ j => simp [YU, Qs]
  ·rcases uP with uP | uP
   ·rcases pJ b uP with h1 | h1
    ·exact ⟨.inl h1.1, fun hx => by have := (r.hX b hx).2; omega, h1.2⟩
    ·have h3 := (oA b).2 (.inl (tv b h1))
     have h2 := ui b h3
     exact ⟨.inr h3, h2.2.1, by have := tR.size; omega⟩
   ·have h2 := ui b uP.1
    exact ⟨.inr uP.1, h2.2.1, by have := tR.size; omega⟩
  ·have : ∀ j, YU [Ob.arr true ti.size (uG ++ news)] j ≠ .none -> j = 0 := by
    intro j hj
    cases j with
    | zero => rfl
    | succ j => simp [YU] at hj
   rw [this j uH, this j' ux]
 rcases u9.2 with ⟨lF, gM⟩ | ⟨g2, iz, cS, tU, _, rD, cT, cU, cV, fZ⟩
 ·have uV : rows = [] := List.eq_nil_of_length_eq_zero gM
  have tZ : news = [] := List.eq_nil_of_length_eq_zero (by rw [<- iu, gM])
  have lJ : ys = [] := List.eq_nil_of_length_eq_zero (by rw [sE, tZ]; simp)
  have ur : ∃ base cap, a.eval x = .slice base uG.length cap /\ uG.length <= cap /\ (base = none -> cap = 0) := by
   rcases uK.2 with ⟨h1, h2⟩ | ⟨g, cap, cur, h1, _, _, tz, _⟩
   ·exact ⟨none, 0, by rw [h1, h2], by omega, fun _ => rfl⟩
   ·exact ⟨_, cap, h1, tz, (fun hh => by cases hh)⟩
  obtain ⟨base, cap, hex, tz, nz⟩ := ur
  refine key (a.eval x) w e0 ?_ (by rw [lJ, tZ]; simpa using uK) ⟨rfl, rfl, rfl, Nat.le_refl _, fun _ _ _ => rfl⟩ (fun b hb => .inr hb)
  rw [hJ, lF]
  rw [hex]
  exact K6 t o.type _ ti hu hi base uG.length cap tz nz
 ·have nS : a.eval y = .slice (some ⟨g2, 0, none⟩) news.length iz := by rw [hJ, tU, iu]
  have uM : ∀ j u, ys[j]? = some u -> w.cell? ((⟨g2, 0, none⟩ : Addr).add j) = some u := by
   intro j u sJ
   rw [z8]
   refine J0 rD _ _ ?_
   rw [<- fZ, List.getElem?_take] at sJ
   split at sJ
   ·simpa using sJ
   ·cases sJ
  obtain ⟨v', w', e1, uY, uc, tR, pJ⟩ := xd (P := P) (w := w) t o.type _ e0 ti z hu hi rm pI (by omega) (a.eval x) uG.length xs uK ⟨g2, 0, none⟩ news.length iz ys sE uM
   (fun u sJ => by
    obtain ⟨x', _, pH⟩ := pX.mem sJ
    exact YH.Xc pH) (by simp only [maxLen]; omega) tK
  refine key v' w' e1 ?_ uc tR pJ
  rw [nS]; exact uY
theorem Qt.pick {xs : List Value} {ds : List D} {S : Nat -> Prop} (h1 : Qt w xs ds S) {p q n : Nat} (hp : p <= q) (hq : q + n <= xs.length) : Qt w (xs.take p ++ cut xs q n) (ds.take p ++ cut ds q n) S := by
 obtain ⟨hl, Sk, hk, hs, hd⟩ := h1
 have pv : (xs.take p).length = p := by rw [List.length_take]; omega
 have oZ : (ds.take p).length = p := by rw [List.length_take]; omega
 refine ⟨by rw [List.length_append, List.length_append, pv, oZ, Yu _ _ _ hq, Yu _ _ _ (by omega)], fun k => if k < p then Sk k else Sk (q + (k - p)), fun k x d hx uU => ?_, fun k b hb => ?_, fun i j b hi hj => ?_⟩
 ·by_cases hR : k < p
  ·rw [List.getElem?_append_left (by omega)] at hx uU
   rw [List.getElem?_take, if_pos hR] at hx uU
   simp only [if_pos hR]
   exact hk k x d hx uU
  ·rw [List.getElem?_append_right (by omega), pv] at hx
   rw [List.getElem?_append_right (by omega), oZ] at uU
   simp only [if_neg hR]
   exact hk _ x d (J7 _ _ _ _ _ hx) (J7 _ _ _ _ _ uU)
 ·dsimp only at hb
  split at hb <;> exact hs _ b hb
 ·dsimp only at hi hj
  split at hi <;> split at hj
  ·exact hd _ _ b hi hj
  ·have := hd _ _ b hi hj; omega
  ·have := hd _ _ b hi hj; omega
  ·have := hd _ _ b hi hj; omega
theorem TZ (rows : List (List D)) (size : Nat) (hz : ∀ r ∈ rows, r.length = size) (lo n : Nat) (hle : lo + n <= rows.length) : (cut rows lo n).flatten = cut rows.flatten (lo * size) (n * size) := by
 have cZ : ∀ r ∈ rows.drop lo, r.length = size := fun r hr => hz r (List.mem_of_mem_drop hr)
 have e1 : (rows.drop lo).flatten = rows.flatten.drop (lo * size) := by
  have h1 := JT rows size hz lo (by omega)
  have h2 : (rows.take lo).flatten ++ (rows.drop lo).flatten = rows.flatten := by rw [<- List.flatten_append, List.take_append_drop]
  have h3 : (rows.take lo).flatten.length = lo * size := by rw [YI _ size (fun r hr => hz r (List.mem_of_mem_take hr)), List.length_take]; congr 1; omega
  rw [<- h2, <- h3, List.drop_left]
 unfold cut
 rw [JT (rows.drop lo) size cZ n (by rw [List.length_drop]; omega), e1]
theorem IJ (r : Rel T0 B σ a w X h) {o : Oper} {t : TypeId} {x y : Operand} {d u j len lo n : Nat} {rows : List (List D)} (uE : o.op = .call ⟨.builtin .append, #[x, y], #[t, t]⟩) (hd : o.dst = some d)
  (ry : gOf (look P σ t x) = true) (rz : gOf (look P σ t y) = true) (ht : Y2 P t = true) (hz : Xn P (ZR P t) = true) (tO : 0 < P.cellsOf (ZR P t))
  (hx : unc (look P σ t x) = .one (.sref u j 0 len)) (hy : unc (look P σ t y) = .one (.sref u j lo n)) (ho : σ.ob u j = .arr true (P.cellsOf (ZR P t)) rows) (hle : len <= lo) (pB : lo + n <= rows.length) (tD : (σ.Zz [(u, j)]).fresh d = true)
  (tK : (len + n) * P.bytesOf (ZR P t) <= 140737488355328) (nN : len + n <= 9223372036854775807)
  {K : Act -> World -> Prop} {Q : Exit -> Act -> World -> Prop} (hK : ∀ a' w', Q0 T0 B ((σ.Zz [(u, j)]).new d (.one (.sref d 0 0 (len + n))) [.arr true (P.cellsOf (ZR P t)) (rows.take len ++ cut rows lo n)]) a' w' -> Yr B w w' -> K a' w') : o.wp P a w K Q := by
 obtain ⟨ti, hu, hi, s8⟩ := XT ht
 obtain ⟨i, z, row, tk, rm, sn, rA, pI, sC, sc⟩ := zC hz
 rw [hi] at tk; cases tk
 have nO : P.bytesOf (ZR P t) = ti.bytes := by simp [Program.bytesOf, hi]
 rw [nO] at tK
 rw [<- sC] at ho tO hK
 have pY := r.arg (P := P) t x rfl ry
 have nj := r.arg (P := P) t y rfl rz
 rw [hx] at pY
 rw [hy] at nj
 have pZ : YH (Tof T0 X) h σ.ob w (.sref u j 0 len) (a.eval x) := pY
 have lK : YH (Tof T0 X) h σ.ob w (.sref u j lo n) (a.eval y) := nj
 obtain ⟨_, _, sF, _⟩ := pZ.2.1 _ _ _ ho
 have he : a.eval x = Rf (h u j).v len := sF rfl
 obtain ⟨_, _, _, base, cap, nS, tn, nh, oD, hb⟩ := lK.2.1 _ _ _ ho
 have h0 := r.obj u j
 rw [ho] at h0
 obtain ⟨e0, zs, nT, tj, uJ, hn⟩ := h0
 have ua : σ.ob u j ≠ .none := by rw [ho]; simp
 have hE : zs.length = rows.length * ti.size := nT.1
 have ff : len * ti.size <= lo * ti.size := Nat.mul_le_mul_right _ hle
 have lL : lo * ti.size + n * ti.size <= zs.length := by rw [hE, <- Nat.add_mul]; exact Nat.mul_le_mul_right _ pB
 let xs := zs.take (len * ti.size)
 let ys := cut zs (lo * ti.size) (n * ti.size)
 have uK : w.ownsRow 0 e0 ti.size (a.eval x) len xs := by rw [he]; exact xh nT (by omega)
 have sE : ys.length = n * ti.size := Yu _ _ _ lL
 have hP : blk (a.eval x) = blk (h u j).v := by rw [he, kH]
 have ta : (rows.take len ++ cut rows lo n).flatten = rows.flatten.take (len * ti.size) ++ cut rows.flatten (lo * ti.size) (n * ti.size) := by
  rw [List.flatten_append, JT rows ti.size tj len (by omega), TZ rows ti.size tj lo n pB]
 have p8 : ∀ q ∈ rows.take len ++ cut rows lo n, q.length = ti.size := by
  intro q hq
  rcases List.mem_append.1 hq with hq | hq
  ·exact tj q (List.mem_of_mem_take hq)
  ·exact tj q (List.mem_of_mem_drop (List.mem_of_mem_take hq))
 have hlen : (rows.take len ++ cut rows lo n).length = len + n := by rw [List.length_append, List.length_take, Yu _ _ _ pB]; omega
 have lO : ∀ b, (h u j).u b -> Qg σ h [(u, j)] b := fun b hb => ⟨(u, j), by simp, ua, hb⟩
 have tv : ∀ b, blk (a.eval x) = some b -> Qg σ h [(u, j)] b := fun b hb => lO b (r.ub u j b ua (by rw [<- hP]; exact hb))
 have r1 := r.Zz [(u, j)]
 have ui := r.yI [(u, j)]
 have uQ := St.JH tD
 have key : ∀ (v' : Value) (w' : World) (e1 : TypeId), (Builtin.append_ #[t, t] o.type #[a.eval x, a.eval y]).run P w = .ok v' w' -> w'.ownsRow 0 e1 ti.size v' (len + n) (xs ++ ys) ->
   w.grownBy w' (blk (a.eval x)) -> (∀ b, blk v' = some b -> (w.heap.size <= b /\ b < w'.heap.size) \/ blk (a.eval x) = some b) -> o.wp P a w K Q := by
  intro v' w' e1 uY uc tR pJ
  unfold Oper.wp
  have rQ : (execOp a.eval o).run P w = .ok (.value v') w' := by
   simp only [execOp, uE, resolve, invoke, builtin, Sem.run_bind, Sem.run_pure, Result.andThen_ok, List.map_toArray, List.map_cons, List.map_nil, uY]
  rw [rQ, Oper.upon_value, hd]
  refine hK _ _ ⟨X, fun u' j' => if u' = d then ⟨v', fun k => ((xs ++ ys)[k]?).getD undef, fun b => blk v' = some b \/ (Qg σ h [(u, j)] b /\ blk (a.eval x) ≠ some b)⟩ else h u' j', ?_⟩
   ⟨tR.os, tR.tape, tR.output, tR.size, fun k hk => tR.block k (r.hB k hk) (fun e => (ui k (tv k e.symm)).1 hk)⟩
  have tC : ((σ.Zz [(u, j)]).new d (.one (.sref d 0 0 (len + n))) [.arr true ti.size (rows.take len ++ cut rows lo n)]).ob d 0 = .arr true ti.size (rows.take len ++ cut rows lo n) := by rw [St.Qj]; simp [uQ, YU]
  have u9 : w'.ownsRow 0 e1 ti.size v' (rows.take len ++ cut rows lo n).length (xs ++ ys) := by rw [hlen]; exact uc
  have uZ : ∀ b, blk (a.eval x) ≠ some b -> b < w.heap.size -> w'.heap[b]? = w.heap[b]? := fun b hb hl => tR.block b hl (fun e => hb e.symm)
  have hO : Qt w' (xs ++ ys) (rows.take len ++ cut rows lo n).flatten (fun b => (blk v' = some b \/ (Qg σ h [(u, j)] b /\ blk (a.eval x) ≠ some b)) /\ blk v' ≠ some b) := by
   rw [ta]
   have h1 : Qt w (xs ++ ys) (rows.flatten.take (len * ti.size) ++ cut rows.flatten (lo * ti.size) (n * ti.size)) (fun b => Qg σ h [(u, j)] b /\ blk (a.eval x) ≠ some b) :=
    (uJ.pick ff lL).mono (fun b hb => ⟨lO b hb.1, by rw [hP]; exact hb.2⟩)
   refine (h1.V2 (fun b hb => uZ b hb.2 (ui b hb.1).2.2.1)).mono (fun b hb => ⟨.inr hb, fun e => ?_⟩)
   rcases pJ b e with hl | hl
   ·have := (ui b hb.1).2.2.1; omega
   ·exact hb.2 hl
  refine r1.Hn tD (Qg σ h [(u, j)]) tR.size (fun k hk uH => tR.block k hk (fun e => uH (tv k e.symm))) (fun b hb => ⟨(ui b hb).1, (ui b hb).2.1, fun u' j' _ uH => (ui b hb).2.2.2 u' j' uH⟩) (fun _ hb => hb) (fun _ hb => .inl hb) _ _ [.arr true ti.size (rows.take len ++ cut rows lo n)]
   (fun _ => ⟨v', fun k => ((xs ++ ys)[k]?).getD undef, fun b => blk v' = some b \/ (Qg σ h [(u, j)] b /\ blk (a.eval x) ≠ some b)⟩) ?_ (fun j' => ?_) (fun j' b _ hb => .inl hb) (fun j' b uH uP => ?_) (fun j1 j2 b uH ux _ _ => ?_)
  ·refine ⟨QJ uc, fun q' ug uT hh => ?_, fun ug uT hh => by rw [tC] at hh; cases hh⟩
   rw [tC] at hh; cases hh
   simp only [if_true]
   have := xy u9
   rw [hlen] at this ⊢
   exact this
  ·cases j' with
   | zero => exact ⟨e1, xs ++ ys, u9, p8, hO, fun k x d hx _ _ => by simp [hx]⟩
   | succ j' => simp [YU, Qs]
  ·rcases uP with uP | uP
   ·rcases pJ b uP with h1 | h1
    ·exact ⟨.inl h1.1, fun hx => by have := (r.hX b hx).2; omega, h1.2⟩
    ·have h3 := tv b h1
     have h2 := ui b h3
     exact ⟨.inr h3, h2.2.1, by have := tR.size; omega⟩
   ·have h2 := ui b uP.1
    exact ⟨.inr uP.1, h2.2.1, by have := tR.size; omega⟩
  ·have : ∀ j, YU [Ob.arr true ti.size (rows.take len ++ cut rows lo n)] j ≠ .none -> j = 0 := by
    intro j hj
    cases j with
    | zero => rfl
    | succ j => simp [YU] at hj
   rw [this j1 uH, this j2 ux]
 cases base with
 | none =>
  have lW := oD rfl
  subst lW
  have fg : n = 0 := by omega
  subst fg
  have lJ : ys = [] := List.eq_nil_of_length_eq_zero (by rw [sE]; simp)
  have ur : ∃ base cap, a.eval x = .slice base len cap /\ len <= cap /\ (base = none -> cap = 0) := by
   rcases uK.2 with ⟨h1, h2⟩ | ⟨g, cap, cur, h1, _, _, tz, _⟩
   ·exact ⟨none, 0, by rw [h1, h2], by omega, fun _ => rfl⟩
   ·exact ⟨_, cap, h1, tz, (fun hh => by cases hh)⟩
  obtain ⟨base, cap, hex, tz, nz⟩ := ur
  refine key (a.eval x) w e0 ?_ (by rw [lJ]; simpa using uK) ⟨rfl, rfl, rfl, Nat.le_refl _, fun _ _ _ => rfl⟩ (fun b hb => .inr hb)
  rw [nS, hex]
  exact K6 t o.type _ ti hu hi base len cap tz nz
 | some ad =>
  have uM : ∀ k v, ys[k]? = some v -> w.cell? (ad.add k) = some v := by
   intro k v hv
   have sM : 0 < n := by
    rcases Nat.eq_zero_or_pos n with h0 | h0
    ·have hk := (List.getElem?_eq_some_iff.1 hv).1
     rw [sE, h0] at hk
     simp at hk
    ·exact h0
   obtain ⟨b, rn, hh, rN⟩ := hb sM
   cases rN
   rcases nT.2 with ⟨lF, _⟩ | ⟨g, oc, cur, s6, _, m3, tz, sV, sU, ss⟩
   ·rw [hh] at lF; cases lF
   ·rw [hh] at s6; cases s6
    have h1 := J7 _ _ _ _ _ hv
    rw [z8]
    refine J0 m3 _ _ ?_
    rw [<- ss, List.getElem?_take] at h1
    split at h1
    ·exact h1
    ·cases h1
  have fX : ∀ v ∈ ys, v.oneCell' = true := by
   intro v hv
   have tU : v ∈ zs := List.mem_of_mem_drop (List.mem_of_mem_take hv)
   obtain ⟨hl, Sk, hk, _⟩ := uJ
   obtain ⟨k, s9⟩ := List.mem_iff_getElem?.1 tU
   have pq : k < rows.flatten.length := by rw [<- hl]; exact (List.getElem?_eq_some_iff.1 s9).1
   exact (hk k v _ s9 (List.getElem?_eq_getElem pq)).Xc
  obtain ⟨v', w', e1, uY, uc, tR, pJ⟩ := xd (P := P) (w := w) t o.type _ e0 ti z hu hi rm pI (by omega) (a.eval x) len xs uK ad n cap ys sE uM fX (by simp only [maxLen]; omega) tK
  refine key v' w' e1 ?_ uc tR pJ
  rw [nS]; exact uY
end
end Go.Vm
namespace Go.Vm
open Go.RowKit
def Is : List At -> Bool
 | [] => true
 | .d (.sl _ _) :: _ => false
 | _ :: xs => Is xs
theorem Fj : ∀ {xs : List At}, Is xs = true -> ∀ x ∈ xs, ∀ s r, x ≠ .d (.sl s r)
 | [], _, x, hx, _, _ => by cases hx
 | y :: xs, h, x, hx, s, r => by
  have h2 : Is xs = true /\ ∀ s r, y ≠ .d (.sl s r) := by
   cases y with
   | d z => cases z with
    | sl s r => cases h
    | _ => exact ⟨h, fun s r e => by cases e⟩
   | _ => exact ⟨h, fun s r e => by cases e⟩
  rcases List.mem_cons.1 hx with rfl | hx
  ·exact h2.2 s r
  ·exact Fj h2.1 x hx s r
section
variable {P : Program} {T0 : CS} {B : Nat -> Prop} {σ : St} {a : Act} {w w' : World} {X X' : Nat -> Prop} {h : Nat -> Nat -> Hd}
theorem N7 (r : Rel T0 B σ a w X h) {o : Oper} {T : TypeId} {x : Operand} {d : Nat} {k : IntKind} {n : Nat} {z : List At} {zr : List D} (uE : o.op = .makeSlice T x x) (hd : o.dst = some d) (tD : σ.fresh d = true)
  (ht : Y2 P T = true) (hz : Xn P (ZR P T) = true) (sn : jO P 12 (ZR P T) = some z) (gQ : zD z = some zr) (cN : Is z = true) (tO : 0 < P.cellsOf (ZR P T)) (hx : kW P σ x k (n : Int)) (nO : P.bytesOf (ZR P T) * n <= 281474976710656) (nN : n <= 9223372036854775807)
  {K : Act -> World -> Prop} {Q : Exit -> Act -> World -> Prop} (hK : ∀ a' w', Q0 T0 B (σ.new d (.one (.sref d 0 0 n)) [.arr true (P.cellsOf (ZR P T)) (List.replicate n zr)]) a' w' -> Yr B w w' -> K a' w') : o.wp P a w K Q := by
 obtain ⟨ti, hu, hi, s8⟩ := XT ht
 obtain ⟨i, zv, row, tk, rm, nR, rA, pI, sC, sc⟩ := zC hz
 rw [hi] at tk; cases tk
 rw [sn] at nR; cases nR
 have hex := z7 r hx
 have lH : (ti.bytes : Int) * (n : Int) <= 281474976710656 := by
  have : P.bytesOf (ZR P T) = ti.bytes := by simp [Program.bytesOf, hi]
  rw [this] at nO
  have h : ((ti.bytes * n : Nat) : Int) <= 281474976710656 := by omega
  rwa [Int.natCast_mul] at h
 have uY := run_make (P := P) w T (ZR P T) ti zv hu hi rm k k n n (by omega) (Int.le_refl _) lH (by omega)
 simp only [Int.toNat_natCast] at uY
 unfold Oper.wp
 simp only [execOp, uE, hex, Sem.run_bind, uY, Result.andThen_ok, Sem.run_pure, Oper.upon_value, hd]
 have n9 := H6 gQ (sc (Tof T0 X) h σ.ob w)
 have hE := n9.length
 have e1 : zv.cells.toList.length = zv.cells.size := Array.length_toList
 have p9 : zr.length = ti.size := by omega
 have rR : (madeCells zv.cells (n * ti.size)).toList.length = n * ti.size := by rw [Array.length_toList, size_madeCells]
 have nV : ∀ q u, (madeCells zv.cells (n * ti.size)).toList[q]? = some u -> zv.cells.toList[q % ti.size]? = some u := by
  intro q u hq
  have uQ : q < n * ti.size := by have := (List.getElem?_eq_some_iff.1 hq).1; omega
  have lI : q % ti.size < zv.cells.size := by rw [pI]; exact Nat.mod_lt _ (by omega)
  have : (madeCells zv.cells (n * ti.size)).toList[q]? = some (zv.cells[q % zv.cells.size]!) := by
   simp [madeCells, uQ]
  rw [this] at hq
  cases hq
  rw [pI]
  simp [lI]
 have pX : Qt (w.alloc (.cells (madeCells zv.cells (n * ti.size)) (ZR P T))) (madeCells zv.cells (n * ti.size)).toList (List.replicate n zr).flatten (fun _ => False) := by
  refine ⟨by rw [rR, YI _ ti.size (by intro q hq; rw [List.eq_of_mem_replicate hq]; exact p9)]; simp, fun _ _ => False, fun q u dd hq sP => ?_, fun _ _ hb => hb, fun _ _ _ hb => hb.elim⟩
  have uQ : q < n * ti.size := by have := (List.getElem?_eq_some_iff.1 hq).1; omega
  rw [qO zr n q (by rw [p9]; exact uQ), p9] at sP
  exact EX gQ (sc (Tof T0 X) h σ.ob w) (Fj cN) _ _ _ u dd (nV q u hq) sP
 have := r.BL tD (World.grownBy_alloc w (.cells (madeCells zv.cells (n * ti.size)) (ZR P T)) none) (.slice (some ⟨w.heap.size, 0, none⟩) n n) (e := ZR P T) (size := P.cellsOf (ZR P T)) (rows := List.replicate n zr) (xs := (madeCells zv.cells (n * ti.size)).toList)
  ⟨by rw [rR, sC]; simp, .inr ⟨w.heap.size, n, _, by simp, Nat.zero_le _, heap_alloc_new w _, by simp, by simp only [maxLen]; omega, by rw [size_madeCells, sC], by rw [List.take_of_length_le (by rw [rR, sC]; simp)]⟩⟩
  (by intro q hq; rw [List.eq_of_mem_replicate hq]; omega) pX
  (fun b hb => by simp [blk] at hb; subst hb; exact ⟨Nat.le_refl _, by simp⟩)
 rw [List.length_replicate] at this
 exact hK _ _ this.1 this.2
theorem Qt.place {xs ys : List Value} {ds es : List D} {S S' : Nat -> Prop} (h1 : Qt w xs ds S) (h2 : Qt w ys es S') (hd : ∀ b, S b -> S' b -> False) (o : Nat) (ho : o + ys.length <= xs.length) : Qt w (Vm.place xs o ys) (Vm.place ds o es) (fun b => S b \/ S' b) := by
 obtain ⟨l1, Sk, a1, a2, a3⟩ := h1
 obtain ⟨l2, nZ, b1, b2, b3⟩ := h2
 refine ⟨by rw [XU _ _ _ ho, XU _ _ _ (by omega), l1], fun k => if o <= k /\ k < o + ys.length then nZ (k - o) else Sk k, fun k x d hx uU => ?_, fun k b hb => ?_, fun i j b hi hj => ?_⟩
 ·rcases qd xs o ys ho k x hx with ⟨p1, p2, p3⟩ | ⟨p1, p3⟩
  ·rcases qd ds o es (by omega) k d uU with ⟨_, _, p4⟩ | ⟨p4, _⟩
   ·simp only [p1, p2, and_self, if_true]; exact b1 _ x d p3 p4
   ·exact absurd ⟨p1, by omega⟩ p4
  ·rcases qd ds o es (by omega) k d uU with ⟨p4, p5, _⟩ | ⟨_, p4⟩
   ·exact absurd ⟨p4, by omega⟩ p1
   ·simp only [p1, if_false]; exact a1 k x d p3 p4
 ·by_cases hk : o <= k /\ k < o + ys.length
  ·simp only [hk, and_self, if_true] at hb; exact .inr (b2 _ b hb)
  ·simp only [hk, if_false] at hb; exact .inl (a2 k b hb)
 ·by_cases tk : o <= i /\ i < o + ys.length
  ·simp only [tk, and_self, if_true] at hi
   by_cases ra : o <= j /\ j < o + ys.length
   ·simp only [ra, and_self, if_true] at hj
    have := b3 _ _ b hi hj; omega
   ·simp only [ra, if_false] at hj; exact (hd b (a2 j b hj) (b2 _ b hi)).elim
  ·simp only [tk, if_false] at hi
   by_cases ra : o <= j /\ j < o + ys.length
   ·simp only [ra, and_self, if_true] at hj; exact (hd b (a2 i b hi) (b2 _ b hj)).elim
   ·simp only [ra, if_false] at hj; exact a3 i j b hi hj
theorem NW (r : Rel T0 B σ a w X h) {o : Oper} {T : TypeId} {x y : Operand} (uE : o.op = .store T x y) (hd : o.dst = none) (ht : yW P T = true) (ry : gOf (look P σ 0 x) = true) (rz : gOf (look P σ T y) = true)
  {t j i c : Nat} (hx : unc (look P σ 0 x) = .one (.ptr t j i c)) {size : Nat} {rows : List (List D)} (ho : σ.ob t j = .arr true size rows) (hi : i < rows.length) {ds : List D} (tb : (unc (look P σ T y)).flat = true) (oC : JO σ (unc (look P σ T y)).cells = some ds) (uj : QG σ (unc (look P σ T y)).cells)
  (tN : (XE (unc (look P σ T y)).cells).Nodup) (mO : (t, j) ∉ XE (unc (look P σ T y)).cells) (cO : (σ.Zz (XE (unc (look P σ T y)).cells)).zb (At.isT t) = false) (hl : ds.length = P.cellsOf T) (hle : c + P.cellsOf T <= size)
  {K : Act -> World -> Prop} {Q : Exit -> Act -> World -> Prop} (hK : ∀ a' w', Q0 T0 B ((σ.Zz (XE (unc (look P σ T y)).cells)).Zs t j (.arr true size (rows.set i (place (rows.getD i []) c ds)))) a' w' -> Yr B w w' -> K a' w') : o.wp P a w K Q := by
 obtain ⟨_, ti, _, iq, _, _⟩ := qQ ht
 have lG := r.arg (P := P) 0 x hx ry
 obtain ⟨b, cap, cur, e, xs, hb, he, hh, tn, sV, sU, ss, hz, pW, _, uK⟩ := r.arr ho lG
 obtain ⟨uK, hn⟩ := uK rfl
 have hy := jV tb (r.arg (P := P) T y rfl rz)
 have sS := P5 r hy oC uj tN
 have sE := sS.1
 have e2 : (a.eval y).cells.toList.length = (a.eval y).cells.size := Array.length_toList
 have e3 : cur.toList.length = cur.size := Array.length_toList
 have um : rows[i]? = some (rows.getD i []) := by simp [List.getD_eq_getElem?_getD, List.getElem?_eq_getElem hi]
 have hmul : i * size + size <= rows.length * size := by rw [<- Nat.succ_mul]; exact Nat.mul_le_mul_right _ hi
 have mQ : rows.length * size <= cap * size := Nat.mul_le_mul_right _ tn
 have uY := run_store (P := P) (w := w) iq (o := i * size + c) (val := a.eval y) hh (by omega) (by omega) (fun u hu => by obtain ⟨x', _, pH⟩ := hy.mem hu; exact YH.Xc pH)
 have ua : σ.ob t j ≠ .none := by rw [ho]; simp
 have uo : blk (h t j).v = some b := by rw [hb]; rfl
 have hB := r.AX ua uo
 have th := r.ub t j b ua uo
 have oR : xs.length = rows.length * size := by rw [pW, YI rows size hz]
 have pS : (rows.getD i []).length = size := hz _ (List.mem_of_getElem? um)
 generalize hL : XE (unc (look P σ T y)).cells = L at *
 have r1 := r.Zz L
 have rC : (σ.Zz L).ob t j = .arr true size rows := by rw [St.Js, if_neg mO, ho]
 have ui := r.yI L
 have sN : ∀ b', (h t j).u b' -> Qg σ h L b' -> False := by
  rintro b' sJ ⟨p, hp, uH, iv⟩
  obtain ⟨q1, q2⟩ := r.inj t j p.1 p.2 b' ua uH sJ iv
  exact mO (by rw [q1, q2]; exact hp)
 unfold Oper.wp
 simp only [execOp, uE, he, Sem.run_bind, uY, Result.andThen_ok, Sem.run_pure, Oper.upon_skip, hd]
 refine hK _ _ ⟨X, _, r1.change (by rw [rC]; simp) (by simp [World.setRow]) (fun k hk => setRow_other w b k _ (fun e => hk (e ▸ th))) (Qg σ h L) (fun b' uP => ui b' uP) _ (by rw [rC]; simp [Ob.D2])
  ⟨(h t j).v, fun k => ((place xs (i * size + c) (a.eval y).cells.toList)[k]?).getD undef, fun b' => (h t j).u b' \/ Qg σ h L b'⟩ rfl (fun b' uP => uP) (fun b' uP => .inl (r.ub t j b' ua uP)) (At.isT t) cO (.inl (fun u i c => by simp [At.isT])) ?_⟩ (Yr.setRow hB.1 _)
 have te := setRow_heap w b cur (place cur.toList (i * size + c) (a.eval y).cells.toList).toArray e (0, 0) hh
 have uZ : ∀ b', b' ≠ b -> (w.setRow b (place cur.toList (i * size + c) (a.eval y).cells.toList).toArray).heap[b']? = w.heap[b']? := fun b' uH => setRow_other w b b' _ uH
 have sv : ∀ r ∈ rows.set i (place (rows.getD i []) c ds), r.length = size := by
  intro r' tS
  rcases List.mem_or_eq_of_mem_set tS with tS | tS
  ·exact hz r' tS
  ·rw [tS, XU _ _ _ (by omega), pS]
 refine ⟨e, place xs (i * size + c) (a.eval y).cells.toList, ⟨?_, .inr ⟨b, cap, _, by simpa using hb, Nat.zero_le _, te, by simpa using tn, sV, ?_, ?_⟩⟩, sv, ?_, fun k u d hu _ _ => by simp [hu]⟩
 ·rw [XU _ _ _ (by omega), oR]; simp
 ·simp only [List.size_toArray]
  rw [XU _ _ _ (by omega), e3, sU]
 ·simp only [List.length_set]
  rw [RH _ _ _ _ (by omega) (by omega), ss]
 ·rw [zS size c ds (by omega) rows i _ um hz]
  have k1 : Qt (w.setRow b (place cur.toList (i * size + c) (a.eval y).cells.toList).toArray) xs rows.flatten (fun b => (h t j).u b /\ blk (h t j).v ≠ some b) := uK.V2 (fun b' uP => uZ b' (fun e => uP.2 (by rw [e]; exact uo)))
  have k2 : Qt (w.setRow b (place cur.toList (i * size + c) (a.eval y).cells.toList).toArray) (a.eval y).cells.toList ds (Qg σ h L) := sS.V2 (fun b' uP => uZ b' (fun e => sN b' (by rw [e]; exact th) uP))
  refine (k1.place k2 (fun b' h1 h2 => sN b' h1.1 h2) _ (by omega)).mono (fun b' uP => ?_)
  rcases uP with uP | uP
  ·exact ⟨.inl uP.1, uP.2⟩
  ·exact ⟨.inr uP, fun e => sN b' (r.ub t j b' ua e) uP⟩
theorem Own.CG {v : Value} {n : Nat} {s : List (List D)} {S S2 : Nat -> Prop} (sX : Own w v (.sl n s) S) {k q : Nat} (hk : k < s.length) {ys : List Value} {ds : List D} (hy : Qt w ys ds S2) (hle : q + ds.length <= n) (hd : ∀ b, S b -> S2 b -> False) :
  ∃ g cap cur e, v = .slice (some ⟨g, 0, none⟩) s.length cap /\ S g /\ w.heap[g]? = some (.cells cur e (0, 0)) /\ k * n + q + ys.length <= cur.size /\ Own (w.setRow g (place cur.toList (k * n + q) ys).toArray) v (.sl n (s.set k (place (s.getD k []) q ds))) (fun b => S b \/ S2 b) := by
 cases sX with
 | sl v size rows S e xs Sk ho hz hb hl s9 hs uU =>
  have sE := hy.1
  obtain ⟨pW, ⟨_, h0⟩ | ⟨g, cap, cur, hv, r6, hh, tn, sV, sU, ss⟩⟩ := ho
  ·omega
  have lE : S g := hb g (by rw [hv]; rfl)
  have um : s[k]? = some (s.getD k []) := by simp [List.getD_eq_getElem?_getD, List.getElem?_eq_getElem hk]
  have hmul : k * n + n <= s.length * n := by rw [<- Nat.succ_mul]; exact Nat.mul_le_mul_right _ hk
  have mQ : s.length * n <= cap * n := Nat.mul_le_mul_right _ tn
  have e3 : cur.toList.length = cur.size := Array.length_toList
  have pS : (s.getD k []).length = n := hz _ (List.mem_of_getElem? um)
  refine ⟨g, cap, cur, e, hv, lE, hh, by omega, ?_⟩
  have te := setRow_heap w g cur (place cur.toList (k * n + q) ys).toArray e (0, 0) hh
  have uZ : ∀ b', b' ≠ g -> (w.setRow g (place cur.toList (k * n + q) ys).toArray).heap[b']? = w.heap[b']? := fun b' uH => setRow_other w g b' _ uH
  have sv : ∀ r ∈ s.set k (place (s.getD k []) q ds), r.length = n := by
   intro r' tS
   rcases List.mem_or_eq_of_mem_set tS with tS | tS
   ·exact hz r' tS
   ·rw [tS, XU _ _ _ (by omega), pS]
  have uo : blk v = some g := by rw [hv]; rfl
  have k1 : Qt (w.setRow g (place cur.toList (k * n + q) ys).toArray) xs s.flatten (fun b => S b /\ blk v ≠ some b) :=
   Qt.V2 (fun b' uP => uZ b' (fun e => uP.2 (by rw [e]; exact uo))) (show Qt w xs s.flatten (fun b => S b /\ blk v ≠ some b) from ⟨hl, Sk, s9, fun k b hb => hs k b hb, uU⟩)
  have k2 : Qt (w.setRow g (place cur.toList (k * n + q) ys).toArray) ys ds S2 := hy.V2 (fun b' uP => uZ b' (fun e => hd b' (by rw [e]; exact lE) uP))
  have k3 := k1.place k2 (fun b' h1 h2 => hd b' h1.1 h2) (k * n + q) (by rw [pW]; omega)
  rw [<- zS n q ds (by omega) s k _ um hz] at k3
  obtain ⟨lz, cQ, a1, a2, a3⟩ := k3
  refine .sl v n _ _ e (place xs (k * n + q) ys) cQ ⟨?_, .inr ⟨g, cap, _, by simpa using hv, r6, te, by simpa using tn, sV, ?_, ?_⟩⟩ sv (fun b' uP => .inl (hb b' uP)) lz a1 (fun k b uP => ?_) a3
  ·rw [XU _ _ _ (by rw [pW]; omega), pW]; simp
  ·simp only [List.size_toArray]
   rw [XU _ _ _ (by omega), e3, sU]
  ·simp only [List.length_set]
   rw [RH _ _ _ _ (by omega) (by omega), ss]
  ·rcases a2 k b uP with h1 | h1
   ·exact ⟨.inl h1.1, h1.2⟩
   ·exact ⟨.inr h1, fun e => hd b (hb b e) h1⟩
theorem O1 (r : Rel T0 B σ a w X h) {o : Oper} {T : TypeId} {x y : Operand} (uE : o.op = .store T x y) (hd : o.dst = none) (ht : yW P T = true) (ry : gOf (look P σ 0 x) = true) (rz : gOf (look P σ T y) = true)
  {t j i c k q n : Nat} {s : List (List D)} (hx : unc (look P σ 0 x) = .one (.tref t j i c (some (k * n + q)))) {size : Nat} {rows : List (List D)} (ho : σ.ob t j = .arr true size rows) (hi : i < rows.length) (uM : (rows.getD i [])[c]? = some (.sl n s)) (hk : k < s.length)
  {ds : List D} (tb : (unc (look P σ T y)).flat = true) (oC : JO σ (unc (look P σ T y)).cells = some ds) (uj : QG σ (unc (look P σ T y)).cells)
  (tN : (XE (unc (look P σ T y)).cells).Nodup) (mO : (t, j) ∉ XE (unc (look P σ T y)).cells) (hl : ds.length = P.cellsOf T) (hle : q + P.cellsOf T <= n)
  {K : Act -> World -> Prop} {Q : Exit -> Act -> World -> Prop} (hK : ∀ a' w', Q0 T0 B ((σ.Zz (XE (unc (look P σ T y)).cells)).Zs t j (.arr true size (rows.set i (place (rows.getD i []) c [.sl n (s.set k (place (s.getD k []) q ds))])))) a' w' -> Yr B w w' -> K a' w') : o.wp P a w K Q := by
 obtain ⟨_, ti, _, iq, _, _⟩ := qQ ht
 have ua : σ.ob t j ≠ .none := by rw [ho]; simp
 have h0 := r.obj t j
 rw [ho] at h0
 obtain ⟨e, vs, sX, hz, ⟨mM, Sk, o1, o2, o3⟩, hn⟩ := h0
 have um : rows[i]? = some (rows.getD i []) := by simp [List.getD_eq_getElem?_getD, List.getElem?_eq_getElem hi]
 have ta : rows.flatten[i * size + c]? = some (.sl n s) := xQ rows size hz i _ um c _ uM
 have uQ : i * size + c < vs.length := by rw [mM]; exact (List.getElem?_eq_some_iff.1 ta).1
 have ny : vs[i * size + c]? = some vs[i * size + c] := List.getElem?_eq_getElem uQ
 have ef := hn _ _ _ ny ta rfl
 have uK := o1 _ _ _ ny ta
 have hy := jV tb (r.arg (P := P) T y rfl rz)
 have sS := P5 r hy oC uj tN
 have sE := sS.1
 have e2 : (a.eval y).cells.toList.length = (a.eval y).cells.size := Array.length_toList
 generalize hL : XE (unc (look P σ T y)).cells = L at *
 have sN : ∀ b', (h t j).u b' -> Qg σ h L b' -> False := by
  rintro b' sJ ⟨p, hp, uH, iv⟩
  obtain ⟨q1, q2⟩ := r.inj t j p.1 p.2 b' ua uH sJ iv
  exact mO (by rw [q1, q2]; exact hp)
 have fh : ∀ b, Sk (i * size + c) b -> (h t j).u b := fun b hb => (o2 _ b hb).1
 obtain ⟨g, cap, cur, e1, hv, lE, hh, tM, tG⟩ := uK.CG (q := q) hk sS (by omega) (fun b h1 h2 => sN b (fh b h1) h2)
 have lG := r.arg (P := P) 0 x hx ry
 have he : a.eval x = .pointer (some ⟨g, k * n + q, none⟩) := by
  obtain ⟨b, n', oc, h1, h2⟩ := lG.2 size rows ho
  rw [ef, hv] at h1
  cases h1; exact h2
 have uY := run_store (P := P) (w := w) iq (o := k * n + q) (val := a.eval y) hh (by omega) (by omega) (fun u hu => by obtain ⟨x', _, pH⟩ := hy.mem hu; exact YH.Xc pH)
 have cb := r.own t j g ua (fh g lE)
 have r1 := r.Zz L
 have rC : (σ.Zz L).ob t j = .arr true size rows := by rw [St.Js, if_neg mO, ho]
 have ui := r.yI L
 have sU : c + 1 <= size := by
  have h1 := (List.getElem?_eq_some_iff.1 uM).1
  have h2 := hz _ (List.mem_of_getElem? um)
  omega
 have fj := zS size c [D.sl n (s.set k (place (s.getD k []) q ds))] (by simpa using sU) rows i _ um hz
 have fk : i * size + c + [D.sl n (s.set k (place (s.getD k []) q ds))].length <= rows.flatten.length := by rw [<- mM]; simp; omega
 have pS : (rows.getD i []).length = size := hz _ (List.mem_of_getElem? um)
 have sv : ∀ r ∈ rows.set i (place (rows.getD i []) c [D.sl n (s.set k (place (s.getD k []) q ds))]), r.length = size := by
  intro r' tS
  rcases List.mem_or_eq_of_mem_set tS with tS | tS
  ·exact hz r' tS
  ·rw [tS, XU _ _ _ (by rw [pS]; simpa using sU), pS]
 have uZ : ∀ b', b' ≠ g -> (w.setRow g (place cur.toList (k * n + q) (a.eval y).cells.toList).toArray).heap[b']? = w.heap[b']? := fun b' uH => setRow_other w g b' _ uH
 have uo : ∀ b, blk (h t j).v = some b -> (w.setRow g (place cur.toList (k * n + q) (a.eval y).cells.toList).toArray).heap[b]? = w.heap[b]? := fun b hb => uZ b (fun e => (o2 _ g lE).2 (by rw [<- e]; exact hb))
 unfold Oper.wp
 simp only [execOp, uE, he, Sem.run_bind, uY, Result.andThen_ok, Sem.run_pure, Oper.upon_skip, hd]
 refine hK _ _ ⟨X, _, r1.change (by rw [rC]; simp) (by simp [World.setRow]) (fun k' s9 => uZ k' (fun e => s9 (e ▸ fh g lE))) (Qg σ h L) (fun b' uP => ui b' uP) _ (by rw [rC]; simp [Ob.D2])
  ⟨(h t j).v, (h t j).n, fun b' => (h t j).u b' \/ Qg σ h L b'⟩ rfl (fun b' uP => uP) (fun b' uP => .inl (r.ub t j b' ua uP)) (fun _ => false) (St.zm _) (.inr rfl) ?_⟩ (Yr.setRow cb.1 _)
 refine ⟨e, vs, by rw [List.length_set]; exact yd uo sX, sv, ⟨?_, fun k' => if k' = i * size + c then (fun b => Sk (i * size + c) b \/ Qg σ h L b) else Sk k', fun k' x dd hx sP => ?_, fun k' b hb => ?_, fun p' q' b hp hq => ?_⟩, fun k' x dd hx sP tL => ?_⟩
 ·rw [fj, XU _ _ _ fk, mM]
 ·rw [fj] at sP
  rcases qd _ _ _ fk k' dd sP with ⟨k1, k2, k3⟩ | ⟨k1, k3⟩
  ·have s9 : k' = i * size + c := by simp at k2; omega
   subst s9
   rw [ny] at hx; cases hx
   simp at k3; subst k3
   simp only [if_true]; exact tG
  ·have s9 : ¬ k' = i * size + c := fun s9 => k1 ⟨by omega, by simp; omega⟩
   simp only [s9, if_false]
   exact (o1 k' x dd hx k3).V2 (fun b hb => uZ b (fun e => s9 (o3 k' _ b hb (by rw [e]; exact lE))))
 ·by_cases s9 : k' = i * size + c
  ·simp only [s9, if_true] at hb
   rcases hb with hb | hb
   ·exact ⟨.inl (o2 _ b hb).1, (o2 _ b hb).2⟩
   ·exact ⟨.inr hb, fun e => sN b (r.ub t j b ua e) hb⟩
  ·simp only [s9, if_false] at hb; exact ⟨.inl (o2 k' b hb).1, (o2 k' b hb).2⟩
 ·by_cases og : p' = i * size + c
  ·by_cases rE : q' = i * size + c
   ·rw [og, rE]
   ·simp only [og, if_true] at hp
    simp only [rE, if_false] at hq
    rcases hp with hp | hp
    ·rw [og]; exact (o3 _ _ b hp hq)
    ·exact (sN b (o2 q' b hq).1 hp).elim
  ·simp only [og, if_false] at hp
   by_cases rE : q' = i * size + c
   ·simp only [rE, if_true] at hq
    rcases hq with hq | hq
    ·rw [rE]; exact (o3 _ _ b hp hq)
    ·exact (sN b (o2 p' b hp).1 hq).elim
   ·simp only [rE, if_false] at hq; exact o3 p' q' b hp hq
 ·rw [fj] at sP
  rcases qd _ _ _ fk k' dd sP with ⟨k1, k2, k3⟩ | ⟨k1, k3⟩
  ·have s9 : k' = i * size + c := by simp at k2; omega
   subst s9
   rw [ny] at hx; cases hx; exact ef
  ·exact hn k' x dd hx k3 tL
end
theorem Ur {α β : Type} (f : α -> β) (l : List α) (k : Nat) : cut (l.map f) k (l.length - k) = (l.drop k).map f := by
 unfold cut
 rw [<- List.map_drop, <- List.map_take, List.take_of_length_le (by rw [List.length_drop]; exact Nat.le_refl _)]
def hol : D -> D
 | .sl _ _ => .unk
 | d => d
def Qd (rows : List (List D)) (lo n : Nat) : List (List D) := rows.take lo ++ (cut rows lo n).map (fun r => r.map hol) ++ rows.drop (lo + n)
theorem zy {rows : List (List D)} {lo n : Nat} (h : lo + n <= rows.length) : (Qd rows lo n).length = rows.length := by
 simp only [Qd, List.length_append, List.length_map, List.length_take, List.length_drop, Yu _ _ _ h]; omega
theorem OX {rows : List (List D)} {lo n oO n' : Nat} (h : lo + n <= rows.length) (h' : lo + n <= oO) : cut (Qd rows lo n) oO n' = cut rows oO n' := by
 unfold cut
 congr 1
 have hl : (rows.take lo ++ (cut rows lo n).map (fun r => r.map hol)).length = lo + n := by
  simp only [List.length_append, List.length_map, List.length_take, Yu _ _ _ h]; omega
 unfold Qd
 rw [List.drop_append, List.drop_eq_nil_of_le (by omega), hl, List.drop_drop, List.nil_append]
 congr 1
 omega
section
variable {P : Program} {T0 : CS} {B : Nat -> Prop} {σ : St} {a : Act} {w w' : World} {X X' : Nat -> Prop} {h : Nat -> Nat -> Hd}
theorem Own.By {v : Value} {d : D} {S S' : Nat -> Prop} (hs : d.scalar = true) (ho : Own w v d S) : Own w v d S' := by
 cases ho with
 | int k n => exact .int _ _ _
 | bool b => exact .bool _ _
 | str s => exact .str _ _
 | unk v h => exact .unk _ h _
 | sl => cases hs
theorem Own.hol {v : Value} {d : D} {S S' : Nat -> Prop} (ho : Own w v d S) : Own w v (Vm.hol d) S' := by
 cases d with
 | sl s r => exact .unk _ ho.Xc _
 | int k n => exact ho.By rfl
 | bool b => exact ho.By rfl
 | str s => exact ho.By rfl
 | unk => exact ho.By rfl
theorem Ed (d : D) : (hol d).scalar = true := by cases d <;> rfl
theorem OJ {rows : List (List D)} {size lo n : Nat} (hz : ∀ r ∈ rows, r.length = size) (hle : lo + n <= rows.length) {k : Nat} {d : D} (hd : (Qd rows lo n).flatten[k]? = some d) :
  (lo * size <= k /\ k < lo * size + n * size /\ ∃ d', rows.flatten[k]? = some d' /\ d = hol d') \/ (¬ (lo * size <= k /\ k < lo * size + n * size) /\ rows.flatten[k]? = some d) := by
 have tb : rows.flatten.length = rows.length * size := YI rows size hz
 have hm : lo * size + n * size <= rows.length * size := by rw [<- Nat.add_mul]; exact Nat.mul_le_mul_right _ hle
 have e1 : (rows.take lo).flatten = rows.flatten.take (lo * size) := JT rows size hz lo (by omega)
 have e2 : ((cut rows lo n).map (fun r => r.map hol)).flatten = (cut rows.flatten (lo * size) (n * size)).map hol := by
  rw [<- TZ rows size hz lo n hle, List.map_flatten]
 have l1 : ((rows.take lo).flatten).length = lo * size := by rw [e1, List.length_take]; omega
 have l2 : (((cut rows lo n).map (fun r => r.map hol)).flatten).length = n * size := by rw [e2, List.length_map, Yu _ _ _ (by omega)]
 unfold Qd at hd
 rw [List.flatten_append, List.flatten_append] at hd
 by_cases h1 : k < lo * size + n * size
 ·rw [List.getElem?_append_left (by rw [List.length_append, l1, l2]; exact h1)] at hd
  by_cases h0 : k < lo * size
  ·rw [List.getElem?_append_left (by rw [l1]; exact h0), e1, List.getElem?_take, if_pos h0] at hd
   exact .inr ⟨by omega, hd⟩
  ·rw [List.getElem?_append_right (by rw [l1]; omega), l1, e2, List.getElem?_map] at hd
   cases hc : (cut rows.flatten (lo * size) (n * size))[k - lo * size]? with
   | none => rw [hc] at hd; cases hd
   | some d' =>
    rw [hc] at hd
    have := J7 _ _ _ _ _ hc
    rw [show lo * size + (k - lo * size) = k by omega] at this
    exact .inl ⟨by omega, h1, d', this, (by cases hd; rfl)⟩
 ·rw [List.getElem?_append_right (by rw [List.length_append, l1, l2]; omega), List.length_append, l1, l2] at hd
  have e3 : (rows.drop (lo + n)).flatten = rows.flatten.drop (lo * size + n * size) := by
   have h2 : (rows.take (lo + n)).flatten ++ (rows.drop (lo + n)).flatten = rows.flatten := by rw [<- List.flatten_append, List.take_append_drop]
   have h3 : (rows.take (lo + n)).flatten.length = lo * size + n * size := by rw [JT rows size hz (lo + n) hle, List.length_take, Nat.add_mul]; omega
   rw [<- h2, <- h3, List.drop_left]
  rw [e3, List.getElem?_drop, show lo * size + n * size + (k - (lo * size + n * size)) = k by omega] at hd
  exact .inr ⟨by omega, hd⟩
theorem Rel.Bw (r : Rel T0 B σ a w X h) {u j size lo n : Nat} {rows : List (List D)} (ho : σ.ob u j = .arr true size rows) (hle : lo + n <= rows.length) :
  ∃ (h' : Nat -> Nat -> Hd) (M : Nat -> Prop) (e : TypeId) (zs : List Value), Rel T0 B (σ.Zs u j (.arr true size (Qd rows lo n))) a w X h' /\
   (∀ b, M b -> ¬ B b /\ ¬ X b /\ b < w.heap.size /\ ∀ t i, (σ.Zs u j (.arr true size (Qd rows lo n))).ob t i ≠ .none -> ¬ (h' t i).u b) /\ (∀ t i, (h' t i).v = (h t i).v) /\
   w.ownsRow 0 e size (h u j).v rows.length zs /\ (∀ q ∈ rows, q.length = size) /\ Qt w (cut zs (lo * size) (n * size)) (cut rows lo n).flatten M /\ (∀ v ∈ zs, v.oneCell' = true) := by
 have ua : σ.ob u j ≠ .none := by rw [ho]; simp
 have h0 := r.obj u j
 rw [ho] at h0
 obtain ⟨e, zs, sX, hz, ⟨mM, Sk, o1, o2, o3⟩, hn⟩ := h0
 have tb : rows.flatten.length = rows.length * size := YI rows size hz
 have hm : lo * size + n * size <= rows.length * size := by rw [<- Nat.add_mul]; exact Nat.mul_le_mul_right _ hle
 let M : Nat -> Prop := fun b => ∃ k, lo * size <= k /\ k < lo * size + n * size /\ Sk k b
 let uU : Hd := ⟨(h u j).v, (h u j).n, fun b => (h u j).u b /\ ¬ M b⟩
 have fp : ∀ b, M b -> (h u j).u b /\ blk (h u j).v ≠ some b := fun b ⟨k, _, _, hk⟩ => o2 k b hk
 have sv : ∀ q ∈ Qd rows lo n, q.length = size := by
  intro q hq
  simp only [Qd, List.mem_append, List.mem_map] at hq
  rcases hq with (hq | ⟨q', hq, rfl⟩) | hq
  ·exact hz q (List.mem_of_mem_take hq)
  ·rw [List.length_map]; exact hz q' (List.mem_of_mem_drop (List.mem_of_mem_take hq))
  ·exact hz q (List.mem_of_mem_drop hq)
 have hr := r.change (w' := w) ua rfl (fun _ _ => rfl) (fun _ => False) (fun _ hh => hh.elim) (.arr true size (Qd rows lo n)) (by rw [ho]; exact ⟨rfl, rfl, (zy hle).symm⟩) uU rfl (fun b hb => .inl hb.1)
  (fun b hb => ⟨r.ub u j b ua hb, fun uP => (fp b uP).2 hb⟩) (fun _ => false) (St.zm σ) (.inr rfl) (by
   refine ⟨e, zs, by rw [zy hle]; exact sX, sv, ⟨?_, fun k => if lo * size <= k /\ k < lo * size + n * size then (fun _ => False) else Sk k, fun k x d hx hd => ?_, fun k b hb => ?_, fun k k' b hb uP => ?_⟩, fun k x d hx hd tL => ?_⟩
   ·rw [mM, YI _ size sv, zy hle, tb]
   ·rcases OJ hz hle hd with ⟨h1, h2, d', h3, rfl⟩ | ⟨h1, h2⟩
    ·exact (o1 k x d' hx h3).hol
    ·simp only [h1, if_false]; exact o1 k x d hx h2
   ·dsimp only at hb
    split at hb
    ·exact hb.elim
    ·rename_i hk
     refine ⟨⟨(o2 k b hb).1, fun ⟨k', h1, h2, h3⟩ => ?_⟩, (o2 k b hb).2⟩
     have := o3 k k' b hb h3
     subst this
     exact hk ⟨h1, h2⟩
   ·dsimp only at hb uP
    split at hb
    ·exact hb.elim
    ·split at uP
     ·exact uP.elim
     ·exact o3 k k' b hb uP
   ·rcases OJ hz hle hd with ⟨h1, h2, d', h3, rfl⟩ | ⟨h1, h2⟩
    ·rw [Ed] at tL; cases tL
    ·exact hn k x d hx h2 tL)
 have cf : (cut rows lo n).flatten = cut rows.flatten (lo * size) (n * size) := TZ rows size hz lo n hle
 refine ⟨_, M, e, zs, hr, fun b hb => ?_, fun t i => ?_, sX, hz, ?_, fun v hv => ?_⟩
 ·have h1 := r.own u j b ua (fp b hb).1
  refine ⟨h1.1, h1.2.1, h1.2.2, fun t i uH uP => ?_⟩
  split at uP
  ·exact uP.2 hb
  ·rename_i hc
   have ux : σ.ob t i ≠ .none := by
    rw [St.XK σ u j _ t i ua, if_neg hc] at uH; exact uH
   exact hc (r.inj t i u j b ux ua uP (fp b hb).1)
 ·split
  ·rename_i hc; rw [hc.1, hc.2]
  ·rfl
 ·rw [cf]
  have uu : (cut zs (lo * size) (n * size)).length = n * size := Yu _ _ _ (by rw [mM, tb]; exact hm)
  refine ⟨by rw [uu, Yu _ _ _ (by rw [tb]; exact hm)], fun k b => k < n * size /\ Sk (lo * size + k) b, fun k x d hx hd => ?_, fun k b hb => ⟨lo * size + k, by omega, by omega, hb.2⟩, fun i k b hi hk => by have := o3 _ _ b hi.2 hk.2; omega⟩
  have hk : k < n * size := by rw [<- uu]; exact (List.getElem?_eq_some_iff.1 hx).1
  exact (o1 _ x d (J7 _ _ _ _ _ hx) (J7 _ _ _ _ _ hd)).mono (fun b hb => ⟨hk, hb⟩)
 ·obtain ⟨k, hk⟩ := List.mem_iff_getElem?.1 hv
  have uQ : k < rows.flatten.length := by rw [<- mM]; exact (List.getElem?_eq_some_iff.1 hk).1
  exact (o1 k v _ hk (List.getElem?_eq_getElem uQ)).Xc
def Fm (σ : St) (x : V) (size : Nat) (uG : List (List D)) (l : List (Nat × Nat)) : Prop :=
 match x with
 | .one (.nil _) => uG = [] /\ l = []
 | .one (.sref t j lo len) => lo = 0 /\ len = uG.length /\ l = [(t, j)] /\ (σ.ob t j = .arr true size uG \/ (σ.ob t j = .lit size [] /\ uG = []))
 | _ => False
theorem Ib (r : Rel T0 B σ a w X h) {o : Oper} {t : TypeId} {x y : Operand} {d u j lo n : Nat} {rows uG : List (List D)} {l1 : List (Nat × Nat)} (uE : o.op = .call ⟨.builtin .append, #[x, y], #[t, t]⟩) (hd : o.dst = some d)
  (ry : gOf (look P σ t x) = true) (rz : gOf (look P σ t y) = true) (ht : Y2 P t = true) (hz : Xn P (ZR P t) = true) (tO : 0 < P.cellsOf (ZR P t))
  (tu : Fm σ (unc (look P σ t x)) (P.cellsOf (ZR P t)) uG l1) (hy : unc (look P σ t y) = .one (.sref u j lo n)) (ho : σ.ob u j = .arr true (P.cellsOf (ZR P t)) rows) (hle : lo + n <= rows.length) (mX : (u, j) ∉ l1)
  (tD : ((σ.Zs u j (.arr true (P.cellsOf (ZR P t)) (Qd rows lo n))).Zz l1).fresh d = true)
  (tK : (uG.length + n) * P.bytesOf (ZR P t) <= 140737488355328) (nN : uG.length + n <= 9223372036854775807)
  {K : Act -> World -> Prop} {Q : Exit -> Act -> World -> Prop} (hK : ∀ a' w', Q0 T0 B (((σ.Zs u j (.arr true (P.cellsOf (ZR P t)) (Qd rows lo n))).Zz l1).new d (.one (.sref d 0 0 (uG.length + n))) [.arr true (P.cellsOf (ZR P t)) (uG ++ cut rows lo n)]) a' w' -> Yr B w w' -> K a' w') : o.wp P a w K Q := by
 obtain ⟨ti, hu, hi, s8⟩ := XT ht
 obtain ⟨i, z, row, tk, rm, sn, rA, pI, sC, sc⟩ := zC hz
 rw [hi] at tk; cases tk
 have nO : P.bytesOf (ZR P t) = ti.bytes := by simp [Program.bytesOf, hi]
 rw [nO] at tK
 rw [<- sC] at ho tO hK tD tu
 have pY := r.arg (P := P) t x rfl ry
 have nj := r.arg (P := P) t y rfl rz
 rw [hy] at nj
 have lK : YH (Tof T0 X) h σ.ob w (.sref u j lo n) (a.eval y) := nj
 obtain ⟨_, _, _, base, cap, nS, tn, nh, oD, hb⟩ := lK.2.1 _ _ _ ho
 obtain ⟨h', M, e0, zs, r0, hM, s6, iw, tj, sS, fX⟩ := r.Bw ho hle
 have ua : σ.ob u j ≠ .none := by rw [ho]; simp
 generalize hσ1 : σ.Zs u j (.arr true ti.size (Qd rows lo n)) = σ1 at *
 have rC : ∀ t' i', ¬ (t' = u /\ i' = j) -> σ1.ob t' i' = σ.ob t' i' := fun t' i' uH => by rw [<- hσ1, St.XK σ u j _ t' i' ua, if_neg uH]
 have hE : zs.length = rows.length * ti.size := iw.1
 have lL : lo * ti.size + n * ti.size <= zs.length := by rw [hE, <- Nat.add_mul]; exact Nat.mul_le_mul_right _ hle
 generalize lJ : cut zs (lo * ti.size) (n * ti.size) = ys at *
 have sE : ys.length = n * ti.size := by rw [<- lJ]; exact Yu _ _ _ lL
 have uu : (cut rows lo n).length = n := Yu _ _ _ hle
 have lB : ∀ q ∈ cut rows lo n, q.length = ti.size := fun q hq => tj q (List.mem_of_mem_drop (List.mem_of_mem_take hq))
 have tx : ∃ e1 xs, w.ownsRow 0 e1 ti.size (a.eval x) uG.length xs /\ (∀ q ∈ uG, q.length = ti.size) /\ Qt w xs uG.flatten (fun b => Qg σ1 h' l1 b /\ blk (a.eval x) ≠ some b) /\ (∀ b, blk (a.eval x) = some b -> Qg σ1 h' l1 b) := by
  unfold Fm at tu
  split at tu
  ·rename_i s heq
   obtain ⟨rfl, rfl⟩ := tu
   rw [heq] at pY
   have he : a.eval x = .slice none 0 0 := pY
   rw [he]
   exact ⟨0, [], World.ownsRow_nil w 0 0 _, (by intro q hq; cases hq), Qt.nil _, (fun b hb => by cases hb)⟩
  ·rename_i u2 j2 eF lj heq
   obtain ⟨rfl, rfl, rfl, sZ⟩ := tu
   rw [heq] at pY
   have pZ : YH (Tof T0 X) h σ.ob w (.sref u2 j2 0 uG.length) (a.eval x) := pY
   have uH : ¬ (u2 = u /\ j2 = j) := fun hc => mX (by rw [hc.1, hc.2]; simp)
   have h0 := r0.obj u2 j2
   rw [rC u2 j2 uH] at h0
   rcases sZ with sZ | ⟨sZ, rfl⟩
   ·obtain ⟨_, tr, _⟩ := pZ.2.1 _ _ _ sZ
    have he : a.eval x = (h' u2 j2).v := by rw [s6]; exact tr rfl rfl
    rw [sZ] at h0
    obtain ⟨e, xs, uK, lC, uJ, hn⟩ := h0
    have od : σ1.ob u2 j2 ≠ .none := by rw [rC u2 j2 uH, sZ]; simp
    rw [he]
    exact ⟨e, xs, uK, lC, uJ.mono (fun b hb => ⟨⟨(u2, j2), by simp, od, hb.1⟩, hb.2⟩), fun b hb => ⟨(u2, j2), by simp, od, r0.ub u2 j2 b od hb⟩⟩
   ·obtain ⟨_, tr, _⟩ := pZ.2.2 _ _ sZ
    have he : a.eval x = (h' u2 j2).v := by rw [s6]; exact tr rfl rfl
    rw [sZ] at h0
    obtain ⟨e, xs, uK, lC, uJ⟩ := h0
    have od : σ1.ob u2 j2 ≠ .none := by rw [rC u2 j2 uH, sZ]; simp
    have cg : xs = [] := by cases uJ; rfl
    subst cg
    rw [he]
    exact ⟨e, [], uK, (by intro q hq; cases hq), Qt.nil _, fun b hb => ⟨(u2, j2), by simp, od, r0.ub u2 j2 b od hb⟩⟩
  ·exact tu.elim
 obtain ⟨e1, xs, uK, ir, nQ, tv⟩ := tx
 have p8 : ∀ q ∈ uG ++ cut rows lo n, q.length = ti.size := by
  intro q hq
  rcases List.mem_append.1 hq with hq | hq
  ·exact ir q hq
  ·exact lB q hq
 have sN : ∀ b, Qg σ1 h' l1 b -> M b -> False := by
  rintro b ⟨p, hp, uH, sJ⟩ hb
  exact (hM b hb).2.2.2 p.1 p.2 uH sJ
 have r1 := r0.Zz l1
 have ui := r0.yI l1
 have uQ := St.JH tD
 let N : Nat -> Prop := fun b => Qg σ1 h' l1 b \/ M b
 have hN : ∀ b, N b -> ¬ B b /\ ¬ X b /\ b < w.heap.size /\ ∀ u' i', (σ1.Zz l1).ob u' i' ≠ .none -> ¬ (h' u' i').u b := by
  rintro b (hb | hb)
  ·exact ui b hb
  ·obtain ⟨q1, q2, q3, q4⟩ := hM b hb
   refine ⟨q1, q2, q3, fun u' i' uH => q4 u' i' ?_⟩
   rw [St.Js] at uH
   split at uH
   ·exact absurd rfl uH
   ·exact uH
 have key : ∀ (v' : Value) (w' : World) (e2 : TypeId), (Builtin.append_ #[t, t] o.type #[a.eval x, a.eval y]).run P w = .ok v' w' -> w'.ownsRow 0 e2 ti.size v' (uG.length + n) (xs ++ ys) ->
   w.grownBy w' (blk (a.eval x)) -> (∀ b, blk v' = some b -> (w.heap.size <= b /\ b < w'.heap.size) \/ blk (a.eval x) = some b) -> o.wp P a w K Q := by
  intro v' w' e2 uY uc tR pJ
  unfold Oper.wp
  have rQ : (execOp a.eval o).run P w = .ok (.value v') w' := by
   simp only [execOp, uE, resolve, invoke, builtin, Sem.run_bind, Sem.run_pure, Result.andThen_ok, List.map_toArray, List.map_cons, List.map_nil, uY]
  rw [rQ, Oper.upon_value, hd]
  refine hK _ _ ⟨X, fun u' j' => if u' = d then ⟨v', fun k => ((xs ++ ys)[k]?).getD undef, fun b => blk v' = some b \/ (N b /\ blk (a.eval x) ≠ some b)⟩ else h' u' j', ?_⟩
   ⟨tR.os, tR.tape, tR.output, tR.size, fun k hk => tR.block k (r.hB k hk) (fun e => (hN k (.inl (tv k e.symm))).1 hk)⟩
  have tC : ((σ1.Zz l1).new d (.one (.sref d 0 0 (uG.length + n))) [.arr true ti.size (uG ++ cut rows lo n)]).ob d 0 = .arr true ti.size (uG ++ cut rows lo n) := by rw [St.Qj]; simp [uQ, YU]
  have sQ : (uG ++ cut rows lo n).length = uG.length + n := by rw [List.length_append, uu]
  have u9 : w'.ownsRow 0 e2 ti.size v' (uG ++ cut rows lo n).length (xs ++ ys) := by rw [sQ]; exact uc
  have uZ : ∀ b, blk (a.eval x) ≠ some b -> b < w.heap.size -> w'.heap[b]? = w.heap[b]? := fun b hb hl => tR.block b hl (fun e => hb e.symm)
  have hO : Qt w' (xs ++ ys) (uG ++ cut rows lo n).flatten (fun b => (blk v' = some b \/ (N b /\ blk (a.eval x) ≠ some b)) /\ blk v' ≠ some b) := by
   rw [List.flatten_append]
   have h1 : Qt w' xs uG.flatten (fun b => Qg σ1 h' l1 b /\ blk (a.eval x) ≠ some b) := nQ.V2 (fun b hb => uZ b hb.2 (ui b hb.1).2.2.1)
   have pn : ∀ b, M b -> blk (a.eval x) ≠ some b := fun b hb e => sN b (tv b e) hb
   have h2 : Qt w' ys (cut rows lo n).flatten M := sS.V2 (fun b hb => uZ b (pn b hb) (hM b hb).2.2.1)
   refine (h1.append h2 (fun b tf tA => sN b tf.1 tA)).mono (fun b hb => ?_)
   have hg : N b /\ blk (a.eval x) ≠ some b := by
    rcases hb with hb | hb
    ·exact ⟨.inl hb.1, hb.2⟩
    ·exact ⟨.inr hb, pn b hb⟩
   refine ⟨.inr hg, fun e => ?_⟩
   rcases pJ b e with hl | hl
   ·have := (hN b hg.1).2.2.1; omega
   ·exact hg.2 hl
  refine r1.Hn tD N tR.size (fun k hk uH => tR.block k hk (fun e => uH (.inl (tv k e.symm)))) (fun b hb => ⟨(hN b hb).1, (hN b hb).2.1, fun u' j' _ uH => (hN b hb).2.2.2 u' j' uH⟩) (fun _ hb => hb) (fun _ hb => .inl hb) _ _ [.arr true ti.size (uG ++ cut rows lo n)]
   (fun _ => ⟨v', fun k => ((xs ++ ys)[k]?).getD undef, fun b => blk v' = some b \/ (N b /\ blk (a.eval x) ≠ some b)⟩) ?_ (fun j' => ?_) (fun j' b _ hb => .inl hb) (fun j' b uH uP => ?_) (fun j1 j2 b uH ux _ _ => ?_)
  ·refine ⟨QJ uc, fun q' ug uT hh => ?_, fun ug uT hh => by rw [tC] at hh; cases hh⟩
   rw [tC] at hh; cases hh
   simp only [if_true]
   have := xy u9
   rw [sQ] at this ⊢
   exact this
  ·cases j' with
   | zero => exact ⟨e2, xs ++ ys, u9, p8, hO, fun k x d hx _ _ => by simp [hx]⟩
   | succ j' => simp [YU, Qs]
  ·rcases uP with uP | uP
   ·rcases pJ b uP with h1 | h1
    ·exact ⟨.inl h1.1, fun hx => by have := (r.hX b hx).2; omega, h1.2⟩
    ·have h3 : N b := .inl (tv b h1)
     have h2 := hN b h3
     exact ⟨.inr h3, h2.2.1, by have := tR.size; omega⟩
   ·have h2 := hN b uP.1
    exact ⟨.inr uP.1, h2.2.1, by have := tR.size; omega⟩
  ·have : ∀ j, YU [Ob.arr true ti.size (uG ++ cut rows lo n)] j ≠ .none -> j = 0 := by
    intro j hj
    cases j with
    | zero => rfl
    | succ j => simp [YU] at hj
   rw [this j1 uH, this j2 ux]
 cases base with
 | none =>
  have lW := oD rfl
  subst lW
  have fg : n = 0 := by omega
  subst fg
  have fq : ys = [] := List.eq_nil_of_length_eq_zero (by rw [sE]; simp)
  have ur : ∃ base cap, a.eval x = .slice base uG.length cap /\ uG.length <= cap /\ (base = none -> cap = 0) := by
   rcases uK.2 with ⟨h1, h2⟩ | ⟨g, cap, cur, h1, _, _, tz, _⟩
   ·exact ⟨none, 0, by rw [h1, h2], by omega, fun _ => rfl⟩
   ·exact ⟨_, cap, h1, tz, (fun hh => by cases hh)⟩
  obtain ⟨base, cap, hex, tz, nz⟩ := ur
  refine key (a.eval x) w e1 ?_ (by rw [fq]; simpa using uK) ⟨rfl, rfl, rfl, Nat.le_refl _, fun _ _ _ => rfl⟩ (fun b hb => .inr hb)
  rw [nS, hex]
  exact K6 t o.type _ ti hu hi base uG.length cap tz nz
 | some ad =>
  have uM : ∀ k v, ys[k]? = some v -> w.cell? (ad.add k) = some v := by
   intro k v hv
   have sM : 0 < n := by
    rcases Nat.eq_zero_or_pos n with h0 | h0
    ·have hk := (List.getElem?_eq_some_iff.1 hv).1
     rw [sE, h0] at hk
     simp at hk
    ·exact h0
   obtain ⟨b, rn, hh, rN⟩ := hb sM
   cases rN
   rcases iw.2 with ⟨lF, _⟩ | ⟨g, oc, cur, s6, _, m3, tz, sV, sU, ss⟩
   ·rw [hh] at lF; cases lF
   ·rw [hh] at s6; cases s6
    rw [<- lJ] at hv
    have h1 := J7 _ _ _ _ _ hv
    rw [z8]
    refine J0 m3 _ _ ?_
    rw [<- ss, List.getElem?_take] at h1
    split at h1
    ·exact h1
    ·cases h1
  have cj : ∀ v ∈ ys, v.oneCell' = true := fun v hv => fX v (by rw [<- lJ] at hv; exact List.mem_of_mem_drop (List.mem_of_mem_take hv))
  obtain ⟨v', w', e2, uY, uc, tR, pJ⟩ := xd (P := P) (w := w) t o.type _ e1 ti z hu hi rm pI (by omega) (a.eval x) uG.length xs uK ad n cap ys sE uM cj (by simp only [maxLen]; omega) tK
  refine key v' w' e2 ?_ uc tR pJ
  rw [nS]; exact uY
end
def B9 (w : World) (res : List (List D)) (e : Ending) (w' : World) : Prop :=
 ∃ (vs : List Value) (uq : List (List Value)), e = .returned (TQ vs) /\ Below w.heap.size w w' /\ Z5 Kk vs uq /\ Z5 (fun (cs : List Value) (row : List D) => cs.length = row.length) uq res /\
  Qt w' uq.flatten res.flatten (fun b => w.heap.size <= b /\ b < w'.heap.size)
def YR (P : Program) (f : FuncId) (args res : List (List D)) : Prop :=
 T1 P f = true /\ ∀ (T : CS) (w : World) (u6 : List Value), (∀ b k, T b k -> b < w.heap.size) -> Z5 (fun v row => ∃ cs, Kk v cs /\ Z5 (Rd T w) cs row) u6 args -> Calls P f u6.toArray w (B9 w res)
theorem yy {α β : Type} {R : α -> β -> Prop} : ∀ {uq : List (List α)} {res : List (List β)}, Z5 (fun (cs : List α) (row : List β) => cs.length = row.length) uq res -> (∀ (k : Nat) (x : α) (d : β), uq.flatten[k]? = some x -> res.flatten[k]? = some d -> R x d) -> Z5 (fun cs row => Z5 R cs row) uq res := by
 intro uq res uJ
 induction uJ with
 | nil => intro _; exact .nil
 | @cons cs row uq res hl _ ih =>
  intro hk
  refine .cons (Z5.zq hl (fun k x d hx hd => hk k x d ?_ ?_)) (ih (fun k x d hx hd => hk (cs.length + k) x d ?_ ?_))
  ·rw [List.flatten_cons, List.getElem?_append_left (List.getElem?_eq_some_iff.1 hx).1]; exact hx
  ·rw [List.flatten_cons, List.getElem?_append_left (List.getElem?_eq_some_iff.1 hd).1]; exact hd
  ·rw [List.flatten_cons, List.getElem?_append_right (by omega)]; simpa using hx
  ·rw [List.flatten_cons, List.getElem?_append_right (by omega), hl]; simpa using hd
theorem YR.rd {P : Program} {f : FuncId} {args res : List (List D)} (hs : YR P f args res) : QH P f false args res := by
 refine ⟨hs.1, fun T w u6 hT ha => (hs.2 T w u6 hT ha).mono ?_⟩
 rintro e w' ⟨vs, uq, he, hb, hf, hl, ⟨_, Sk, h1, h2, h3⟩⟩
 refine ⟨vs, uq, fun b => w.heap.size <= b /\ b < w'.heap.size, he, hb, fun b hb => hb, hf, yy hl (fun k x d hx hd => ?_), fun hh => by cases hh⟩
 simp only [yO, Bool.false_eq_true, if_false]
 exact (h1 k x d hx hd).rd (fun b k' hb => .inr (h2 k b hb))
def Yh : List Bool -> List D -> List Ob
 | _, [] => []
 | q :: qs, .sl size rows :: ds => .arr q size rows :: Yh qs ds
 | [], .sl size rows :: ds => .arr true size rows :: Yh [] ds
 | qs, _ :: ds => .none :: Yh qs.tail ds
def qI : List Bool -> List D -> Prop
 | _, [] => True
 | q :: qs, .sl _ rows :: ds => (q = false -> ∀ r ∈ rows, ∀ x ∈ r, x.scalar = true) /\ qI qs ds
 | [], .sl _ _ :: ds => qI [] ds
 | qs, _ :: ds => qI qs.tail ds
theorem XI : ∀ (qs : List Bool) (ds : List D) (k : Nat), qI qs ds -> (∀ size rows, ds[k]? = some (.sl size rows) -> ∃ q, YU (Yh qs ds) k = .arr q size rows /\ (q = false -> ∀ r ∈ rows, ∀ x ∈ r, x.scalar = true)) /\ (YU (Yh qs ds) k ≠ .none -> ∃ size rows, ds[k]? = some (.sl size rows))
 | qs, [], k, _ => ⟨fun size rows h => by simp at h, fun h => by cases qs <;> simp [Yh, YU] at h⟩
 | q :: qs, .sl size rows :: ds, 0, hf => ⟨fun s r h => by simp at h; obtain ⟨rfl, rfl⟩ := h; exact ⟨q, by simp [Yh, YU], hf.1⟩, fun _ => ⟨size, rows, by simp⟩⟩
 | [], .sl size rows :: ds, 0, hf => ⟨fun s r h => by simp at h; obtain ⟨rfl, rfl⟩ := h; exact ⟨true, by simp [Yh, YU], fun h => by cases h⟩, fun _ => ⟨size, rows, by simp⟩⟩
 | qs, .int k n :: ds, 0, hf => ⟨fun s r h => by simp at h, fun h => by cases qs <;> simp [Yh, YU] at h⟩
 | qs, .bool b :: ds, 0, hf => ⟨fun s r h => by simp at h, fun h => by cases qs <;> simp [Yh, YU] at h⟩
 | qs, .str s :: ds, 0, hf => ⟨fun s r h => by simp at h, fun h => by cases qs <;> simp [Yh, YU] at h⟩
 | qs, .unk :: ds, 0, hf => ⟨fun s r h => by simp at h, fun h => by cases qs <;> simp [Yh, YU] at h⟩
 | q :: qs, .sl size rows :: ds, k + 1, hf => by
  have := XI qs ds k hf.2
  simpa [Yh, YU] using this
 | [], .sl size rows :: ds, k + 1, hf => by
  have := XI [] ds k hf
  simpa [Yh, YU] using this
 | qs, .int _ _ :: ds, k + 1, hf => by
  have := XI qs.tail ds k (by cases qs <;> exact hf)
  cases qs <;> simpa [Yh, YU] using this
 | qs, .bool _ :: ds, k + 1, hf => by
  have := XI qs.tail ds k (by cases qs <;> exact hf)
  cases qs <;> simpa [Yh, YU] using this
 | qs, .str _ :: ds, k + 1, hf => by
  have := XI qs.tail ds k (by cases qs <;> exact hf)
  cases qs <;> simpa [Yh, YU] using this
 | qs, .unk :: ds, k + 1, hf => by
  have := XI qs.tail ds k (by cases qs <;> exact hf)
  cases qs <;> simpa [Yh, YU] using this
section
variable {P : Program} {T0 : CS} {B : Nat -> Prop} {σ : St} {a : Act} {w w' : World} {X X' : Nat -> Prop} {h : Nat -> Nat -> Hd}
theorem G0 (r : Rel T0 B σ a w X h) {o : Oper} {c : Call} {f : FuncId} {d : Nat} {rows res : List (List D)} (qs : List Bool) (uE : o.op = .call c) (hc : c.callee = .value (.func f)) (hd : o.dst = some d) (tD : σ.fresh d = true)
  (uL : QF P σ c.args.toList c.argTypes.toList rows) (hs : YR P f rows res) (hq : qI qs res.flatten)
  {K : Act -> World -> Prop} {Q : Exit -> Act -> World -> Prop} (hK : ∀ a' w', Q0 T0 B (σ.new d (xa d res) (Yh qs res.flatten)) a' w' -> Yr B w w' -> K a' w') : o.wp P a w K Q := by
 have uQ := St.JH tD
 unfold Oper.wp
 rw [ku uE hc hs.1, Oper.upon_enter]
 have nW := r.QF false uL (fun hh => by cases hh)
 simp only [Bool.false_eq_true, if_false] at nW
 refine (hs.2 (S4 T0 X h σ) w _ (fun b k hb => r.GA hb) nW).mono ?_
 rintro e w' ⟨vs, uq, rfl, sB, ur, hlen, ⟨_, Sk, h1, h2, h3⟩⟩
 rw [hd]
 have hex : ∀ j, ∃ hd : Hd, (∀ c, uq.flatten[j]? = some c -> hd.v = c) /\ (∀ size rows, res.flatten[j]? = some (.sl size rows) -> (∀ b, hd.u b -> Sk j b) /\ (∀ b, blk hd.v = some b -> hd.u b) /\ ∀ T h ob, Qs T h ob w' hd (.arr true size rows) /\ ((∀ r ∈ rows, ∀ x ∈ r, x.scalar = true) -> Qs T h ob w' hd (.arr false size rows))) := by
  intro j
  have tb : uq.flatten.length = res.flatten.length := by
   have := yy (R := fun _ _ => True) hlen (fun _ _ _ _ _ => trivial)
   exact (yi this).length
  cases hj : res.flatten[j]? with
  | none => exact ⟨Hd.of ((uq.flatten[j]?).getD undef), fun c tB => by simp [Hd.of, tB], fun size rows hh => by cases hh⟩
  | some dd =>
   have pq : j < uq.flatten.length := by rw [tb]; exact (List.getElem?_eq_some_iff.1 hj).1
   have oS : uq.flatten[j]? = some uq.flatten[j] := List.getElem?_eq_getElem pq
   cases dd with
   | int k n => exact ⟨Hd.of uq.flatten[j], fun c tB => by rw [oS] at tB; cases tB; rfl, fun size rows hh => by cases hh⟩
   | bool k => exact ⟨Hd.of uq.flatten[j], fun c tB => by rw [oS] at tB; cases tB; rfl, fun size rows hh => by cases hh⟩
   | str k => exact ⟨Hd.of uq.flatten[j], fun c tB => by rw [oS] at tB; cases tB; rfl, fun size rows hh => by cases hh⟩
   | unk => exact ⟨Hd.of uq.flatten[j], fun c tB => by rw [oS] at tB; cases tB; rfl, fun size rows hh => by cases hh⟩
   | sl size rows =>
    have ho := h1 j _ _ oS hj
    generalize hv : uq.flatten[j] = v at ho
    cases ho with
    | sl v size rows S e xs nZ ho hz hb hl hk nn uU =>
     refine ⟨⟨v, fun k => (xs[k]?).getD undef, Sk j⟩, fun c tB => by rw [oS, hv] at tB; cases tB; rfl, fun ug uT hh => ?_⟩
     cases hh
     refine ⟨fun b hb => hb, hb, fun T h ob => ⟨⟨e, xs, ho, hz, ⟨hl, nZ, hk, fun k b hb => nn k b hb, uU⟩, fun k x d hx _ _ => by simp [hx]⟩, fun ta => ⟨e, xs, ho, hz, Z5.zq hl (fun k x d hx hd => ?_)⟩⟩⟩
     obtain ⟨r0, rY, hdr⟩ := List.mem_flatten.1 (List.mem_of_getElem? hd)
     have tL := ta r0 rY d hdr
     have := hk k x d hx hd
     cases this with
     | int k n => exact .int _ _
     | bool b => exact .bool _
     | str s => exact .str _
     | unk v h => exact .unk _ h
     | sl => cases tL
 obtain ⟨hf, oh⟩ := Classical.axiomOfChoice hex
 refine hK _ _ ⟨X, fun t j => if t = d then hf j else h t j, ?_⟩ (Yr.Ru sB r.hB)
 have ua : ∀ j, (σ.new d (xa d res) (Yh qs res.flatten)).ob d j = YU (Yh qs res.flatten) j := fun j => by rw [St.Qj]; simp [uQ]
 have sW : Z5 (fun cs row => Z5 (qw (Tof T0 X) w') cs row) uq res := by
  refine yy hlen (fun k x d hx hd => ?_)
  have ho := h1 k x d hx hd
  cases ho with
  | int k n => exact Rd.int _ _
  | bool b => exact Rd.bool _
  | str s => exact Rd.str _
  | unk v h => exact Rd.unk _ h
  | sl v size rows S e xs nZ ho hz hb hl hk nn uU => exact ⟨e, xs, ho⟩
 refine r.new tD (Below.grownBy sB) (fun b hb => hb) (fun b hb => .inl hb) (xa d res) (TQ vs) (Yh qs res.flatten) hf ?_ (fun j => ?_) (fun j b uH hb => ?_) (fun j b uH hb => ?_) (fun j j' b uH ux hb uP => ?_)
 ·exact Mf (h := fun t j => if t = d then hf j else h t j) (ob := (σ.new d (xa d res) (Yh qs res.flatten)).ob) (t := d) ur sW (fun i size rows hi => by
   obtain ⟨q, rE, _⟩ := (XI qs res.flatten i hq).1 size rows hi
   exact ⟨q, by rw [ua]; exact rE⟩) (fun i c hi => by simp only [if_true]; exact (oh i).1 c hi)
 ·by_cases uH : YU (Yh qs res.flatten) j = .none
  ·rw [uH]; trivial
  ·obtain ⟨size, rows, hj⟩ := (XI qs res.flatten j hq).2 uH
   obtain ⟨q, rE, fY⟩ := (XI qs res.flatten j hq).1 size rows hj
   rw [rE]
   have := ((oh j).2 size rows hj).2.2 (Tof T0 X) (fun t j => if t = d then hf j else h t j) (σ.new d (xa d res) (Yh qs res.flatten)).ob
   cases q with
   | true => exact this.1
   | false => exact this.2 (fY rfl)
 ·obtain ⟨size, rows, hj⟩ := (XI qs res.flatten j hq).2 uH
  exact ((oh j).2 size rows hj).2.1 b hb
 ·obtain ⟨size, rows, hj⟩ := (XI qs res.flatten j hq).2 uH
  have := h2 j b (((oh j).2 size rows hj).1 b hb)
  exact ⟨this.1, fun hx => by have := (r.hX b hx).2; omega, this.2⟩
 ·obtain ⟨size, rows, hj⟩ := (XI qs res.flatten j hq).2 uH
  obtain ⟨ug, uT, ra⟩ := (XI qs res.flatten j' hq).2 ux
  exact h3 j j' b (((oh j).2 size rows hj).1 b hb) (((oh j').2 ug uT ra).1 b uP)
end
end Go.Vm
