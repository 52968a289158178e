/- An abstract machine Oe the model of Go, by value, and that it is sound: part Vb. No condition. -/
import Derived.Test.YthjkhlcbpfnobaaGreatVa
set_option linter.unusedVariables false
set_option linter.unusedSimpArgs false
namespace Go.Vm
open Go.RowKit
section
variable {P : Program} {T0 : CS} {B : Nat -> Prop} {σ : St} {a : Act} {w w' : World} {X X' : Nat -> Prop} {h : Nat -> Nat -> Hd}
theorem YO.wS {T T' : CS} {h h' : Nat -> Nat -> Hd} {ob nT : Nat -> Nat -> Ob} (hT : ∀ b k v, T b k -> w.cell? ⟨b, k, none⟩ = some v -> w'.cell? ⟨b, k, none⟩ = some v /\ T' b k) (hc : ∀ t j, Cpt h h' ob nT t j)
  {x : At} {v : Value} (r : YO T h ob w x v) : YO T' h' nT w' x v := by
 obtain ⟨d, hd⟩ : ∃ d, x.ref d = false := by
  cases x with
  | sref t j lo len => exact ⟨t + 1, by simp [At.ref]⟩
  | ptr t j i c => exact ⟨t + 1, by simp [At.ref]⟩
  | bptr t c => exact ⟨t + 1, by simp [At.ref]⟩
  | fn f t => exact ⟨t + 1, by simp [At.ref]⟩
  | tref t j i c o => exact ⟨t + 1, by simp [At.ref]⟩
  | any => exact ⟨0, rfl⟩
  | d x => exact ⟨0, rfl⟩
  | nil s => exact ⟨0, rfl⟩
  | rptr r c => exact ⟨0, rfl⟩
 exact YO.carry hT (d := d) (fun t j _ => hc t j) hd r
def UT (p : At -> Bool) : List At -> Bool
 | [] => false
 | x :: xs => p x || UT p xs
def V.Dk (p : At -> Bool) : V -> Bool
 | .one x => p x
 | .agg xs => UT p xs
 | _ => false
def FB (p : At -> Bool) : List V -> Bool
 | [] => false
 | x :: xs => x.Dk p || FB p xs
def V.zi (p : At -> Bool) : V -> Bool
 | .tup xs => FB p xs
 | .cnd _ x => x.Dk p
 | .fix _ x => x.Dk p
 | .one x => p x
 | .agg xs => UT p xs
 | .any => false
def yT (p : At -> Bool) : List Ob -> Bool
 | [] => false
 | .box cells :: os => UT p cells || yT p os
 | .lit _ rows :: os => UT p rows.flatten || yT p os
 | _ :: os => yT p os
def St.zi (p : At -> Bool) : St -> Bool
 | [] => false
 | e :: σ => e.1.zi p || yT p e.2 || St.zi p σ
def At.isT (t : Nat) : At -> Bool
 | .tref u _ _ _ _ => u == t
 | _ => false
theorem ju : ∀ (xs : List At), UT (fun _ => false) xs = false
 | [] => rfl
 | _ :: xs => by simp [UT, ju xs]
theorem MU : ∀ (xs : List V), FB (fun _ => false) xs = false
 | [] => rfl
 | x :: xs => by cases x <;> simp [FB, V.Dk, ju, MU xs]
theorem C7 (x : V) : x.Dk (fun _ => false) = false := by cases x <;> simp [V.Dk, ju]
theorem qw (x : V) : x.zi (fun _ => false) = false := by cases x <;> simp [V.zi, ju, MU, C7]
theorem Wo : ∀ (os : List Ob), yT (fun _ => false) os = false
 | [] => rfl
 | o :: os => by cases o <;> simp [yT, ju, Wo os]
theorem St.qw : ∀ (σ : St), St.zi (fun _ => false) σ = false
 | [] => rfl
 | e :: σ => by simp [St.zi, Go.Vm.qw, Go.Vm.Wo, St.qw σ]
theorem St.Oz {p : At -> Bool} : ∀ {σ : St}, σ.zi p = false -> ∀ t, (σ.get t).zi p = false
 | [], _, t => by simp [St.get, V.zi]
 | e :: σ, h, 0 => by simp only [St.zi, Bool.or_eq_false_iff] at h; exact h.1.1
 | e :: σ, h, t + 1 => by
  simp only [St.zi, Bool.or_eq_false_iff] at h
  have := St.Oz h.2 t
  simpa [St.get] using this
theorem FW {p : At -> Bool} : ∀ {os : List Ob}, yT p os = false -> ∀ j, yT p [Yo os j] = false
 | [], _, j => by simp [Yo, yT]
 | o :: os, h, 0 => by cases o <;> simp_all [Yo, yT]
 | o :: os, h, j + 1 => by
  have h2 : yT p os = false := by cases o <;> simp_all [yT]
  have := FW h2 j
  simpa [Yo] using this
theorem St.Li {p : At -> Bool} : ∀ {σ : St}, σ.zi p = false -> ∀ t j, yT p [σ.ob t j] = false
 | [], _, t, j => by simp [St.ob, yT]
 | e :: σ, h, 0, j => by simp only [St.zi, Bool.or_eq_false_iff] at h; exact FW h.1.2 j
 | e :: σ, h, t + 1, j => by
  simp only [St.zi, Bool.or_eq_false_iff] at h
  have := St.Li h.2 t j
  simpa [St.ob] using this
theorem Ll {T T' : CS} {h h' : Nat -> Nat -> Hd} {ob nT : Nat -> Nat -> Ob} {p : At -> Bool} (f : ∀ {x : At} {v : Value}, p x = false -> YO T h ob w x v -> YO T' h' nT w' x v) {xs : List At} {vs : List Value} (hx : UT p xs = false)
  (r : YB (YO T h ob w) xs vs) : YB (YO T' h' nT w') xs vs := by
 induction r with
 | nil => exact .nil
 | cons r _ ih =>
  simp only [UT, Bool.or_eq_false_iff] at hx
  exact .cons (f hx.1 r) (ih hx.2)
theorem Kp.map {T T' : CS} {h h' : Nat -> Nat -> Hd} {ob nT : Nat -> Nat -> Ob} {p : At -> Bool} (f : ∀ {x : At} {v : Value}, p x = false -> YO T h ob w x v -> YO T' h' nT w' x v) {x : V} {v : Value} (hx : x.Dk p = false)
  (r : Kp T h ob w x v) : Kp T' h' nT w' x v := by
 cases x with
 | any => exact r
 | one x => exact f hx r
 | agg xs => obtain ⟨cs, e, r⟩ := r; exact ⟨cs, e, Ll f hx r⟩
 | tup xs => exact r.elim
 | cnd g x => exact r.elim
 | fix u x => exact r.elim
theorem Qy.map {T T' : CS} {h h' : Nat -> Nat -> Hd} {ob nT : Nat -> Nat -> Ob} {p : At -> Bool} (f : ∀ {x : At} {v : Value}, p x = false -> YO T h ob w x v -> YO T' h' nT w' x v) {x : V} {v : Value} (hx : x.zi p = false)
  (r : Qy T h ob w x v) : Qy T' h' nT w' x v := by
 cases x with
 | any => exact r
 | one x => exact f hx r
 | agg xs => obtain ⟨cs, e, r⟩ := r; exact ⟨cs, e, Ll f hx r⟩
 | tup xs =>
  obtain ⟨vs, e, r⟩ := r
  refine ⟨vs, e, ?_⟩
  clear e
  generalize vs.toList = vl at r
  simp only [V.zi] at hx
  induction r with
  | nil => exact .nil
  | cons r _ ih =>
   simp only [FB, Bool.or_eq_false_iff] at hx
   exact .cons (Kp.map f hx.1 r) (ih hx.2)
 | cnd g x => exact ⟨fun hg => Kp.map f hx (r.1 hg), r.2⟩
 | fix u x => exact ⟨r.1, Kp.map f hx r.2⟩
theorem J3.map {T T' : CS} {h h' : Nat -> Nat -> Hd} {ob nT : Nat -> Nat -> Ob} {p : At -> Bool} (f : ∀ {x : At} {v : Value}, p x = false -> YO T h ob w x v -> YO T' h' nT w' x v)
  (hT : ∀ b k v, T b k -> w.cell? ⟨b, k, none⟩ = some v -> w'.cell? ⟨b, k, none⟩ = some v /\ T' b k) {hd : Hd} {o : Ob}
  (oo : o ≠ .none -> ∀ b, blk hd.v = some b -> hd.u b) (hb : o ≠ .none -> ∀ b, hd.u b -> w'.heap[b]? = w.heap[b]?) (hx : yT p [o] = false) (r : J3 T h ob w hd o) : J3 T' h' nT w' hd o := by
 cases o with
 | none => trivial
 | box cells =>
  obtain ⟨b, cs, e, hv, hh, pV⟩ := r
  simp only [yT, Bool.or_false] at hx
  exact ⟨b, cs, e, hv, by rw [hb (by simp) b (oo (by simp) b (by rw [hv]; rfl))]; exact hh, Ll f hx pV⟩
 | arr q size rows =>
  have hk : ∀ {e : TypeId} {n : Nat} {xs : List Value}, w.ownsRow 0 e size hd.v n xs -> w'.ownsRow 0 e size hd.v n xs := fun ho => qE (fun b h => hb (by simp) b (oo (by simp) b h)) ho
  cases q with
  | false =>
   obtain ⟨e, xs, ho, hz, pV⟩ := r
   exact ⟨e, xs, hk ho, hz, pV.imp fun _ _ => Rd.mono hT⟩
  | true =>
   obtain ⟨e, xs, ho, hz, pV, hn⟩ := r
   exact ⟨e, xs, hk ho, hz, pV.P1 (fun b h => hb (by simp) b h.1), hn⟩
 | lit size rows =>
  obtain ⟨e, xs, ho, hz, pV⟩ := r
  simp only [yT, Bool.or_false] at hx
  exact ⟨e, xs, qE (fun b h => hb (by simp) b (oo (by simp) b h)) ho, hz, Ll f hx pV⟩
def Ob.wa : Ob -> Ob -> Prop
 | .arr q s r, .arr q' s' r' => q = q' /\ s = s' /\ r.length = r'.length
 | .lit s r, .lit s' r' => s = s' /\ r.length = r'.length
 | .box _, .box _ => True
 | _, _ => False
theorem Rel.change (r : Rel T0 B σ a w X h) {t j : Nat} (pr : σ.ob t j ≠ .none) (oy : w'.heap.size = w.heap.size) (hw : ∀ k, ¬ (h t j).u k -> w'.heap[k]? = w.heap[k]?) (M : Nat -> Prop)
  (hM : ∀ b, M b -> ¬ B b /\ ¬ X b /\ b < w.heap.size /\ ∀ u i, σ.ob u i ≠ .none -> ¬ (h u i).u b) (o' : Ob) (mL : (σ.ob t j).wa o') (pd : Hd) (hv : pd.v = (h t j).v) (hu : ∀ b, pd.u b -> (h t j).u b \/ M b) (oo : ∀ b, blk pd.v = some b -> pd.u b)
  (p : At -> Bool) (hp : σ.zi p = false) (hn : (∀ u i c o, p (.tref t u i c o) = true) \/ pd.n = (h t j).n)
  (ld : J3 (Tof T0 X) (fun u i => if u = t /\ i = j then pd else h u i) (σ.YC t j o').ob w' pd o') : Rel T0 B (σ.YC t j o') a w' X (fun u i => if u = t /\ i = j then pd else h u i) := by
 have ov : ∀ u i, ¬ (u = t /\ i = j) -> (σ.YC t j o').ob u i = σ.ob u i := by
  intro u i pS
  rw [St.JC σ t j o' u i pr, if_neg pS]
 have oh : (σ.YC t j o').ob t j = o' := by rw [St.JC σ t j o' t j pr]; simp
 have hT : ∀ b k v, Tof T0 X b k -> w.cell? ⟨b, k, none⟩ = some v -> w'.cell? ⟨b, k, none⟩ = some v /\ Tof T0 X b k := by
  intro b' k v pj pb
  refine ⟨?_, pj⟩
  have pS : ¬ (h t j).u b' := by
   intro nX
   have pY := r.own t j b' pr nX
   rcases pj with pj | pj
   ·exact pY.1 (r.hT _ _ pj)
   ·exact pY.2.1 pj
  rw [World.cell?_of_block (hw b' pS)]; exact pb
 have cU : ∀ u i, ((fun u i => if u = t /\ i = j then pd else h u i) u i).v = (h u i).v := by
  intro u i
  by_cases hc : u = t /\ i = j
  ·simp only [hc, and_self, if_true]; exact hv
  ·simp only [hc, if_false]
 have eF : ∀ u i q size rows, (σ.YC t j o').ob u i = .arr q size rows -> ∃ pf, σ.ob u i = .arr q size pf /\ pf.length = rows.length := by
  intro u i q size rows ho
  by_cases hc : u = t /\ i = j
  ·obtain ⟨rfl, rfl⟩ := hc
   rw [oh] at ho; subst ho
   cases oc : σ.ob u i with
   | arr q0 s0 r0 => rw [oc] at mL; obtain ⟨rfl, rfl, hl⟩ := mL; exact ⟨r0, rfl, hl⟩
   | none => rw [oc] at mL; exact mL.elim
   | box c => rw [oc] at mL; exact mL.elim
   | lit s r => rw [oc] at mL; exact mL.elim
  ·rw [ov u i hc] at ho; exact ⟨rows, ho, rfl⟩
 have hll : ∀ u i size rows, (σ.YC t j o').ob u i = .lit size rows -> ∃ pf, σ.ob u i = .lit size pf /\ pf.length = rows.length := by
  intro u i size rows ho
  by_cases hc : u = t /\ i = j
  ·obtain ⟨rfl, rfl⟩ := hc
   rw [oh] at ho; subst ho
   cases oc : σ.ob u i with
   | arr q0 s0 r0 => rw [oc] at mL; exact mL.elim
   | none => rw [oc] at mL; exact mL.elim
   | box c => rw [oc] at mL; exact mL.elim
   | lit s r => rw [oc] at mL; obtain ⟨rfl, hl⟩ := mL; exact ⟨r, rfl, hl⟩
  ·rw [ov u i hc] at ho; exact ⟨rows, ho, rfl⟩
 have g9 : ∀ u i cells, (σ.YC t j o').ob u i = .box cells -> ∃ o6, σ.ob u i = .box o6 := by
  intro u i cells ho
  by_cases hc : u = t /\ i = j
  ·obtain ⟨rfl, rfl⟩ := hc
   rw [oh] at ho; subst ho
   cases oc : σ.ob u i with
   | arr q0 s0 r0 => rw [oc] at mL; exact mL.elim
   | none => rw [oc] at mL; exact mL.elim
   | box c => exact ⟨c, rfl⟩
   | lit s r => rw [oc] at mL; exact mL.elim
  ·rw [ov u i hc] at ho; exact ⟨cells, ho⟩
 have at_ : ∀ {x : At} {v : Value}, p x = false -> YO (Tof T0 X) h σ.ob w x v -> YO (Tof T0 X) (fun u i => if u = t /\ i = j then pd else h u i) (σ.YC t j o').ob w' x v := by
  intro x v g7 rx
  cases x with
  | any => exact rx
  | d x => exact Rd.mono hT rx
  | nil s => exact rx
  | sref u i lo len =>
   refine ⟨rx.1, fun q size rows ho => ?_, fun size rows ho => ?_⟩
   ·obtain ⟨pf, oc, hl⟩ := eF u i q size rows ho
    rw [cU, <- hl]; exact rx.2.1 q size pf oc
   ·obtain ⟨pf, oc, hl⟩ := hll u i size rows ho
    rw [cU, <- hl]; exact rx.2.2 size pf oc
  | ptr u i k c =>
   refine ⟨rx.1, fun q size rows ho => ?_⟩
   obtain ⟨pf, oc, hl⟩ := eF u i q size rows ho
   rw [cU]; exact rx.2 q size pf oc
  | bptr u c =>
   refine ⟨rx.1, fun cells ho => ?_⟩
   obtain ⟨o6, oc⟩ := g9 u 0 cells ho
   rw [cU]; exact rx.2 o6 oc
  | fn f u =>
   refine ⟨rx.1, fun cells ho => ?_⟩
   obtain ⟨o6, oc⟩ := g9 u 0 cells ho
   rw [cU]; exact rx.2 o6 oc
  | tref u i k c o =>
   refine ⟨rx.1, fun size rows ho => ?_⟩
   obtain ⟨pf, oc, hl⟩ := eF u i true size rows ho
   have h1 := rx.2 size pf oc
   by_cases hc : u = t /\ i = j
   ·obtain ⟨rfl, rfl⟩ := hc
    rcases hn with hn | hn
    ·rw [hn] at g7; cases g7
    ·simp only [and_self, if_true, hn]; exact h1
   ·simp only [hc, if_false]; exact h1
  | rptr rr c =>
   obtain ⟨b, off, g, e, hk⟩ := rx
   exact ⟨b, off, g, e, fun k d hd => ⟨(hT _ _ _ (hk k d hd).2.1 (hk k d hd).1).1, (hk k d hd).2.1, Rd.mono hT (hk k d hd).2.2⟩⟩
 have ow : ∀ u i, (σ.YC t j o').ob u i ≠ .none -> σ.ob u i ≠ .none := by
  intro u i oR
  by_cases nX : u = t /\ i = j
  ·obtain ⟨rfl, rfl⟩ := nX; exact pr
  ·rw [ov u i nX] at oR; exact oR
 refine ⟨by rw [r.size, St.Xa], r.defers, by rw [oy]; exact r.hB, fun b hb => by rw [oy]; exact r.hX b hb, r.hT, fun u nX => ?_, fun u i => ?_, fun u i b' pS pj => ?_, fun u i b' pS pj => ?_, fun u i u' i' b' pS oU og oK => ?_⟩
 ·rw [St.Xa] at nX
  rw [St.QL]; exact Qy.map at_ (St.Oz hp u) (r.slot u nX)
 ·by_cases hc : u = t /\ i = j
  ·obtain ⟨rfl, rfl⟩ := hc; rw [oh]; simp only [and_self, if_true]; exact ld
  ·rw [ov u i hc]
   simp only [hc, if_false]
   exact J3.map at_ hT (fun ho b => r.ub u i b ho) (fun ho b hb => hw b (fun bq => hc (r.inj u i t j b ho pr hb bq))) (St.Li hp u i) (r.obj u i)
 ·by_cases hc : u = t /\ i = j
  ·simp only [hc, and_self, if_true] at pj ⊢; exact oo b' pj
  ·simp only [hc, if_false] at pj ⊢; exact r.ub u i b' (ow u i pS) pj
 ·rw [oy]
  by_cases hc : u = t /\ i = j
  ·simp only [hc, and_self, if_true] at pj
   rcases hu b' pj with h1 | h1
   ·exact r.own t j b' pr h1
   ·have := hM b' h1; exact ⟨this.1, this.2.1, this.2.2.1⟩
  ·simp only [hc, if_false] at pj; exact r.own u i b' (ow u i pS) pj
 ·by_cases hc : u = t /\ i = j
  ·by_cases oL : u' = t /\ i' = j
   ·exact ⟨by rw [hc.1, oL.1], by rw [hc.2, oL.2]⟩
   ·simp only [hc, and_self, if_true] at og
    simp only [oL, if_false] at oK
    rcases hu b' og with h1 | h1
    ·have := r.inj t j u' i' b' pr (ow u' i' oU) h1 oK
     rw [hc.1, hc.2]; exact this
    ·exact absurd oK ((hM b' h1).2.2.2 u' i' (ow u' i' oU))
  ·by_cases oL : u' = t /\ i' = j
   ·simp only [oL, and_self, if_true] at oK
    simp only [hc, if_false] at og
    rcases hu b' oK with h1 | h1
    ·have := r.inj u i t j b' (ow u i pS) pr og h1
     rw [oL.1, oL.2]; exact this
    ·exact absurd og ((hM b' h1).2.2.2 u i (ow u i pS))
   ·simp only [hc, if_false] at og
    simp only [oL, if_false] at oK
    exact r.inj u i u' i' b' (ow u i pS) (ow u' i' oU) og oK
theorem Rel.Bm (r : Rel T0 B σ a w X h) {t j : Nat} (pr : σ.ob t j ≠ .none) (oy : w'.heap.size = w.heap.size) (hw : ∀ k, ¬ (h t j).u k -> w'.heap[k]? = w.heap[k]?)
  (o' : Ob) (mL : (σ.ob t j).wa o') (ld : J3 (Tof T0 X) h (σ.YC t j o').ob w' (h t j) o') : Rel T0 B (σ.YC t j o') a w' X h := by
 have hh : (fun u i => if u = t /\ i = j then h t j else h u i) = h := by
  funext u i
  by_cases hc : u = t /\ i = j
  ·simp [hc]
  ·simp [hc]
 have := r.change pr oy hw (fun _ => False) (fun _ hh => hh.elim) o' mL (h t j) rfl (fun b hb => .inl hb) (fun b hb => r.ub t j b pr hb) (fun _ => false) (St.qw σ) (.inr rfl) (by rw [hh]; exact ld)
 rw [hh] at this; exact this
theorem run_store {T : TypeId} {ti : TypeInfo} (hi : P.info? T = some ti) {g o : Nat} {e : TypeId} {cur : Array Value} {val : Value} (hg : w.heap[g]? = some (.cells cur e (0, 0))) (oy : val.cells.size = P.cellsOf T) (hle : o + P.cellsOf T <= cur.size) (h1 : ∀ u ∈ val.cells.toList, u.oneCell' = true) :
  (Instr.storeAt T (.pointer (some ⟨g, o, none⟩)) val).run P w = .ok () (w.setRow g (place cur.toList o val.cells.toList).toArray) := by
 have pt := run_storeCells_at P g o e val.cells.toList 0 cur w hg (by simp; omega) h1
 have pS : ¬ val.cells.size ≠ P.cellsOf T := by omega
 simp only [Instr.storeAt, Instr.sureAddr, storeVar, Sem.run_bind, Sem.run_pure, Result.andThen_ok, Jw hi, if_neg pS]
 rw [pt]
 simp [place]
theorem XI.setRow {B : Nat -> Prop} {g : Nat} (hg : ¬ B g) (cs : Array Value) : XI B w (w.setRow g cs) :=
 ⟨rfl, rfl, rfl, by simp [World.setRow], fun k hk => setRow_other w g k cs (fun e => hg (e ▸ hk))⟩
theorem HX (r : Rel T0 B σ a w X h) {o : Oper} {T : TypeId} {x y : Operand} (pP : o.op = .store T x y) (hd : o.dst = none) (ht : xo P T = true) (lu : gOf (look P σ 0 x) = true) (lv : gOf (look P σ T y) = true)
  {t c : Nat} (hx : unc (look P σ 0 x) = .one (.bptr t c)) {cells : List At} (ho : σ.ob t 0 = .box cells) (nJ : (unc (look P σ T y)).flat = true) (hl : (unc (look P σ T y)).cells.length = P.cellsOf T) (hle : c + P.cellsOf T <= cells.length)
  {K : Act -> World -> Prop} {Q : Exit -> Act -> World -> Prop} (hK : ∀ a' w', KF T0 B (σ.YC t 0 (.box (place cells c (unc (look P σ T y)).cells))) a' w' -> XI B w w' -> K a' w') : o.wp P a w K Q := by
 obtain ⟨_, ti, _, hi, _, _⟩ := kC ht
 have eS := r.arg (P := P) 0 x hx lu
 obtain ⟨b, cs, e, hb, he, hh, pV⟩ := r.box ho eS
 have hy := kq nJ (r.arg (P := P) T y rfl lv)
 have nq := hy.length
 have oG := pV.length
 have e1 : cs.toList.length = cs.size := Array.length_toList
 have e2 : (a.eval y).cells.toList.length = (a.eval y).cells.size := Array.length_toList
 have pq := run_store (P := P) (w := w) hi (o := c) (val := a.eval y) hh (by omega) (by omega) (fun u hu => by obtain ⟨x', _, lJ⟩ := hy.mem hu; exact YO.QN lJ)
 have pr : σ.ob t 0 ≠ .none := by rw [ho]; simp
 have oX : blk (h t 0).v = some b := by rw [hb]; rfl
 have hB := r.tY pr oX
 have oo := r.ub t 0 b pr oX
 unfold Oper.wp
 simp only [execOp, pP, he, Sem.run_bind, pq, Result.andThen_ok, Sem.run_pure, Oper.upon_skip, hd]
 refine hK _ _ ⟨X, h, ?_⟩ (XI.setRow hB.1 _)
 have o7 := setRow_heap w b cs (place cs.toList c (a.eval y).cells.toList).toArray e (0, 0) hh
 refine r.Bm pr (by simp [World.setRow]) (fun k hk => setRow_other w b k _ (fun e => hk (e ▸ oo))) _ (by rw [ho]; trivial) ?_
 have r2 : Rel T0 B (σ.YC t 0 (.box (place cells c (unc (look P σ T y)).cells))) a (w.setRow b (place cs.toList c (a.eval y).cells.toList).toArray) X h -> True := fun _ => trivial
 have hT : ∀ b' k v, Tof T0 X b' k -> w.cell? ⟨b', k, none⟩ = some v -> (w.setRow b (place cs.toList c (a.eval y).cells.toList).toArray).cell? ⟨b', k, none⟩ = some v /\ Tof T0 X b' k := by
  intro b' k v pj pb
  refine ⟨?_, pj⟩
  have pS : b' ≠ b := by
   rintro rfl
   rcases pj with pj | pj
   ·exact hB.1 (r.hT _ _ pj)
   ·exact hB.2.1 pj
  rw [World.cell?_of_block (setRow_other w b b' _ pS)]; exact pb
 have ov : ∀ u i, ¬ (u = t /\ i = 0) -> (σ.YC t 0 (.box (place cells c (unc (look P σ T y)).cells))).ob u i = σ.ob u i := by
  intro u i pS
  rw [St.JC σ t 0 _ u i pr, if_neg pS]
 have oh : (σ.YC t 0 (.box (place cells c (unc (look P σ T y)).cells))).ob t 0 = .box (place cells c (unc (look P σ T y)).cells) := by rw [St.JC σ t 0 _ t 0 pr]; simp
 have ah : ∀ u i, Cpt h h σ.ob (σ.YC t 0 (.box (place cells c (unc (look P σ T y)).cells))).ob u i := by
  intro u i
  by_cases hu : u = t /\ i = 0
  ·obtain ⟨rfl, rfl⟩ := hu
   refine ⟨fun q size rows pv => ?_, fun size rows pv => ?_, fun pZ pv => ⟨rfl, cells, ho⟩⟩
   ·rw [oh] at pv; cases pv
   ·rw [oh] at pv; cases pv
  ·exact Cpt.same rfl (ov u i hu)
 have at_ : ∀ {x : At} {v : Value}, YO (Tof T0 X) h σ.ob w x v -> YO (Tof T0 X) h (σ.YC t 0 (.box (place cells c (unc (look P σ T y)).cells))).ob (w.setRow b (place cs.toList c (a.eval y).cells.toList).toArray) x v := fun rx => YO.wS hT ah rx
 refine ⟨b, _, e, hb, o7, ?_⟩
 have := (pV.place c hy).imp (fun _ _ => at_)
 simpa using this
end
end Go.Vm
namespace Go.Vm
open Go.RowKit
section
variable {P : Program} {T0 : CS} {B : Nat -> Prop} {σ : St} {a : Act} {w w' : World} {X X' : Nat -> Prop} {h : Nat -> Nat -> Hd}
theorem y1 {α : Type} (size c : Nat) (ds : List α) (hc : c + ds.length <= size) : ∀ (rows : List (List α)) (i : Nat) (row : List α), rows[i]? = some row -> (∀ r ∈ rows, r.length = size) ->
  (rows.set i (place row c ds)).flatten = place rows.flatten (i * size + c) ds
 | [], i, row, hr, _ => by simp at hr
 | r0 :: rows, 0, row, hr, hz => by
  simp at hr; subst hr
  have h0 : r0.length = size := hz r0 (by simp)
  simp only [List.set_cons_zero, List.flatten_cons, place, Nat.zero_mul, Nat.zero_add]
  rw [List.take_append_of_le_length (by omega), List.drop_append_of_le_length (by omega)]
  simp
 | r0 :: rows, i + 1, row, hr, hz => by
  have h0 : r0.length = size := hz r0 (by simp)
  have ih := y1 size c ds hc rows i row (by simpa using hr) (fun r hr => hz r (by simp [hr]))
  rw [List.set_cons_succ, List.flatten_cons, ih, List.flatten_cons]
  unfold place
  have e1 : (i + 1) * size + c = r0.length + (i * size + c) := by rw [h0, Nat.add_mul]; omega
  have e2 : (i + 1) * size + c + ds.length = r0.length + (i * size + c + ds.length) := by rw [h0, Nat.add_mul]; omega
  rw [e2, e1, List.take_length_add_append, List.drop_length_add_append]
  simp
theorem P0 {α : Type} (l : List α) (n off : Nat) (xs : List α) (hl : off + xs.length <= n) (hn : n <= l.length) : (place l off xs).take n = place (l.take n) off xs := by
 unfold place
 rw [List.take_take, Nat.min_eq_left (by omega), List.drop_take]
 rw [List.take_append, List.take_append]
 simp only [List.length_append, List.length_take]
 rw [Nat.min_eq_left (by omega), List.take_of_length_le (l := List.take off l) (by simp; omega), List.take_of_length_le (l := xs) (by omega)]
theorem kM {α : Type} (l : List α) (o : Nat) (xs : List α) (hl : o + xs.length <= l.length) (k : Nat) (v : α) (hv : (place l o xs)[k]? = some v) :
  (o <= k /\ k < o + xs.length /\ xs[k - o]? = some v) \/ (¬ (o <= k /\ k < o + xs.length) /\ l[k]? = some v) := by
 unfold place at hv
 have h1 : (l.take o).length = o := by simp; omega
 rcases Nat.lt_or_ge k o with hk | hk
 ·rw [List.append_assoc, List.getElem?_append_left (by omega), List.getElem?_take, if_pos hk] at hv
  exact .inr ⟨by omega, hv⟩
 ·rw [List.append_assoc, List.getElem?_append_right (by omega), h1] at hv
  rcases Nat.lt_or_ge (k - o) xs.length with hH | hH
  ·rw [List.getElem?_append_left hH] at hv
   exact .inl ⟨hk, by omega, hv⟩
  ·rw [List.getElem?_append_right hH, List.getElem?_drop] at hv
   refine .inr ⟨by omega, ?_⟩
   rw [show o + xs.length + (k - o - xs.length) = k by omega] at hv; exact hv
theorem I3 (r : Rel T0 B σ a w X h) {o : Oper} {T : TypeId} {x y : Operand} (pP : o.op = .store T x y) (hd : o.dst = none) (ht : xo P T = true) (lu : gOf (look P σ 0 x) = true) (lv : gOf (look P σ T y) = true)
  {t j i c : Nat} (hx : unc (look P σ 0 x) = .one (.ptr t j i c)) {q : Bool} {size : Nat} {rows : List (List D)} (ho : σ.ob t j = .arr q size rows) (hi : i < rows.length) {ds : List D} (nJ : (unc (look P σ T y)).flat = true) (iK : rowOf σ (unc (look P σ T y)).cells = some ds) (pt : Kx (unc (look P σ T y)).cells = true)
  (hl : ds.length = P.cellsOf T) (hle : c + P.cellsOf T <= size) (hq : q = true -> (∀ d ∈ ds, d.scalar = true) /\ ∀ k d, k < P.cellsOf T -> (rows.getD i [])[c + k]? = some d -> d.scalar = true)
  {K : Act -> World -> Prop} {Q : Exit -> Act -> World -> Prop} (hK : ∀ a' w', KF T0 B (σ.YC t j (.arr q size (rows.set i (place (rows.getD i []) c ds)))) a' w' -> XI B w w' -> K a' w') : o.wp P a w K Q := by
 obtain ⟨_, ti, _, cL, _, _⟩ := kC ht
 have eS := r.arg (P := P) 0 x hx lu
 obtain ⟨b, cap, cur, e, xs, hb, he, hh, nG, nm, ni, mT, hz, lh, pV, pY⟩ := r.arr ho eS
 have hy := kq nJ (r.arg (P := P) T y rfl lv)
 have fQ := r.rowOf true iK hy (fun _ => pt)
 simp only [if_true] at fQ
 have nq := fQ.length
 have e2 : (a.eval y).cells.toList.length = (a.eval y).cells.size := Array.length_toList
 have e3 : cur.toList.length = cur.size := Array.length_toList
 have oC : rows[i]? = some (rows.getD i []) := by simp [List.getD_eq_getElem?_getD, List.getElem?_eq_getElem hi]
 have hmul : i * size + size <= rows.length * size := by rw [<- Nat.succ_mul]; exact Nat.mul_le_mul_right _ hi
 have fR : rows.length * size <= cap * size := Nat.mul_le_mul_right _ nG
 have pq := run_store (P := P) (w := w) cL (o := i * size + c) (val := a.eval y) hh (by omega) (by omega) (fun u hu => by obtain ⟨x', _, lJ⟩ := hy.mem hu; exact YO.QN lJ)
 have pr : σ.ob t j ≠ .none := by rw [ho]; simp
 have oX : blk (h t j).v = some b := by rw [hb]; rfl
 have hB := r.tY pr oX
 have oo := r.ub t j b pr oX
 unfold Oper.wp
 simp only [execOp, pP, he, Sem.run_bind, pq, Result.andThen_ok, Sem.run_pure, Oper.upon_skip, hd]
 refine hK _ _ ⟨X, h, ?_⟩ (XI.setRow hB.1 _)
 refine r.Bm pr (by simp [World.setRow]) (fun k hk => setRow_other w b k _ (fun e => hk (e ▸ oo))) _ (by rw [ho]; simp [Ob.wa]) ?_
 have o7 := setRow_heap w b cur (place cur.toList (i * size + c) (a.eval y).cells.toList).toArray e (0, 0) hh
 have hT : ∀ b' k v, Tof T0 X b' k -> w.cell? ⟨b', k, none⟩ = some v -> (w.setRow b (place cur.toList (i * size + c) (a.eval y).cells.toList).toArray).cell? ⟨b', k, none⟩ = some v /\ Tof T0 X b' k := by
  intro b' k v pj pb
  refine ⟨?_, pj⟩
  have pS : b' ≠ b := by
   rintro rfl
   rcases pj with pj | pj
   ·exact hB.1 (r.hT _ _ pj)
   ·exact hB.2.1 pj
  rw [World.cell?_of_block (setRow_other w b b' _ pS)]; exact pb
 have gP : xs.length = rows.length * size := by rw [lh, Yi rows size hz]
 have lY : (rows.getD i []).length = size := hz _ (List.mem_of_getElem? oC)
 have nY : (w.setRow b (place cur.toList (i * size + c) (a.eval y).cells.toList).toArray).ownsRow 0 e size (h t j).v (rows.set i (place (rows.getD i []) c ds)).length (place xs (i * size + c) (a.eval y).cells.toList) := by
  refine ⟨?_, .inr ⟨b, cap, _, by simpa using hb, Nat.zero_le _, o7, by simpa using nG, nm, ?_, ?_⟩⟩
  ·rw [Xs _ _ _ (by omega), gP]; simp
  ·simp only [List.size_toArray]
   rw [Xs _ _ _ (by omega), e3, ni]
  ·simp only [List.length_set]
   rw [P0 _ _ _ _ (by omega) (by omega), mT]
 have mG : ∀ r ∈ rows.set i (place (rows.getD i []) c ds), r.length = size := by
  intro r' oq
  rcases List.mem_or_eq_of_mem_set oq with oq | oq
  ·exact hz r' oq
  ·rw [oq, Xs _ _ _ (by omega), lY]
 cases q with
 | false =>
  refine ⟨e, _, nY, mG, ?_⟩
  rw [y1 size c ds (by omega) rows i _ oC hz]
  exact ((pV rfl).imp fun _ _ => Rd.mono hT).place _ (fQ.imp fun _ _ => Rd.mono hT)
 | true =>
  obtain ⟨⟨_, Sk, h1, h2, h3⟩, hn⟩ := pY rfl
  obtain ⟨hq1, hq2⟩ := hq rfl
  have pb : ∀ k u, (place xs (i * size + c) (a.eval y).cells.toList)[k]? = some u -> (i * size + c <= k /\ k < i * size + c + ds.length /\ (a.eval y).cells.toList[k - (i * size + c)]? = some u) \/ (¬ (i * size + c <= k /\ k < i * size + c + ds.length) /\ xs[k]? = some u) := by
   intro k u hu
   exact kM xs _ _ (by omega) k u hu |>.imp (fun hh => ⟨hh.1, by omega, hh.2.2⟩) (fun hh => ⟨by rw [<- nq]; exact hh.1, hh.2⟩)
  have iE : ∀ k d, (rows.set i (place (rows.getD i []) c ds)).flatten[k]? = some d -> (i * size + c <= k /\ k < i * size + c + ds.length /\ ds[k - (i * size + c)]? = some d) \/ (¬ (i * size + c <= k /\ k < i * size + c + ds.length) /\ rows.flatten[k]? = some d) := by
   intro k d nr
   rw [y1 size c ds (by omega) rows i _ oC hz] at nr
   exact kM _ _ _ (by rw [Yi rows size hz]; omega) k d nr
  refine ⟨e, _, nY, mG, ⟨?_, Sk, fun k u d hu nr => ?_, h2, h3⟩, fun k u d hu nr oz => ?_⟩
  ·rw [Xs _ _ _ (by omega), lh, Yi rows size hz, Yi _ size mG]; simp
  ·rcases pb k u hu with ⟨p1, p2, p3⟩ | ⟨p1, p3⟩
   ·rcases iE k d nr with ⟨_, _, p4⟩ | ⟨p4, _⟩
    ·obtain ⟨d', pd, oq⟩ := fQ.get _ _ p3
     rw [p4] at pd; cases pd
     have hs := hq1 d (List.mem_of_getElem? p4)
     cases oq with
     | int k n => exact .int _ _ _
     | bool b => exact .bool _ _
     | str s => exact .str _ _
     | unk v h => exact .unk _ h _
     | nil => simp [D.scalar] at hs
     | sl => simp [D.scalar] at hs
    ·exact absurd ⟨p1, p2⟩ p4
   ·rcases iE k d nr with ⟨p4, p5, _⟩ | ⟨_, p4⟩
    ·exact absurd ⟨p4, p5⟩ p1
    ·refine (h1 k u d p3 p4).P1 (fun b' pj => setRow_other w b b' _ ?_)
     rintro rfl
     exact (h2 k b' pj).2 oX
  ·rcases iE k d nr with ⟨p4, p5, p6⟩ | ⟨p4, p6⟩
   ·have := hq1 d (List.mem_of_getElem? p6)
    rw [oz] at this; cases this
   ·rcases pb k u hu with ⟨p1, p2, _⟩ | ⟨_, p3⟩
    ·exact absurd ⟨p1, p2⟩ p4
    ·exact hn k u d p3 p6 oz
end
end Go.Vm
namespace Go.Vm
open Go.RowKit
section
variable {P : Program} {T0 : CS} {B : Nat -> Prop} {σ : St} {a : Act} {w w' : World} {X X' : Nat -> Prop} {h : Nat -> Nat -> Hd}
theorem Nc (t ty e e0 : TypeId) (i : TypeInfo) (ht : P.underlying t = some (.slice e)) (hi : P.info? e = some i)
  (g iF eJ : Nat) (cur : Array Value) (hg : w.heap[g]? = some (.cells cur e0 (0, 0)))
  (a : Addr) (m c : Nat) (news : List Value) (hl : news.length = m * i.size) (mA : ∀ j u, news[j]? = some u -> w.cell? (a.add j) = some u) (h1 : ∀ u ∈ news, u.oneCell' = true)
  (lg : iF + m <= eJ) (eK : iF * i.size + news.length <= cur.size) :
  (Builtin.append_ #[t, t] ty #[.slice (some ⟨g, 0, none⟩) iF eJ, .slice (some a) m c]).run P w =
   .ok (.slice (some ⟨g, 0, none⟩) (iF + m) eJ) (w.setRow g (cur.toList.take (iF * i.size) ++ news ++ cur.toList.drop (iF * i.size + news.length)).toArray) := by
 have hf := run_firstCells_some (P := P) w i.size m a m c news hl mA
 have pt := run_storeCells_at P g (iF * i.size) e0 news 0 cur w hg (by simpa using eK) h1
 simp only [Nat.add_zero] at pt
 simp [Builtin.append_, run_underlying ht, sizeOf, typeInfo, hi, Builtin.lenOf, lg, hf, Addr.add_lit, pt]
theorem Sr (t ty e e0 : TypeId) (i : TypeInfo) (z : Value) (ht : P.underlying t = some (.slice e)) (hi : P.info? e = some i) (hz : i.zero = some z)
  (iG : z.cells.size = i.size) (oy : 0 < i.size) (v : Value) (n : Nat) (xs : List Value) (pY : w.ownsRow 0 e0 i.size v n xs)
  (a : Addr) (m c : Nat) (news : List Value) (hl : news.length = m * i.size) (mA : ∀ j u, news[j]? = some u -> w.cell? (a.add j) = some u) (h1 : ∀ u ∈ news, u.oneCell' = true)
  (aZ : n + m <= maxLen) (nR : (n + m) * i.bytes <= 140737488355328) :
  ∃ v' w' e1, (Builtin.append_ #[t, t] ty #[v, .slice (some a) m c]).run P w = .ok v' w' /\ w'.ownsRow 0 e1 i.size v' (n + m) (xs ++ news) /\ w.grownBy w' (blk v) /\
   (∀ b, blk v' = some b -> (w.heap.size <= b /\ b < w'.heap.size) \/ blk v = some b) := by
 have hlen : (xs ++ news).length = (n + m) * i.size := by rw [List.length_append, pY.1, hl, Nat.add_mul]
 rcases pY.2 with ⟨rfl, rfl⟩ | ⟨g, cap, cur, rfl, _, hg, np, fM, ni, cQ⟩
 ·have hx : xs = [] := List.eq_nil_of_length_eq_zero (by simpa using pY.1)
  subst hx
  obtain ⟨v', w', hr, ho, mB, _⟩ := run_append_own (P := P) w w.heap.size t ty e i z i.size i.bytes ht hi hz rfl rfl iG oy (.slice none 0 0) 0 [] (World.ownsRow_nil w _ e i.size) a m c news hl mA h1 aZ nR (Nat.le_refl _)
  refine ⟨v', w', e, hr, ?_, mB, fun b hb => .inl ?_⟩
  ·refine ⟨ho.1, ho.2.imp id ?_⟩
   rintro ⟨g, cap, cur, hv, _, rest⟩
   exact ⟨g, cap, cur, hv, Nat.zero_le _, rest⟩
  ·have pj : v'.ownBlock = some b := by
    cases v' with
    | slice o l c => cases o with
     | none => simp [blk] at hb
     | some ad => simpa [blk, Value.ownBlock] using hb
    | pointer o => rcases ho.2 with ⟨hv, _⟩ | ⟨g, cap, cur, hv, _⟩ <;> cases hv
    | _ => simp [blk] at hb
   exact ho.lt b pj
 ·by_cases lg : n + m <= cap
  ·have eK : n * i.size + news.length <= cur.size := by rw [hl, ni, <- Nat.add_mul]; exact Nat.mul_le_mul_right _ lg
   have hr := Nc (P := P) (w := w) t ty e e0 i ht hi g n cap cur hg a m c news hl mA h1 lg eK
   refine ⟨_, _, e0, hr, ⟨hlen, .inr ⟨g, cap, _, rfl, Nat.zero_le _, setRow_heap w g cur _ e0 _ hg, lg, fM, ?_, ?_⟩⟩, ⟨rfl, rfl, rfl, by simp [World.setRow], fun k _ hk => setRow_other w g k _ (fun e => hk (by simp [blk, e]))⟩, fun b hb => .inr (by simpa [blk] using hb)⟩
   ·simp only [List.size_toArray, List.length_append, List.length_take, List.length_drop, Array.length_toList]
    omega
   ·rw [cQ, <- hlen]
    exact List.take_left
  ·have holds : ∀ j u, xs[j]? = some u -> w.cell? ((⟨g, 0, none⟩ : Addr).add j) = some u := pY.cells (g := g) rfl
   have ai : n + m <= 9223372036854775807 := by simp only [maxLen] at aZ; omega
   have hr := run_append_grow (P := P) w t ty e i z ht hi hz ⟨g, 0, none⟩ n cap xs pY.1 holds a m c news hl mA (by omega) (by omega) (growslice_fits (by omega) nR)
   have mY := grownCap_ge w (n + m) cap e
   have aj : grownCap w (n + m) cap e <= maxLen := grownCap_le_maxLen w (n + m) cap e aZ
   refine ⟨_, _, e, hr, ⟨hlen, .inr ⟨w.heap.size, _, _, rfl, Nat.zero_le _, heap_alloc_new w.drew _, mY, aj, ?_, ?_⟩⟩, ⟨rfl, rfl, rfl, by simp, fun k hk _ => (World.grownBy_alloc w.drew _ none).block k hk (by simp)⟩, fun b hb => .inl ?_⟩
   ·simp only [Array.size_append, List.size_toArray, size_zeroCells, iG, pY.1, hl, <- Nat.add_mul]
    congr 1
    omega
   ·simp only [Array.toList_append, List.append_assoc]
    rw [<- List.append_assoc, <- hlen]
    exact List.take_left
   ·simp [blk] at hb; subst hb; simp
theorem Vj (t ty e : TypeId) (i : TypeInfo) (ht : P.underlying t = some (.slice e)) (hi : P.info? e = some i) (base : Option Addr) (n cap : Nat) (np : n <= cap) (hb : base = none -> cap = 0) :
  (Builtin.append_ #[t, t] ty #[.slice base n cap, .slice none 0 0]).run P w = .ok (.slice base n cap) w := by
 cases base with
 | none =>
  have := hb rfl; subst this
  have : n = 0 := by omega
  subst this
  simp [Builtin.append_, run_underlying ht, sizeOf, typeInfo, hi, Builtin.lenOf, Builtin.firstCells]
 | some ad => simp [Builtin.append_, run_underlying ht, sizeOf, typeInfo, hi, Builtin.lenOf, Builtin.firstCells, np, storeCells]
theorem Rel.less (r : Rel T0 B σ a w X h) {σ' : St} (hl : σ'.length = σ.length) (od : ∀ t, σ'.get t = σ.get t) (hk : ∀ t j, σ'.ob t j ≠ .none -> σ'.ob t j = σ.ob t j) : Rel T0 B σ' a w X h := by
 have back : ∀ t j o, σ'.ob t j = o -> o ≠ .none -> σ.ob t j = o := by
  intro t j o ho pS
  rw [<- hk t j (by rw [ho]; exact pS)]; exact ho
 have at_ : ∀ {x : At} {v : Value}, (fun _ : At => false) x = false -> YO (Tof T0 X) h σ.ob w x v -> YO (Tof T0 X) h σ'.ob w x v := by
  intro x v _ rx
  cases x with
  | any => exact rx
  | d x => exact rx
  | nil s => exact rx
  | sref u i lo len => exact ⟨rx.1, fun q size rows ho => rx.2.1 q size rows (back u i _ ho (by simp)), fun size rows ho => rx.2.2 size rows (back u i _ ho (by simp))⟩
  | ptr u i k c => exact ⟨rx.1, fun q size rows ho => rx.2 q size rows (back u i _ ho (by simp))⟩
  | bptr u c => exact ⟨rx.1, fun cells ho => rx.2 cells (back u 0 _ ho (by simp))⟩
  | fn f u => exact ⟨rx.1, fun cells ho => rx.2 cells (back u 0 _ ho (by simp))⟩
  | tref u i k c o => exact ⟨rx.1, fun size rows ho => rx.2 size rows (back u i _ ho (by simp))⟩
  | rptr rr c => exact rx
 have ow : ∀ u i, σ'.ob u i ≠ .none -> σ.ob u i ≠ .none := fun u i hn => by rw [<- hk u i hn]; exact hn
 refine ⟨by rw [r.size, hl], r.defers, r.hB, r.hX, r.hT, fun u hu => ?_, fun u i => ?_, fun u i b hn => r.ub u i b (ow u i hn), fun u i b hn => r.own u i b (ow u i hn), fun u i u' i' b hn oR => r.inj u i u' i' b (ow u i hn) (ow u' i' oR)⟩
 ·rw [od u]; exact Qy.map at_ (qw _) (r.slot u (by omega))
 ·by_cases hn : σ'.ob u i = .none
  ·rw [hn]; trivial
  ·rw [hk u i hn]
   exact J3.map at_ (fun b k v hb hc => ⟨hc, hb⟩) (fun ho b => r.ub u i b ho) (fun _ _ _ => rfl) (Wo _) (r.obj u i)
theorem St.UU (σ : St) (t j u i : Nat) : (σ.YC t j .none).ob u i = if u = t /\ i = j then .none else σ.ob u i := by
 by_cases pr : σ.ob t j = .none
 ·have key : ∀ (σ : St) (t u : Nat), σ.ob t j = .none -> (σ.YC t j .none).ob u i = σ.ob u i := by
   intro σ
   induction σ with
   | nil => intro t u _; simp [St.YC]
   | cons e σ ih =>
    intro t u ho
    cases t with
    | zero => cases u with
     | zero =>
      simp only [St.YC, St.ob, List.getElem?_cons_zero, Dw] at ho ⊢
      split
      ·rename_i hh; rw [hh.1, ho]
      ·rfl
     | succ u => simp [St.YC, St.ob]
    | succ t => cases u with
     | zero => simp [St.YC, St.ob]
     | succ u =>
      have := ih t u (by simpa [St.ob] using ho)
      simp only [St.ob, St.YC] at this ⊢; simpa using this
  rw [key σ t u pr]
  split
  ·rename_i hh; rw [hh.1, hh.2]; exact pr
  ·rfl
 ·exact St.JC σ t j _ u i pr
theorem Rel.drop (r : Rel T0 B σ a w X h) (t j : Nat) : Rel T0 B (σ.YC t j .none) a w X h := by
 refine r.less (St.Xa _ _ _ _) (fun u => St.QL _ _ _ _ u) (fun u i hn => ?_)
 rw [St.UU] at hn ⊢
 split
 ·rename_i hh; rw [if_pos hh] at hn; exact absurd rfl hn
 ·rfl
def St.Z9 : St -> List (Nat × Nat) -> St
 | σ, [] => σ
 | σ, p :: l => St.Z9 (σ.YC p.1 p.2 .none) l
theorem St.Kk : ∀ (l : List (Nat × Nat)) (σ : St), (σ.Z9 l).length = σ.length
 | [], σ => rfl
 | p :: l, σ => by rw [St.Z9, St.Kk l, St.Xa]
theorem St.xf : ∀ (l : List (Nat × Nat)) (σ : St) (t : Nat), (σ.Z9 l).get t = σ.get t
 | [], σ, t => rfl
 | p :: l, σ, t => by rw [St.Z9, St.xf l, St.QL]
theorem St.Kn : ∀ (l : List (Nat × Nat)) (σ : St) (t j : Nat), (σ.Z9 l).ob t j = if (t, j) ∈ l then .none else σ.ob t j
 | [], σ, t, j => by simp [St.Z9]
 | p :: l, σ, t, j => by
  rw [St.Z9, St.Kn l, St.UU]
  by_cases h1 : (t, j) ∈ l
  ·simp [h1]
  ·by_cases h2 : t = p.1 /\ j = p.2
   ·have : (t, j) = p := by rw [h2.1, h2.2]
    rw [if_neg h1, if_pos h2, if_pos (by rw [this]; simp)]
   ·have : ¬ (t, j) = p := fun e => h2 (by rw [<- e]; exact ⟨rfl, rfl⟩)
    simp [h1, h2, this]
theorem Rel.Z9 (r : Rel T0 B σ a w X h) (l : List (Nat × Nat)) : Rel T0 B (σ.Z9 l) a w X h := by
 refine r.less (St.Kk l σ) (St.xf l σ) (fun u i hn => ?_)
 rw [St.Kn] at hn ⊢
 split
 ·rename_i hh; rw [if_pos hh] at hn; exact absurd rfl hn
 ·rfl
end
end Go.Vm
namespace Go.Vm
open Go.RowKit
section
variable {P : Program} {T0 : CS} {B : Nat -> Prop} {σ : St} {a : Act} {w w' : World} {X X' : Nat -> Prop} {h : Nat -> Nat -> Hd}
theorem qp {T : TypeId} (hz : Qg P T = true) : ∃ i z row, P.info? T = some i /\ i.zero = some z /\ ko P 12 T = some row /\ i.size = row.length /\ z.cells.size = i.size /\ i.size = P.cellsOf T /\ (∀ T' h ob w, YB (YO T' h ob w) row z.cells.toList) := by
 have mF : ∃ row, ko P 12 T = some row := by
  unfold Qg at hz
  split at hz
  ·rename_i row i hr hi; exact ⟨row, hr⟩
  ·cases hz
 obtain ⟨row, hr⟩ := mF
 obtain ⟨i, z, hi, la, oy, pV⟩ := IK hz hr
 refine ⟨i, z, row, hi, la, hr, oy, ?_, by simp [Program.cellsOf, hi], pV⟩
 have := (pV (fun _ _ => True) (fun _ _ => Hd.of undef) (fun _ _ => .none) default).length
 have e1 : z.cells.toList.length = z.cells.size := Array.length_toList
 omega
def kh (σ : St) (x : V) (size : Nat) (news : List (List D)) : Prop :=
 match x with
 | .one (.d (.sl s rows)) => s = size /\ news = rows
 | .one (.nil _) => news = []
 | .one (.sref t j lo len) => ∃ rows, σ.ob t j = .arr false size rows /\ lo + len <= rows.length /\ news = cut rows lo len
 | _ => False
def TM (σ : St) (x : V) (size : Nat) (pW : List (List D)) (σ1 : St) : Prop :=
 match x with
 | .one (.nil _) => pW = [] /\ σ1 = σ
 | .one (.sref t j lo len) => ∃ rows, σ.ob t j = .arr false size rows /\ lo = 0 /\ len <= rows.length /\ pW = rows.take len /\ σ1 = σ.YC t j .none
 | _ => False
theorem Ad (v : Value) (n : Nat) : blk (CU v n) = blk v := by
 cases v with
 | slice o _ _ => cases o <;> rfl
 | _ => rfl
theorem Fv (rows : List (List D)) (size : Nat) (hz : ∀ r ∈ rows, r.length = size) (len : Nat) (hle : len <= rows.length) : (rows.take len).flatten = rows.flatten.take (len * size) := by
 induction rows generalizing len with
 | nil => simp
 | cons r rows ih =>
  cases len with
  | zero => simp
  | succ len =>
   have h1 := hz r (by simp)
   have h2 := ih (fun q hq => hz q (by simp [hq])) len (by simpa using hle)
   have h3 : (len + 1) * size = r.length + len * size := by rw [Nat.add_mul, h1]; omega
   rw [List.take_succ_cons, List.flatten_cons, List.flatten_cons, h2, h3, List.take_length_add_append]
theorem Ec {e : TypeId} {size : Nat} {v : Value} {n len : Nat} {xs : List Value} (ho : w.ownsRow 0 e size v n xs) (hle : len <= n) : w.ownsRow 0 e size (CU v len) len (xs.take (len * size)) := by
 have hm : len * size <= n * size := Nat.mul_le_mul_right _ hle
 refine ⟨by rw [List.length_take, ho.1]; omega, ?_⟩
 rcases ho.2 with ⟨rfl, rfl⟩ | ⟨g, cap, cur, rfl, hx, hg, np, fM, ni, mT⟩
 ·have : len = 0 := by omega
  subst this
  exact .inl ⟨rfl, rfl⟩
 ·refine .inr ⟨g, cap, cur, rfl, hx, hg, by omega, fM, ni, ?_⟩
  rw [<- mT, List.take_take]
  congr 1
  omega
theorem Gw (r : Rel T0 B σ a w X h) {x : V} {v : Value} {size : Nat} {news : List (List D)} (hs : kh σ x size news) (hv : Qy (Tof T0 X) h σ.ob w x v) :
  (∀ n ∈ news, n.length = size) /\ ((v = .slice none 0 0 /\ news = []) \/ ∃ ad c xs, v = .slice (some ad) news.length c /\ (∀ j u, xs[j]? = some u -> w.cell? (ad.add j) = some u) /\ YB (Rd (Tof T0 X) w) xs news.flatten) := by
 unfold kh at hs
 split at hs
 ·rename_i s rows
  obtain ⟨rfl, rfl⟩ := hs
  refine ⟨Gk (show Rd _ _ _ _ from hv), ?_⟩
  cases (show Rd _ _ _ _ from hv) with
  | nil => exact .inl ⟨rfl, rfl⟩
  | sl ad len cap s rows g hl hc hm hz iW hg hr =>
   refine .inr ⟨ad, cap, (List.range news.flatten.length).map g, by rw [hl], fun j u hu => ?_, ?_⟩
   ·rw [List.getElem?_map] at hu
    rcases Nat.lt_or_ge j news.flatten.length with hj | hj
    ·rw [List.getElem?_range hj] at hu
     cases hu
     have pS : news.flatten ≠ [] := by intro he; rw [he] at hj; simp at hj
     have := (hg j _ (List.getElem?_eq_getElem hj)).1
     obtain ⟨b, off, sp⟩ := ad
     have := iW pS
     simp at this; subst this
     rw [jo]; assumption
    ·rw [List.getElem?_eq_none (by simpa using hj)] at hu; cases hu
   ·refine YB.xC (by simp) (fun k u d hu hd => ?_)
    rw [List.getElem?_map] at hu
    have hk := (List.getElem?_eq_some_iff.1 hd).1
    rw [List.getElem?_range hk] at hu
    cases hu
    exact hr k d hd
 ·subst hs
  exact ⟨(by intro n hn; cases hn), .inl ⟨hv, rfl⟩⟩
 ·rename_i t j lo len
  obtain ⟨rows, ho, hle, rfl⟩ := hs
  have h0 := r.obj t j
  rw [ho] at h0
  obtain ⟨e, xs, ⟨hl, pY⟩, hz, pV⟩ := h0
  refine ⟨fun x hx => hz x (List.mem_of_mem_drop (List.mem_of_mem_take hx)), ?_⟩
  have lz : YO (Tof T0 X) h σ.ob w (.sref t j lo len) v := hv
  obtain ⟨_, _, _, base, cap, rfl, nG, _, fk, hb⟩ := lz.2.1 _ size rows ho
  have oG : (cut rows lo len).length = len := Qj _ _ _ hle
  by_cases o5 : 0 < len
  ·obtain ⟨b, lb, hh, rfl⟩ := hb o5
   rcases pY with ⟨hn, _⟩ | ⟨g, g5, cur, lz, _, aS, np, nm, ni, mT⟩
   ·rw [hh] at hn; cases hn
   ·rw [hh] at lz; cases lz
    refine .inr ⟨_, cap, cut xs (lo * size) (len * size), by rw [oG], fun j u hu => ?_, ?_⟩
    ·have h1 := qg _ _ _ _ _ hu
     rw [jo]
     refine y0 aS _ _ ?_
     rw [<- mT, List.getElem?_take] at h1
     split at h1
     ·exact h1
     ·cases h1
    ·have gP : xs.length = rows.length * size := by rw [pV.length, Yi rows size hz]
     have hmul : lo * size + len * size <= rows.length * size := by rw [<- Nat.add_mul]; exact Nat.mul_le_mul_right _ hle
     refine YB.xC ?_ (fun k u d hu hd => ?_)
     ·rw [Qj _ _ _ (by omega), Yi (cut rows lo len) size (fun x hx => hz x (List.mem_of_mem_drop (List.mem_of_mem_take hx))), oG]
     ·have h1 := qg _ _ _ _ _ hu
      have h2 := jI rows size lo len hz k d hd
      obtain ⟨d', pd, hr⟩ := pV.get _ _ h1
      rw [h2] at pd; cases pd
      exact hr
  ·have : len = 0 := by omega
   subst this
   have mg : cut rows lo 0 = [] := by simp [cut]
   rw [mg]
   cases base with
   | none => have := fk rfl; subst this; exact .inl ⟨rfl, rfl⟩
   | some ad => exact .inr ⟨ad, cap, [], rfl, by simp, .nil⟩
 ·exact hs.elim
theorem F3 (r : Rel T0 B σ a w X h) {o : Oper} {t : TypeId} {x y : Operand} {d : Nat} {pW news : List (List D)} {σ1 : St} (pP : o.op = .call ⟨.builtin .append, #[x, y], #[t, t]⟩) (hd : o.dst = some d)
  (lu : gOf (look P σ t x) = true) (lv : gOf (look P σ t y) = true) (ht : XW P t = true) (hz : Qg P (ZT P t) = true) (o5 : 0 < P.cellsOf (ZT P t))
  (ny : TM σ (unc (look P σ t x)) (P.cellsOf (ZT P t)) pW σ1) (mo : kh σ (unc (look P σ t y)) (P.cellsOf (ZT P t)) news) (ot : σ1.fresh d = true)
  (nR : (pW.length + news.length) * P.bytesOf (ZT P t) <= 140737488355328) (eM : pW.length + news.length <= 9223372036854775807)
  {K : Act -> World -> Prop} {Q : Exit -> Act -> World -> Prop} (hK : ∀ a' w', KF T0 B (σ1.new d (.one (.sref d 0 0 (pW.length + news.length))) [.arr false (P.cellsOf (ZT P t)) (pW ++ news)]) a' w' -> XI B w w' -> K a' w') : o.wp P a w K Q := by
 obtain ⟨ti, hu, hi, mh⟩ := QJ ht
 obtain ⟨i, z, row, o9, la, mF, mq, iG, nn, mH⟩ := qp hz
 rw [hi] at o9; cases o9
 have eN : P.bytesOf (ZT P t) = ti.bytes := by simp [Program.bytesOf, hi]
 rw [eN] at nR
 rw [<- nn] at ny mo o5 hK
 have fA := r.arg (P := P) t x rfl lu
 have bH := r.arg (P := P) t y rfl lv
 obtain ⟨cM, oz⟩ := Gw r mo bH
 have nO : ∃ e0 xs, w.ownsRow 0 e0 ti.size (a.eval x) pW.length xs /\ (∀ q ∈ pW, q.length = ti.size) /\ YB (Rd (Tof T0 X) w) xs pW.flatten /\ Rel T0 B σ1 a w X h /\
   (∀ b, blk (a.eval x) = some b -> ¬ B b /\ ¬ X b /\ b < w.heap.size /\ ∀ u j, σ1.ob u j ≠ .none -> ¬ (h u j).u b) := by
  unfold TM at ny
  split at ny
  ·rename_i s heq
   obtain ⟨rfl, rfl⟩ := ny
   rw [heq] at fA
   have he : a.eval x = .slice none 0 0 := fA
   rw [he]
   exact ⟨0, [], World.ownsRow_nil w 0 0 _, (by intro q hq; cases hq), .nil, r, (fun b hb => by cases hb)⟩
  ·rename_i u j lo len heq
   obtain ⟨rows, ho, rfl, hle, rfl, rfl⟩ := ny
   rw [heq] at fA
   have eT : YO (Tof T0 X) h σ.ob w (.sref u j 0 len) (a.eval x) := fA
   obtain ⟨_, _, lI, _⟩ := eT.2.1 _ _ _ ho
   have he : a.eval x = CU (h u j).v len := lI rfl
   have h0 := r.obj u j
   rw [ho] at h0
   obtain ⟨e, xs, pY, g8, pV⟩ := h0
   have pr : σ.ob u j ≠ .none := by rw [ho]; simp
   have aI : (rows.take len).length = len := by rw [List.length_take]; omega
   have nJ : (rows.take len).flatten = rows.flatten.take (len * ti.size) := Fv rows ti.size g8 len hle
   refine ⟨e, xs.take (len * ti.size), by rw [he, aI]; exact Ec pY hle, fun q hq => g8 q (List.mem_of_mem_take hq), by rw [nJ]; exact pV.take _, r.drop u j, fun b hb => ?_⟩
   rw [he, Ad] at hb
   have hbu := r.ub u j b pr hb
   have nY := r.own u j b pr hbu
   refine ⟨nY.1, nY.2.1, nY.2.2, fun u' j' pS pj => ?_⟩
   have ak : σ.ob u' j' ≠ .none := by
    intro hh
    rw [St.JC σ u j _ u' j' pr] at pS
    split at pS
    ·exact pS rfl
    ·exact pS hh
   have := r.inj u j u' j' b pr ak hbu pj
   obtain ⟨rfl, rfl⟩ := this
   rw [St.JC σ u j _ u j pr] at pS
   simp at pS
  ·exact ny.elim
 obtain ⟨e0, xs, pY, ab, eO, r1, oX⟩ := nO
 have eU : ∀ q ∈ pW ++ news, q.length = ti.size := by
  intro q hq
  rcases List.mem_append.1 hq with hq | hq
  ·exact ab q hq
  ·exact cM q hq
 have key : ∀ (v' : Value) (w' : World) (e1 : TypeId) (ys : List Value), (Builtin.append_ #[t, t] o.type #[a.eval x, a.eval y]).run P w = .ok v' w' -> w'.ownsRow 0 e1 ti.size v' (pW.length + news.length) (xs ++ ys) ->
   YB (Rd (Tof T0 X) w) ys news.flatten -> w.grownBy w' (blk (a.eval x)) -> (∀ b, blk v' = some b -> (w.heap.size <= b /\ b < w'.heap.size) \/ blk (a.eval x) = some b) -> o.wp P a w K Q := by
  intro v' w' e1 ys pq pv gX mB fP
  have pa := St.yh ot
  have hT : ∀ b k v, Tof T0 X b k -> w.cell? ⟨b, k, none⟩ = some v -> w'.cell? ⟨b, k, none⟩ = some v /\ Tof T0 X b k := by
   intro b k v hb pb
   refine ⟨?_, hb⟩
   have pS : some b ≠ blk (a.eval x) := by
    intro e
    have h1 := oX b e.symm
    rcases hb with hb | hb
    ·exact h1.1 (r.hT b k hb)
    ·exact h1.2.1 hb
   rw [World.cell?_of_block (mB.block b (r.Tlt hb) pS)]; exact pb
  unfold Oper.wp
  have gZ : (execOp a.eval o).run P w = .ok (.value v') w' := by
   simp only [execOp, pP, resolve, invoke, builtin, Sem.run_bind, Sem.run_pure, Result.andThen_ok, List.map_toArray, List.map_cons, List.map_nil, pq]
  rw [gZ, Oper.upon_value, hd]
  refine hK _ _ ⟨X, fun u j => if u = d then Hd.of v' else h u j, ?_⟩ ⟨mB.os, mB.tape, mB.output, mB.size, fun k hk => mB.block k (r.hB k hk) (fun e => (oX k e.symm).1 hk)⟩
  have nB : (σ1.new d (.one (.sref d 0 0 (pW.length + news.length))) [.arr false ti.size (pW ++ news)]).ob d 0 = .arr false ti.size (pW ++ news) := by rw [St.Jx]; simp [pa, Yo]
  have mW : w'.ownsRow 0 e1 ti.size v' (pW ++ news).length (xs ++ ys) := by rw [List.length_append]; exact pv
  have lj : YB (Rd (Tof T0 X) w') (xs ++ ys) (pW ++ news).flatten := by
   rw [List.flatten_append]
   exact (eO.imp fun _ _ => Rd.mono hT).append (gX.imp fun _ _ => Rd.mono hT)
  refine r1.vr ot (fun b => blk (a.eval x) = some b) mB.size (fun k hk pS => mB.block k hk (fun e => pS e.symm)) (fun b hb => ⟨(oX b hb).1, (oX b hb).2.1, fun u j _ pS => (oX b hb).2.2.2 u j pS⟩) (fun _ hb => hb) (fun _ hb => .inl hb) _ _ [.arr false ti.size (pW ++ news)] (fun _ => Hd.of v') ?_ (fun j => ?_) (fun j b _ hb => hb) (fun j b pS pj => ?_) (fun j j' b pS oU _ _ => ?_)
  ·refine ⟨yZ pv, fun q' oA ph hh => ?_, fun oA ph hh => by rw [nB] at hh; cases hh⟩
   rw [nB] at hh; cases hh
   simp only [if_true, List.length_append]
   have := Rg mW
   rwa [List.length_append] at this
  ·cases j with
   | zero => exact ⟨e1, xs ++ ys, mW, eU, lj⟩
   | succ j => simp [Yo, J3]
  ·rcases fP b pj with h1 | h1
   ·exact ⟨.inl h1.1, fun hx => by have := (r.hX b hx).2; omega, h1.2⟩
   ·have h2 := oX b h1
    exact ⟨.inr h1, h2.2.1, by have := mB.size; omega⟩
  ·have : ∀ j, Yo [Ob.arr false ti.size (pW ++ news)] j ≠ .none -> j = 0 := by
    intro j hj
    cases j with
    | zero => rfl
    | succ j => simp [Yo] at hj
   rw [this j pS, this j' oU]
 rcases oz with ⟨cS, rfl⟩ | ⟨ad, c, ys, cS, pb, gX⟩
 ·have oI : ∃ base cap, a.eval x = .slice base pW.length cap /\ pW.length <= cap /\ (base = none -> cap = 0) := by
   rcases pY.2 with ⟨h1, h2⟩ | ⟨g, cap, cur, h1, _, _, np, _⟩
   ·exact ⟨none, 0, by rw [h1, h2], by omega, fun _ => rfl⟩
   ·exact ⟨_, cap, h1, np, (fun hh => by cases hh)⟩
  obtain ⟨base, cap, hex, np, cE⟩ := oI
  refine key (a.eval x) w e0 [] ?_ (by simpa using pY) .nil ⟨rfl, rfl, rfl, Nat.le_refl _, fun _ _ _ => rfl⟩ (fun b hb => .inr hb)
  rw [hex, cS]
  exact Vj t o.type _ ti hu hi base pW.length cap np cE
 ·have nq : ys.length = news.length * ti.size := by rw [gX.length, Yi news ti.size cM]
  obtain ⟨v', w', e1, pq, pv, mB, fP⟩ := Sr (P := P) (w := w) t o.type _ e0 ti z hu hi la iG (by omega) (a.eval x) pW.length xs pY ad news.length c ys nq pb
   (fun u nX => by
    obtain ⟨k, hk⟩ := List.mem_iff_getElem?.1 nX
    obtain ⟨d', _, oq⟩ := gX.get k u hk
    exact Rd.QN oq) (by simp only [maxLen]; omega) nR
  refine key v' w' e1 ys ?_ pv gX mB fP
  rw [cS]; exact pq
end
end Go.Vm
namespace Go.Vm
open Go.RowKit
section
variable {P : Program} {T0 : CS} {B : Nat -> Prop} {σ : St} {a : Act} {w w' : World} {X X' : Nat -> Prop} {h : Nat -> Nat -> Hd}
def O4 (P : Program) (σ : St) (T : TypeId) (size : Nat) : List (Nat × Operand) -> Nat -> List (List D) -> Prop
 | [], _, rs => rs = []
 | (i, x) :: ps, k, rs => i = k /\ gOf (look P σ T x) = true /\ (unc (look P σ T x)).flat = true /\ Kx (unc (look P σ T x)).cells = true /\
   ∃ r rest, rowOf σ (unc (look P σ T x)).cells = some r /\ r.length = size /\ O4 P σ T size ps (k + 1) rest /\ rs = r :: rest
theorem Md {α : Type} (l : List α) (o : Nat) (xs ys : List α) (hl : o + (xs ++ ys).length <= l.length) : place (place l o xs) (o + xs.length) ys = place l o (xs ++ ys) := by
 simp only [List.length_append] at hl
 unfold place
 have h1 : (l.take o ++ xs).length = o + xs.length := by simp; omega
 have h2 : (l.take o ++ xs ++ l.drop (o + xs.length)).take (o + xs.length) = l.take o ++ xs := by
  rw [List.take_append_of_le_length (by omega), List.take_of_length_le (by omega)]
 have h3 : (l.take o ++ xs ++ l.drop (o + xs.length)).drop (o + xs.length + ys.length) = l.drop (o + (xs ++ ys).length) := by
  rw [show o + xs.length + ys.length = (l.take o ++ xs).length + ys.length by omega, List.drop_length_add_append, List.drop_drop]
  congr 1; simp; omega
 rw [h2, h3]; simp
theorem Nn (r : Rel T0 B σ a w X h) (T : TypeId) (size : Nat) : ∀ (ps : List (Nat × Operand)) (k : Nat) (rs : List (List D)) (cells : Array Value), O4 P σ T size ps k rs -> (k + ps.length) * size <= cells.size ->
   ∃ pZ ys, Instr.fill (fun i => some (i * size, size)) cells (ps.map fun x => (x.1, a.eval x.2)) = some pZ /\ pZ.toList = place cells.toList (k * size) ys /\ YB (Rd (Tof T0 X) w) ys rs.flatten /\ (∀ q ∈ rs, q.length = size) /\ rs.length = ps.length
 | [], k, rs, cells, hb, _ => by cases hb; exact ⟨cells, [], rfl, by simp [place], .nil, (by intro q hq; cases hq), rfl⟩
 | (i, x) :: ps, k, rs, cells, hb, hl => by
  obtain ⟨rfl, hg, hf, pt, r0, rest, mb, hlen, hb, rfl⟩ := hb
  have hx := kq hf (r.arg (P := P) T x rfl hg)
  have fQ := r.rowOf true mb hx (fun _ => pt)
  simp only [if_true] at fQ
  have gU := fQ.length
  have e1 : cells.toList.length = cells.size := Array.length_toList
  have e2 : (a.eval x).cells.toList.length = (a.eval x).cells.size := Array.length_toList
  have hmul : (i + (ps.length + 1)) * size = i * size + size + ps.length * size := by rw [Nat.add_mul, Nat.add_mul]; omega
  simp only [List.length_cons] at hl
  have heq := TJ (i * size) (a.eval x).cells cells (by omega)
  have mq : ((a.eval x).cells.zipIdx.foldl (fun cs x => cs.setIfInBounds (i * size + x.2) x.1) cells).size = cells.size := by
   rw [<- Array.length_toList, heq, Xs _ _ _ (by omega), e1]
  have cV : (i + 1 + ps.length) * size = i * size + size + ps.length * size := by rw [Nat.add_mul, Nat.add_mul]; omega
  obtain ⟨pZ, ys, h1, h2, h3, h4, h5⟩ := Nn r T size ps (i + 1) rest _ hb (by rw [mq]; omega)
  have nq : ys.length = ps.length * size := by rw [h3.length, Yi rest size h4, h5]
  refine ⟨pZ, (a.eval x).cells.toList ++ ys, ?_, ?_, ?_, ?_, by simp [h5]⟩
  ·simp only [List.map_cons, Instr.fill]
   rw [if_neg (by simp; omega)]
   exact h1
  ·rw [h2, heq]
   rw [show (i + 1) * size = i * size + (a.eval x).cells.toList.length by rw [Nat.add_mul]; omega]
   exact Md _ _ _ _ (by simp; omega)
  ·rw [List.flatten_cons]; exact fQ.append h3
  ·intro q hq
   rcases List.mem_cons.1 hq with rfl | hq
   ·exact hlen
   ·exact h4 q hq
theorem Nm (r : Rel T0 B σ a w X h) {o : Oper} {T : TypeId} {n : Nat} {parts : Array (Nat × Operand)} {d : Nat} {rows : List (List D)} (pP : o.op = .buildSlice T n parts) (hd : o.dst = some d) (ot : σ.fresh d = true)
  (ht : XW P T = true) (hz : Qg P (ZT P T) = true) (o5 : 0 < P.cellsOf (ZT P T)) (hn : parts.toList.length = n) (hsm : n * P.cellsOf (ZT P T) <= 16777216) (hb : O4 P σ (ZT P T) (P.cellsOf (ZT P T)) parts.toList 0 rows)
  {K : Act -> World -> Prop} {Q : Exit -> Act -> World -> Prop} (hK : ∀ a' w', KF T0 B (σ.new d (.one (.sref d 0 0 rows.length)) [.arr false (P.cellsOf (ZT P T)) rows]) a' w' -> XI B w w' -> K a' w') : o.wp P a w K Q := by
 obtain ⟨ti, hu, hi, mh⟩ := QJ ht
 obtain ⟨i, z, row, o9, la, mF, mq, iG, nn, mH⟩ := qp hz
 rw [hi] at o9; cases o9
 have n9 : (zeroValue (ZT P T)).run P w = .ok z w := by simp [zeroValue, typeInfo, hi, la]
 obtain ⟨zero, hzero⟩ : ∃ zero : Array Value, (n * P.cellsOf (ZT P T) = 0 -> zero = #[]) /\ (¬ n * P.cellsOf (ZT P T) = 0 -> zero = z.cells) := by
  by_cases h0 : n * P.cellsOf (ZT P T) = 0
  ·exact ⟨#[], fun _ => rfl, fun hh => absurd h0 hh⟩
  ·exact ⟨z.cells, fun hh => absurd hh h0, fun _ => rfl⟩
 obtain ⟨pZ, ys, h1, h2, h3, h4, h5⟩ := Nn r (ZT P T) (P.cellsOf (ZT P T)) parts.toList 0 rows ((Array.range (n * P.cellsOf (ZT P T))).map (zero[· % zero.size]!)) hb (by simp [hn])
 have nq : ys.length = n * P.cellsOf (ZT P T) := by rw [h3.length, Yi rows _ h4, h5, hn]
 have oG : pZ.toList = ys := by
  rw [h2]
  unfold place
  simp [nq]
 have mU : (parts.map fun (x : Nat × Operand) => (x.1, a.eval x.2)).toList = parts.toList.map fun x => (x.1, a.eval x.2) := by simp
 have pq : (execOp a.eval o).run P w = .ok (.value (.slice (some ⟨w.heap.size, 0, none⟩) n n)) (w.alloc (.cells pZ (ZT P T))) := by
  have mf : ¬ (n * P.cellsOf (ZT P T) > 2 ^ 24) := by omega
  by_cases h0 : n * P.cellsOf (ZT P T) = 0
  ·have l5 := hzero.1 h0
   subst l5
   simp only [execOp, pP, Instr.buildSlice, Sem.run_bind, run_underlying hu, Result.andThen_ok, Jw hi, if_neg mf, if_pos h0, mU, h1, newRow, Sem.run_pure, run_newObj_alloc]
  ·have l5 := hzero.2 h0
   subst l5
   simp only [execOp, pP, Instr.buildSlice, Sem.run_bind, run_underlying hu, Result.andThen_ok, Jw hi, if_neg mf, if_neg h0, n9, mU, h1, newRow, Sem.run_pure, run_newObj_alloc]
 unfold Oper.wp
 rw [pq, Oper.upon_value, hd]
 have hlen : rows.length = n := by rw [h5, hn]
 have hT : ∀ b k v, Tof T0 X b k -> w.cell? ⟨b, k, none⟩ = some v -> (w.alloc (.cells pZ (ZT P T))).cell? ⟨b, k, none⟩ = some v /\ Tof T0 X b k := by
  intro b k v hb pb
  refine ⟨?_, hb⟩
  rw [World.cell?_of_block ((World.grownBy_alloc w (.cells pZ (ZT P T)) none).block b (r.Tlt hb) (by simp))]; exact pb
 have ga : pZ.size = n * P.cellsOf (ZT P T) := by rw [<- Array.length_toList, oG, nq]
 have nm : n <= maxLen := by
  have : n <= n * P.cellsOf (ZT P T) := Nat.le_mul_of_pos_right _ o5
  simp only [maxLen]; omega
 have := r.wN ot (World.grownBy_alloc w (.cells pZ (ZT P T)) none) (.slice (some ⟨w.heap.size, 0, none⟩) n n) (size := P.cellsOf (ZT P T)) (rows := rows)
  ⟨ZT P T, ys, ⟨by rw [nq, hlen], .inr ⟨w.heap.size, n, pZ, by rw [hlen], Nat.zero_le _, heap_alloc_new w _, by omega, nm, ga, by rw [oG, hlen, List.take_of_length_le (by omega)]⟩⟩, h4, h3.imp fun _ _ => Rd.mono hT⟩
  (fun b hb => by simp [blk] at hb; subst hb; exact ⟨Nat.le_refl _, by simp⟩)
 exact hK _ _ this.1 this.2
theorem Eb (r : Rel T0 B σ a w X h) {o : Oper} {T : TypeId} {n : Nat} {parts : Array (Nat × Operand)} {d : Nat} {rows : List (List D)} (pP : o.op = .buildSlice T n parts) (hd : o.dst = some d)
  (ht : XW P T = true) (hz : Qg P (ZT P T) = true) (o5 : 0 < P.cellsOf (ZT P T)) (hn : parts.toList.length = n) (hsm : n * P.cellsOf (ZT P T) <= 16777216) (hb : O4 P σ (ZT P T) (P.cellsOf (ZT P T)) parts.toList 0 rows)
  {K : Act -> World -> Prop} {Q : Exit -> Act -> World -> Prop} (hK : ∀ a' w', KF T0 B (σ.put d (.one (.d (.sl (P.cellsOf (ZT P T)) rows)))) a' w' -> XI B w w' -> K a' w') : o.wp P a w K Q := by
 obtain ⟨ti, hu, hi, mh⟩ := QJ ht
 obtain ⟨i, z, row, o9, la, mF, mq, iG, nn, mH⟩ := qp hz
 rw [hi] at o9; cases o9
 have n9 : (zeroValue (ZT P T)).run P w = .ok z w := by simp [zeroValue, typeInfo, hi, la]
 obtain ⟨zero, hzero⟩ : ∃ zero : Array Value, (n * P.cellsOf (ZT P T) = 0 -> zero = #[]) /\ (¬ n * P.cellsOf (ZT P T) = 0 -> zero = z.cells) := by
  by_cases h0 : n * P.cellsOf (ZT P T) = 0
  ·exact ⟨#[], fun _ => rfl, fun hh => absurd h0 hh⟩
  ·exact ⟨z.cells, fun hh => absurd hh h0, fun _ => rfl⟩
 obtain ⟨pZ, ys, h1, h2, h3, h4, h5⟩ := Nn r (ZT P T) (P.cellsOf (ZT P T)) parts.toList 0 rows ((Array.range (n * P.cellsOf (ZT P T))).map (zero[· % zero.size]!)) hb (by simp [hn])
 have nq : ys.length = n * P.cellsOf (ZT P T) := by rw [h3.length, Yi rows _ h4, h5, hn]
 have oG : pZ.toList = ys := by
  rw [h2]
  unfold place
  simp [nq]
 have mU : (parts.map fun (x : Nat × Operand) => (x.1, a.eval x.2)).toList = parts.toList.map fun x => (x.1, a.eval x.2) := by simp
 have pq : (execOp a.eval o).run P w = .ok (.value (.slice (some ⟨w.heap.size, 0, none⟩) n n)) (w.alloc (.cells pZ (ZT P T))) := by
  have mf : ¬ (n * P.cellsOf (ZT P T) > 2 ^ 24) := by omega
  by_cases h0 : n * P.cellsOf (ZT P T) = 0
  ·have l5 := hzero.1 h0
   subst l5
   simp only [execOp, pP, Instr.buildSlice, Sem.run_bind, run_underlying hu, Result.andThen_ok, Jw hi, if_neg mf, if_pos h0, mU, h1, newRow, Sem.run_pure, run_newObj_alloc]
  ·have l5 := hzero.2 h0
   subst l5
   simp only [execOp, pP, Instr.buildSlice, Sem.run_bind, run_underlying hu, Result.andThen_ok, Jw hi, if_neg mf, if_neg h0, n9, mU, h1, newRow, Sem.run_pure, run_newObj_alloc]
 unfold Oper.wp
 rw [pq, Oper.upon_value, hd]
 have hlen : rows.length = n := by rw [h5, hn]
 have hJ := World.grownBy_alloc w (.cells pZ (ZT P T)) none
 have r2 := r.grow (X' := fun b => X b \/ b = w.heap.size) hJ (fun b hb => .inl hb) (fun b hb => hb.imp id (fun hh => by subst hh; exact ⟨Nat.le_refl _, by simp⟩))
 have hT : ∀ b k v, Tof T0 X b k -> w.cell? ⟨b, k, none⟩ = some v -> (w.alloc (.cells pZ (ZT P T))).cell? ⟨b, k, none⟩ = some v /\ Tof T0 (fun b => X b \/ b = w.heap.size) b k := by
  intro b k v hb pb
  refine ⟨?_, hb.imp id .inl⟩
  rw [World.cell?_of_block (hJ.block b (r.Tlt hb) (by simp))]; exact pb
 have ga : pZ.size = n * P.cellsOf (ZT P T) := by rw [<- Array.length_toList, oG, nq]
 have nm : n <= maxLen := by
  have : n <= n * P.cellsOf (ZT P T) := Nat.le_mul_of_pos_right _ o5
  simp only [maxLen]; omega
 refine hK _ _ ⟨_, _, r2.put d _ _ ?_⟩ (XI.U5 hJ r.hB)
 exact By (e := ZT P T) (xs := ys) ⟨by rw [nq, hlen], .inr ⟨w.heap.size, n, pZ, by rw [hlen], Nat.zero_le _, heap_alloc_new w _, by omega, nm, ga, by rw [oG, hlen, List.take_of_length_le (by omega)]⟩⟩ h4 (fun b k hb => by simp [blk] at hb; subst hb; exact .inr (.inr rfl)) (h3.imp fun _ _ => Rd.mono hT)
def zD : List At -> Option (List D)
 | [] => some []
 | .d x :: xs => (zD xs).map (x :: ·)
 | .nil s :: xs => (zD xs).map (.sl s [] :: ·)
 | _ => none
theorem Et {T : CS} {ob : Nat -> Nat -> Ob} : ∀ {xs : List At} {ds : List D} {vs : List Value}, zD xs = some ds -> YB (YO T h ob w) xs vs -> YB (Rd T w) vs ds
 | [], ds, vs, hz, pV => by cases pV; simp [zD] at hz; subst hz; exact .nil
 | x :: xs, ds, vs, hz, pV => by
  cases pV with
  | cons hx pV =>
   cases x with
   | d x =>
    simp only [zD, Option.map_eq_some_iff] at hz
    obtain ⟨iZ, mG, rfl⟩ := hz
    exact .cons hx (Et mG pV)
   | nil s =>
    simp only [zD, Option.map_eq_some_iff] at hz
    obtain ⟨iZ, mG, rfl⟩ := hz
    cases hx
    exact .cons (.nil _) (Et mG pV)
   | any => simp [zD] at hz
   | sref => simp [zD] at hz
   | ptr => simp [zD] at hz
   | bptr => simp [zD] at hz
   | fn => simp [zD] at hz
   | rptr => simp [zD] at hz
   | tref => simp [zD] at hz
theorem kB {α : Type} (z : List α) (n k : Nat) (hk : k < n * z.length) : (List.replicate n z).flatten[k]? = z[k % z.length]? := by
 induction n generalizing k with
 | zero => simp at hk
 | succ n ih =>
  rw [List.replicate_succ, List.flatten_cons]
  rcases Nat.lt_or_ge k z.length with pa | mY
  ·rw [List.getElem?_append_left pa, Nat.mod_eq_of_lt pa]
  ·rw [List.getElem?_append_right mY, ih (k - z.length) (by rw [Nat.add_mul] at hk; omega)]
   congr 1
   rw [Nat.mod_eq_sub_mod mY]
theorem LX (r : Rel T0 B σ a w X h) {o : Oper} {T : TypeId} {x : Operand} {d : Nat} {k : IntKind} {n : Nat} {z : List At} {zr : List D} (pP : o.op = .makeSlice T x x) (hd : o.dst = some d) (ot : σ.fresh d = true)
  (ht : XW P T = true) (hz : Qg P (ZT P T) = true) (mF : ko P 12 (ZT P T) = some z) (bF : zD z = some zr) (o5 : 0 < P.cellsOf (ZT P T)) (hx : VE P σ x k (n : Int)) (eN : P.bytesOf (ZT P T) * n <= 281474976710656) (eM : n <= 9223372036854775807)
  {K : Act -> World -> Prop} {Q : Exit -> Act -> World -> Prop} (hK : ∀ a' w', KF T0 B (σ.new d (.one (.sref d 0 0 n)) [.arr false (P.cellsOf (ZT P T)) (List.replicate n zr)]) a' w' -> XI B w w' -> K a' w') : o.wp P a w K Q := by
 obtain ⟨ti, hu, hi, mh⟩ := QJ ht
 obtain ⟨i, zv, row, o9, la, gY, mq, iG, nn, mH⟩ := qp hz
 rw [hi] at o9; cases o9
 rw [mF] at gY; cases gY
 have hex := xi r hx
 have eV : (ti.bytes : Int) * (n : Int) <= 281474976710656 := by
  have : P.bytesOf (ZT P T) = ti.bytes := by simp [Program.bytesOf, hi]
  rw [this] at eN
  have h : ((ti.bytes * n : Nat) : Int) <= 281474976710656 := by omega
  rwa [Int.natCast_mul] at h
 have pq := run_make (P := P) w T (ZT P T) ti zv hu hi la k k n n (by omega) (Int.le_refl _) eV (by omega)
 simp only [Int.toNat_natCast] at pq
 unfold Oper.wp
 simp only [execOp, pP, hex, Sem.run_bind, pq, Result.andThen_ok, Sem.run_pure, Oper.upon_value, hd]
 have fB := Et bF (mH (Tof T0 X) h σ.ob w)
 have hzl := fB.length
 have e1 : zv.cells.toList.length = zv.cells.size := Array.length_toList
 have iH : zr.length = ti.size := by omega
 have hT : ∀ b k v, Tof T0 X b k -> w.cell? ⟨b, k, none⟩ = some v -> (w.alloc (.cells (madeCells zv.cells (n * ti.size)) (ZT P T))).cell? ⟨b, k, none⟩ = some v /\ Tof T0 X b k := by
  intro b k v hb pb
  refine ⟨?_, hb⟩
  rw [World.cell?_of_block ((World.grownBy_alloc w (.cells (madeCells zv.cells (n * ti.size)) (ZT P T)) none).block b (r.Tlt hb) (by simp))]; exact pb
 have mX : (madeCells zv.cells (n * ti.size)).toList.length = n * ti.size := by rw [Array.length_toList, size_madeCells]
 have gb : ∀ q u, (madeCells zv.cells (n * ti.size)).toList[q]? = some u -> zv.cells.toList[q % ti.size]? = some u := by
  intro q u hq
  have pa : q < n * ti.size := by have := (List.getElem?_eq_some_iff.1 hq).1; omega
  have eW : q % ti.size < zv.cells.size := by rw [iG]; exact Nat.mod_lt _ (by omega)
  have : (madeCells zv.cells (n * ti.size)).toList[q]? = some (zv.cells[q % zv.cells.size]!) := by
   simp [madeCells, pa]
  rw [this] at hq
  cases hq
  rw [iG]
  simp [eW]
 have lj : YB (Rd (Tof T0 X) w) (madeCells zv.cells (n * ti.size)).toList (List.replicate n zr).flatten := by
  refine YB.xC (by rw [mX, Yi _ ti.size (by intro q hq; rw [List.eq_of_mem_replicate hq]; exact iH)]; simp) (fun q u dd hq nr => ?_)
  have pa : q < n * ti.size := by have := (List.getElem?_eq_some_iff.1 hq).1; omega
  rw [kB zr n q (by rw [iH]; exact pa), iH] at nr
  obtain ⟨d', pd, oq⟩ := fB.get _ _ (gb q u hq)
  rw [nr] at pd; cases pd
  exact oq
 have := r.wN ot (World.grownBy_alloc w (.cells (madeCells zv.cells (n * ti.size)) (ZT P T)) none) (.slice (some ⟨w.heap.size, 0, none⟩) n n) (size := P.cellsOf (ZT P T)) (rows := List.replicate n zr)
  ⟨ZT P T, (madeCells zv.cells (n * ti.size)).toList, ⟨by rw [mX, nn]; simp, .inr ⟨w.heap.size, n, _, by simp, Nat.zero_le _, heap_alloc_new w _, by simp, by simp only [maxLen]; omega, by rw [size_madeCells, nn], by rw [List.take_of_length_le (by rw [mX, nn]; simp)]⟩⟩,
   (by intro q hq; rw [List.eq_of_mem_replicate hq]; omega), lj.imp fun _ _ => Rd.mono hT⟩
  (fun b hb => by simp [blk] at hb; subst hb; exact ⟨Nat.le_refl _, by simp⟩)
 rw [List.length_replicate] at this
 exact hK _ _ this.1 this.2
end
end Go.Vm
namespace Go.Vm
open Go.RowKit
def zK (l : List UInt8) : List (List D) := l.map fun b => [D.int .u8 (b.toNat : Int)]
def OM (P : Program) (t : TypeId) : Bool := match P.underlying t with
 | some (.slice e) => (match P.underlying e with | some (.int .u8) => true | _ => false)
 | _ => false
theorem Ma {P : Program} {t : TypeId} (ht : OM P t = true) : ∃ e, P.underlying t = some (.slice e) /\ P.underlying e = some (.int .u8) := by
 unfold OM at ht
 split at ht
 ·rename_i e he
  split at ht
  ·rename_i h2; exact ⟨e, he, h2⟩
  ·cases ht
 ·cases ht
theorem Ur (l : List UInt8) : (zK l).flatten = l.map fun b => D.int .u8 (b.toNat : Int) := by
 induction l with
 | nil => rfl
 | cons b l ih => simp only [zK, List.map_cons, List.flatten_cons] at ih ⊢; rw [ih]; rfl
section
variable {P : Program} {T0 : CS} {B : Nat -> Prop} {σ : St} {a : Act} {w w' : World} {X X' : Nat -> Prop} {h : Nat -> Nat -> Hd}
theorem Rn (r : Rel T0 B σ a w X h) {o : Oper} {S T : TypeId} {x : Operand} {l : List UInt8} (pP : o.op = .convert S T x) (hg : gOf (look P σ S x) = true) (hS : OM P S = true) (hT : TH P T = true)
  (mo : kh σ (unc (look P σ S x)) 1 (zK l)) : ∃ val, (execOp a.eval o).run P w = .ok (.value val) w /\ Qy (Tof T0 X) h σ.ob w (.one (.d (.str ⟨l.toArray⟩))) val := by
 obtain ⟨e, hs, he⟩ := Ma hS
 have hv := r.arg (P := P) S x rfl hg
 obtain ⟨_, oz⟩ := Gw r mo hv
 refine ⟨.string ⟨l.toArray⟩, ?_, .str _⟩
 rcases oz with ⟨hex, mg⟩ | ⟨ad, c, xs, hex, pb, pV⟩
 ·have hl : l = [] := by cases l with
   | nil => rfl
   | cons b l => simp [zK] at mg
  subst hl
  have hr : (convert S T (.slice none 0 0)).run P w = .ok (.string ⟨#[]⟩) w := by
   rw [run_convert_bytes_string w S T e none 0 0 hs he (qu hT)]
   rfl
  simp only [execOp, pP, hex, Sem.run_bind, hr, Result.andThen_ok, Sem.run_pure, List.toArray]
 ·have hlen : (zK l).length = l.length := by simp [zK]
  rw [hlen] at hex
  have hr := run_convert_bytes_back (P := P) w S T e ad c l hs he (qu hT) (fun j hj => by
   rw [Ur] at pV
   obtain ⟨u, hu, hr⟩ := pV.get' j (D.int .u8 (l[j].toNat : Int)) (by simp [hj])
   have := TY hr
   subst this
   exact pb j _ hu)
  simp only [execOp, pP, hex, Sem.run_bind, hr, Result.andThen_ok, Sem.run_pure]
theorem Rv (r : Rel T0 B σ a w X h) {o : Oper} {S T : TypeId} {x : Operand} {d : Nat} {s : ByteArray} (pP : o.op = .convert S T x) (hd : o.dst = some d) (hg : gOf (look P σ S x) = true) (hS : TH P S = true) (hT : OM P T = true)
  (hx : unc (look P σ S x) = .one (.d (.str s))) (oy : s.size <= 9223372036854775807)
  {K : Act -> World -> Prop} {Q : Exit -> Act -> World -> Prop} (hK : ∀ a' w', KF T0 B (σ.put d (.one (.d (.sl 1 (zK s.data.toList))))) a' w' -> XI B w w' -> K a' w') : o.wp P a w K Q := by
 obtain ⟨e, nr, he⟩ := Ma hT
 have hex := RK (r.arg (P := P) S x hx hg)
 have pq := run_bytes_of_string (P := P) w S T e s (qu hS) nr he
 unfold Oper.wp
 simp only [execOp, pP, hex, Sem.run_bind, pq, Result.andThen_ok, Sem.run_pure, Oper.upon_value, hd]
 generalize nG : grownCap w s.size 0 e = cap at *
 have mY : s.size <= cap := by rw [<- nG]; exact grownCap_ge w s.size 0 e
 have nm : cap <= maxLen := by rw [<- nG]; exact grownCap_le_maxLen w s.size 0 e (by simp only [maxLen]; omega)
 generalize hw' : w.drew.alloc (.cells (bytesRow s cap) e ((bytesRow s cap).size, (bytesRow s cap).size + 1)) = w'
 have hJ : w.grownBy w' none := by
  rw [<- hw']
  exact ⟨rfl, rfl, rfl, by simp, fun k hk _ => (World.grownBy_alloc w.drew _ none).block k hk (by simp)⟩
 have ld : w'.heap[w.heap.size]? = some (.cells (bytesRow s cap) e ((bytesRow s cap).size, (bytesRow s cap).size + 1)) := by rw [<- hw']; exact heap_alloc_new w.drew _
 have cW : w.heap.size < w'.heap.size := (Array.getElem?_eq_some_iff.1 ld).1
 have r2 := r.grow (X' := fun b => X b \/ b = w.heap.size) hJ (fun b hb => .inl hb) (fun b hb => hb.imp id (fun hh => by subst hh; exact ⟨Nat.le_refl _, cW⟩))
 refine hK _ _ ⟨_, _, r2.put d _ _ ?_⟩ (XI.U5 hJ r.hB)
 have nJ := Ur s.data.toList
 refine Rd.sl ⟨w.heap.size, 0, none⟩ s.size cap 1 _ (fun k => .int .u8 ((s.data.toList.getD k 0).toNat : Int)) (by simp [zK]) mY nm (by intro q hq; simp [zK] at hq; obtain ⟨b, _, rfl⟩ := hq; rfl) (fun _ => rfl) (fun k dd hk => ?_) (fun k dd hk => ?_)
 ·rw [nJ, List.getElem?_map] at hk
  cases hb : s.data.toList[k]? with
  | none => rw [hb] at hk; cases hk
  | some b =>
   refine ⟨?_, .inr (.inr rfl)⟩
   simp only [Nat.zero_add]
   refine y0 ld _ _ ?_
   have al : k < s.data.size := by have := (List.getElem?_eq_some_iff.1 hb).1; simpa using this
   simp only [bytesRow]
   rw [Array.toList_append, List.getElem?_append_left (by simpa using al)]
   simp [hb]
 ·rw [nJ, List.getElem?_map] at hk
  cases hb : s.data.toList[k]? with
  | none => rw [hb] at hk; cases hk
  | some b =>
   rw [hb] at hk; cases hk
   rw [List.getD_eq_getElem?_getD, hb]
   exact .int _ _
end
end Go.Vm
namespace Go.Vm
open Go.RowKit
def Yv : List At -> List (Nat × Nat)
 | [] => []
 | .sref t j _ _ :: xs => (t, j) :: Yv xs
 | _ :: xs => Yv xs
def mvD (σ : St) : At -> Option D
 | .d (.sl _ _) => none
 | .d x => some x
 | .nil s => some (.sl s [])
 | .sref t j lo len => (match σ.ob t j with | .arr _ size rows => if lo = 0 /\ len = rows.length then some (.sl size rows) else none | _ => none)
 | _ => none
def Gi (σ : St) : At -> Prop
 | .sref t j _ _ => (match σ.ob t j with | .arr false _ rows => ∀ r ∈ rows, ∀ x ∈ r, x.scalar = true | _ => True)
 | _ => True
def Jd (σ : St) : List At -> Option (List D)
 | [] => some []
 | x :: xs => (match mvD σ x, Jd σ xs with | some d, some ds => some (d :: ds) | _, _ => none)
def QI (σ : St) : List At -> Prop
 | [] => True
 | x :: xs => Gi σ x /\ QI σ xs
def KR (σ : St) : List (List At) -> Option (List (List D))
 | [] => some []
 | xs :: rest => (match Jd σ xs, KR σ rest with | some r, some rs => some (r :: rs) | _, _ => none)
def Jv (σ : St) : List (List At) -> Prop
 | [] => True
 | x :: xs => QI σ x /\ Jv σ xs
theorem Mb : ∀ (xs : List At) (i j : Nat) (t u lo len gn mi : Nat), (Yv xs).Nodup -> xs[i]? = some (.sref t u lo len) -> xs[j]? = some (.sref t u gn mi) -> i = j := by
 intro xs
 induction xs with
 | nil => intro i j t u lo len gn mi _ hi; simp at hi
 | cons x xs ih =>
  intro i j t u lo len gn mi oW hi hj
  have mem : ∀ (k lo len : Nat), xs[k]? = some (At.sref t u lo len) -> (t, u) ∈ Yv xs := by
   intro k lo len hk
   clear ih oW hi hj
   induction xs generalizing k with
   | nil => simp at hk
   | cons y ys gr =>
    cases k with
    | zero => simp at hk; subst hk; simp [Yv]
    | succ k =>
     have := gr k (by simpa using hk)
     cases y <;> simp [Yv, this]
  have nd' : (Yv xs).Nodup := by
   cases x <;> simp only [Yv] at oW <;> first | exact oW | exact (List.nodup_cons.1 oW).2
  cases i with
  | zero =>
   simp at hi; subst hi
   cases j with
   | zero => rfl
   | succ j =>
    simp only [Yv] at oW
    exact absurd (mem j gn mi (by simpa using hj)) (List.nodup_cons.1 oW).1
  | succ i =>
   cases j with
   | zero =>
    simp at hj; subst hj
    simp only [Yv] at oW
    exact absurd (mem i lo len (by simpa using hi)) (List.nodup_cons.1 oW).1
   | succ j => rw [ih i j t u lo len gn mi nd' (by simpa using hi) (by simpa using hj)]
theorem G8 : ∀ {xs : List At} {k t j lo len : Nat}, xs[k]? = some (At.sref t j lo len) -> (t, j) ∈ Yv xs
 | [], k, t, j, lo, len, h => by simp at h
 | x :: xs, 0, t, j, lo, len, h => by simp at h; subst h; simp [Yv]
 | x :: xs, k + 1, t, j, lo, len, h => by
  have := G8 (xs := xs) (k := k) (by simpa using h)
  cases x <;> simp [Yv, this]
theorem xw {σ : St} : ∀ {xs : List At} {ds : List D}, Jd σ xs = some ds -> xs.length = ds.length /\ ∀ (k : Nat) (x : At) (d : D), xs[k]? = some x -> ds[k]? = some d -> mvD σ x = some d
 | [], ds, h => by simp [Jd] at h; subst h; exact ⟨rfl, fun k x d hx => by simp at hx⟩
 | x :: xs, ds, h => by
  simp only [Jd] at h
  split at h
  ·rename_i d iZ h1 h2
   cases h
   obtain ⟨hl, ih⟩ := xw h2
   refine ⟨by simp [hl], fun k y e hy he => ?_⟩
   cases k with
   | zero => simp at hy he; subst hy; subst he; exact h1
   | succ k => exact ih k y e (by simpa using hy) (by simpa using he)
  ·cases h
theorem Oj {σ : St} : ∀ {xs ys : List At} {ds es : List D}, Jd σ xs = some ds -> Jd σ ys = some es -> Jd σ (xs ++ ys) = some (ds ++ es)
 | [], ys, ds, es, h1, h2 => by simp [Jd] at h1; subst h1; simpa using h2
 | x :: xs, ys, ds, es, h1, h2 => by
  simp only [Jd] at h1
  split at h1
  ·rename_i d iZ h3 h4
   cases h1
   simp [Jd, h3, Oj h4 h2]
  ·cases h1
theorem xj {σ : St} : ∀ {ox : List (List At)} {rs : List (List D)}, KR σ ox = some rs -> Jd σ ox.flatten = some rs.flatten /\ ox.length = rs.length /\ ∀ n, (∀ x ∈ ox, x.length = n) -> ∀ r ∈ rs, r.length = n
 | [], rs, h => by simp [KR] at h; subst h; exact ⟨rfl, rfl, fun n _ r hr => by cases hr⟩
 | xs :: ox, rs, h => by
  simp only [KR] at h
  split at h
  ·rename_i r ec h1 h2
   cases h
   obtain ⟨i1, i2, i3⟩ := xj h2
   refine ⟨by rw [List.flatten_cons, List.flatten_cons]; exact Oj h1 i1, by simp [i2], fun n hn q hq => ?_⟩
   rcases List.mem_cons.1 hq with rfl | hq
   ·rw [<- (xw h1).1]; exact hn xs (by simp)
   ·exact i3 n (fun x hx => hn x (by simp [hx])) q hq
  ·cases h
theorem RF {σ : St} : ∀ {xs : List At}, QI σ xs -> ∀ (k : Nat) (x : At), xs[k]? = some x -> Gi σ x
 | [], _, k, x, hx => by simp at hx
 | y :: xs, h, 0, x, hx => by simp at hx; subst hx; exact h.1
 | y :: xs, h, k + 1, x, hx => RF h.2 k x (by simpa using hx)
theorem Su {σ : St} : ∀ {xs ys : List At}, QI σ xs -> QI σ ys -> QI σ (xs ++ ys)
 | [], _, _, h => h
 | _ :: _, _, h1, h2 => ⟨h1.1, Su h1.2 h2⟩
theorem y3 {σ : St} : ∀ {ox : List (List At)}, Jv σ ox -> QI σ ox.flatten
 | [], _ => trivial
 | xs :: ox, h => by rw [List.flatten_cons]; exact Su h.1 (y3 h.2)
section
variable {P : Program} {T0 : CS} {B : Nat -> Prop} {σ : St} {a : Act} {w w' : World} {X X' : Nat -> Prop} {h : Nat -> Nat -> Hd}
theorem Rd.own {T : CS} {v : Value} {d : D} {S : Nat -> Prop} (hs : d.scalar = true) (hr : Rd T w v d) : Own w v d S := by
 cases hr with
 | int k n => exact .int _ _ _
 | bool b => exact .bool _ _
 | str s => exact .str _ _
 | unk v h => exact .unk _ h _
 | nil => cases hs
 | sl => cases hs
theorem Rel.sH (r : Rel T0 B σ a w X h) {t j : Nat} {q : Bool} {size : Nat} {rows : List (List D)} (ho : σ.ob t j = .arr q size rows) (hq : q = false -> ∀ r ∈ rows, ∀ x ∈ r, x.scalar = true) : Own w (h t j).v (.sl size rows) (h t j).u := by
 have h0 := r.obj t j
 have oo := r.ub t j
 rw [ho] at h0 oo
 cases q with
 | false =>
  obtain ⟨e, xs, mS, hz, pV⟩ := h0
  refine .sl _ size rows _ e xs (fun _ _ => False) mS hz (fun b hb => oo b (by simp) hb) pV.length (fun k x d hx hd => ?_) (fun k b hb => hb.elim) (fun i j b hb => hb.elim)
  obtain ⟨d', pd, hr⟩ := pV.get k x hx
  rw [hd] at pd; cases pd
  obtain ⟨r0, mb, hdr⟩ := List.mem_flatten.1 (List.mem_of_getElem? hd)
  exact Rd.own (hq rfl r0 mb d hdr) hr
 | true =>
  obtain ⟨e, xs, mS, hz, ⟨hl, Sk, h1, h2, h3⟩, hn⟩ := h0
  exact .sl _ size rows _ e xs Sk mS hz (fun b hb => oo b (by simp) hb) hl h1 (fun k b hb => h2 k b hb) h3
def Ki (σ : St) (h : Nat -> Nat -> Hd) (l : List (Nat × Nat)) (b : Nat) : Prop := ∃ p ∈ l, σ.ob p.1 p.2 ≠ .none /\ (h p.1 p.2).u b
theorem RJ (r : Rel T0 B σ a w X h) {xs : List At} {vs : List Value} {ds : List D} (pV : YB (YO (Tof T0 X) h σ.ob w) xs vs) (nU : Jd σ xs = some ds) (po : QI σ xs) (oW : (Yv xs).Nodup) : KM w vs ds (Ki σ h (Yv xs)) := by
 obtain ⟨hl, nU⟩ := xw nU
 refine ⟨by rw [<- pV.length, hl], fun k b => ∃ t j lo len, xs[k]? = some (.sref t j lo len) /\ σ.ob t j ≠ .none /\ (h t j).u b, fun k v d hv hd => ?_, ?_, ?_⟩
 ·obtain ⟨x, hx, hr⟩ := pV.get' k v hv
  have hm := nU k x d hx hd
  have ho := RF po k x hx
  cases x with
  | d x =>
   cases x with
   | sl s rows => simp [mvD] at hm
   | int k n => simp [mvD] at hm; subst hm; exact Rd.own rfl hr
   | bool b => simp [mvD] at hm; subst hm; exact Rd.own rfl hr
   | str s => simp [mvD] at hm; subst hm; exact Rd.own rfl hr
   | unk => simp [mvD] at hm; subst hm; exact Rd.own rfl hr
  | nil s =>
   simp [mvD] at hm; subst hm
   cases hr
   exact .sl _ s [] _ 0 [] (fun _ _ => False) (World.ownsRow_nil w 0 0 s) (by intro q hq; cases hq) (fun b hb => by cases hb) rfl (fun k x d hx => by simp at hx) (fun k b hb => hb.elim) (fun i j b hb => hb.elim)
  | sref t j lo len =>
   simp only [mvD] at hm
   split at hm
   ·rename_i q size rows pr
    split at hm
    ·rename_i hc
     obtain ⟨rfl, rfl⟩ := hc
     cases hm
     obtain ⟨_, nf, _⟩ := hr.2.1 q size rows pr
     rw [nf rfl rfl]
     refine (r.sH pr (fun hq => ?_)).mono (fun b hb => ⟨t, j, 0, rows.length, hx, by rw [pr]; simp, hb⟩)
     subst hq
     simp only [Gi, pr] at ho; exact ho
    ·cases hm
   ·cases hm
  | any => simp [mvD] at hm
  | ptr => simp [mvD] at hm
  | bptr => simp [mvD] at hm
  | fn => simp [mvD] at hm
  | rptr => simp [mvD] at hm
  | tref => simp [mvD] at hm
 ·rintro k b ⟨t, j, lo, len, hx, pS, hu⟩
  exact ⟨(t, j), G8 hx, pS, hu⟩
 ·rintro i k b ⟨t, j, lo, len, hx, pS, hu⟩ ⟨t', j', gn, mi, lJ, oU, nX⟩
  obtain ⟨rfl, rfl⟩ := r.inj t j t' j' b pS oU hu nX
  exact Mb xs i k t j lo len gn mi oW hx lJ
theorem KM.append {xs ys : List Value} {ds es : List D} {S S' : Nat -> Prop} (h1 : KM w xs ds S) (h2 : KM w ys es S') (hd : ∀ b, S b -> S' b -> False) : KM w (xs ++ ys) (ds ++ es) (fun b => S b \/ S' b) := by
 obtain ⟨l1, Sk, a1, a2, a3⟩ := h1
 obtain ⟨l2, gj, b1, b2, b3⟩ := h2
 refine ⟨by simp [l1, l2], fun k => if k < xs.length then Sk k else gj (k - xs.length), fun k x d hx pd => ?_, fun k b hb => ?_, fun i j b hi hj => ?_⟩
 ·by_cases hk : k < xs.length
  ·simp only [hk, if_true]
   rw [List.getElem?_append_left hk] at hx
   rw [List.getElem?_append_left (by omega)] at pd
   exact a1 k x d hx pd
  ·simp only [hk, if_false]
   rw [List.getElem?_append_right (by omega)] at hx
   rw [List.getElem?_append_right (by omega), <- l1] at pd
   exact b1 _ x d hx pd
 ·by_cases hk : k < xs.length
  ·simp only [hk, if_true] at hb; exact .inl (a2 k b hb)
  ·simp only [hk, if_false] at hb; exact .inr (b2 _ b hb)
 ·by_cases o9 : i < xs.length
  ·simp only [o9, if_true] at hi
   by_cases mO : j < xs.length
   ·simp only [mO, if_true] at hj; exact a3 i j b hi hj
   ·simp only [mO, if_false] at hj; exact (hd b (a2 i b hi) (b2 _ b hj)).elim
  ·simp only [o9, if_false] at hi
   by_cases mO : j < xs.length
   ·simp only [mO, if_true] at hj; exact (hd b (a2 j b hj) (b2 _ b hi)).elim
   ·simp only [mO, if_false] at hj
    have := b3 _ _ b hi hj; omega
theorem KM.mono {xs : List Value} {ds : List D} {S S' : Nat -> Prop} (hS : ∀ b, S b -> S' b) (h1 : KM w xs ds S) : KM w xs ds S' := by
 obtain ⟨l1, Sk, a1, a2, a3⟩ := h1
 exact ⟨l1, Sk, a1, fun k b hb => hS b (a2 k b hb), a3⟩
theorem KM.nil (S : Nat -> Prop) : KM w [] [] S := ⟨rfl, fun _ _ => False, fun k x d hx => by simp at hx, fun _ _ hb => hb.elim, fun _ _ _ hb => hb.elim⟩
theorem Rel.xJ (r : Rel T0 B σ a w X h) (l : List (Nat × Nat)) (b : Nat) (hb : Ki σ h l b) : ¬ B b /\ ¬ X b /\ b < w.heap.size /\ ∀ u i, (σ.Z9 l).ob u i ≠ .none -> ¬ (h u i).u b := by
 obtain ⟨p, hp, pS, hu⟩ := hb
 have ho := r.own p.1 p.2 b pS hu
 refine ⟨ho.1, ho.2.1, ho.2.2, fun u i hn nX => ?_⟩
 rw [St.Kn] at hn
 split at hn
 ·exact hn rfl
 ·rename_i aa
  obtain ⟨h1, h2⟩ := r.inj p.1 p.2 u i b pS hn hu nX
  exact aa (by rw [<- h1, <- h2]; exact hp)
end
end Go.Vm
namespace Go.Vm
open Go.RowKit
section
variable {P : Program} {T0 : CS} {B : Nat -> Prop} {σ : St} {a : Act} {w w' : World} {X X' : Nat -> Prop} {h : Nat -> Nat -> Hd}
def Ox (P : Program) (σ : St) (T : TypeId) (size : Nat) : List (Nat × Operand) -> Nat -> List (List At) -> Prop
 | [], _, rs => rs = []
 | (i, x) :: ps, k, rs => i = k /\ gOf (look P σ T x) = true /\ (unc (look P σ T x)).flat = true /\ (unc (look P σ T x)).cells.length = size /\
   ∃ rest, Ox P σ T size ps (k + 1) rest /\ rs = (unc (look P σ T x)).cells :: rest
theorem CT (r : Rel T0 B σ a w X h) (T : TypeId) (size : Nat) : ∀ (ps : List (Nat × Operand)) (k : Nat) (rs : List (List At)) (cells : Array Value), Ox P σ T size ps k rs -> (k + ps.length) * size <= cells.size ->
   ∃ pZ ys, Instr.fill (fun i => some (i * size, size)) cells (ps.map fun x => (x.1, a.eval x.2)) = some pZ /\ pZ.toList = place cells.toList (k * size) ys /\ YB (YO (Tof T0 X) h σ.ob w) rs.flatten ys /\ (∀ q ∈ rs, q.length = size) /\ rs.length = ps.length
 | [], k, rs, cells, hb, _ => by cases hb; exact ⟨cells, [], rfl, by simp [place], .nil, (by intro q hq; cases hq), rfl⟩
 | (i, x) :: ps, k, rs, cells, hb, hl => by
  obtain ⟨rfl, hg, hf, hlen, rest, hb, rfl⟩ := hb
  have hx := kq hf (r.arg (P := P) T x rfl hg)
  have gU := hx.length
  have e1 : cells.toList.length = cells.size := Array.length_toList
  have e2 : (a.eval x).cells.toList.length = (a.eval x).cells.size := Array.length_toList
  have hmul : (i + (ps.length + 1)) * size = i * size + size + ps.length * size := by rw [Nat.add_mul, Nat.add_mul]; omega
  simp only [List.length_cons] at hl
  have heq := TJ (i * size) (a.eval x).cells cells (by omega)
  have mq : ((a.eval x).cells.zipIdx.foldl (fun cs x => cs.setIfInBounds (i * size + x.2) x.1) cells).size = cells.size := by
   rw [<- Array.length_toList, heq, Xs _ _ _ (by omega), e1]
  have cV : (i + 1 + ps.length) * size = i * size + size + ps.length * size := by rw [Nat.add_mul, Nat.add_mul]; omega
  obtain ⟨pZ, ys, h1, h2, h3, h4, h5⟩ := CT r T size ps (i + 1) rest _ hb (by rw [mq]; omega)
  have nq : ys.length = ps.length * size := by rw [<- h3.length, Yi rest size h4, h5]
  refine ⟨pZ, (a.eval x).cells.toList ++ ys, ?_, ?_, ?_, ?_, by simp [h5]⟩
  ·simp only [List.map_cons, Instr.fill]
   rw [if_neg (by simp; omega)]
   exact h1
  ·rw [h2, heq]
   rw [show (i + 1) * size = i * size + (a.eval x).cells.toList.length by rw [Nat.add_mul]; omega]
   exact Md _ _ _ _ (by simp; omega)
  ·rw [List.flatten_cons]; exact hx.append h3
  ·intro q hq
   rcases List.mem_cons.1 hq with rfl | hq
   ·exact hlen
   ·exact h4 q hq
theorem RC (r : Rel T0 B σ a w X h) {o : Oper} {T : TypeId} {n : Nat} {parts : Array (Nat × Operand)} {d : Nat} {rows : List (List At)} (pP : o.op = .buildSlice T n parts) (hd : o.dst = some d) (ot : σ.fresh d = true)
  (ht : XW P T = true) (hz : Qg P (ZT P T) = true) (o5 : 0 < P.cellsOf (ZT P T)) (hn : parts.toList.length = n) (hsm : n * P.cellsOf (ZT P T) <= 16777216) (hb : Ox P σ (ZT P T) (P.cellsOf (ZT P T)) parts.toList 0 rows) (hrf : YU d rows.flatten = false)
  {K : Act -> World -> Prop} {Q : Exit -> Act -> World -> Prop} (hK : ∀ a' w', KF T0 B (σ.new d (.one (.sref d 0 0 rows.length)) [.lit (P.cellsOf (ZT P T)) rows]) a' w' -> XI B w w' -> K a' w') : o.wp P a w K Q := by
 obtain ⟨ti, hu, hi, mh⟩ := QJ ht
 obtain ⟨i, z, row, o9, la, mF, mq, iG, nn, mH⟩ := qp hz
 rw [hi] at o9; cases o9
 have n9 : (zeroValue (ZT P T)).run P w = .ok z w := by simp [zeroValue, typeInfo, hi, la]
 obtain ⟨zero, hzero⟩ : ∃ zero : Array Value, (n * P.cellsOf (ZT P T) = 0 -> zero = #[]) /\ (¬ n * P.cellsOf (ZT P T) = 0 -> zero = z.cells) := by
  by_cases h0 : n * P.cellsOf (ZT P T) = 0
  ·exact ⟨#[], fun _ => rfl, fun hh => absurd h0 hh⟩
  ·exact ⟨z.cells, fun hh => absurd hh h0, fun _ => rfl⟩
 obtain ⟨pZ, ys, h1, h2, h3, h4, h5⟩ := CT r (ZT P T) (P.cellsOf (ZT P T)) parts.toList 0 rows ((Array.range (n * P.cellsOf (ZT P T))).map (zero[· % zero.size]!)) hb (by simp [hn])
 have nq : ys.length = n * P.cellsOf (ZT P T) := by rw [<- h3.length, Yi rows _ h4, h5, hn]
 have oG : pZ.toList = ys := by
  rw [h2]
  unfold place
  simp [nq]
 have mU : (parts.map fun (x : Nat × Operand) => (x.1, a.eval x.2)).toList = parts.toList.map fun x => (x.1, a.eval x.2) := by simp
 have pq : (execOp a.eval o).run P w = .ok (.value (.slice (some ⟨w.heap.size, 0, none⟩) n n)) (w.alloc (.cells pZ (ZT P T))) := by
  have mf : ¬ (n * P.cellsOf (ZT P T) > 2 ^ 24) := by omega
  by_cases h0 : n * P.cellsOf (ZT P T) = 0
  ·have l5 := hzero.1 h0
   subst l5
   simp only [execOp, pP, Instr.buildSlice, Sem.run_bind, run_underlying hu, Result.andThen_ok, Jw hi, if_neg mf, if_pos h0, mU, h1, newRow, Sem.run_pure, run_newObj_alloc]
  ·have l5 := hzero.2 h0
   subst l5
   simp only [execOp, pP, Instr.buildSlice, Sem.run_bind, run_underlying hu, Result.andThen_ok, Jw hi, if_neg mf, if_neg h0, n9, mU, h1, newRow, Sem.run_pure, run_newObj_alloc]
 unfold Oper.wp
 rw [pq, Oper.upon_value, hd]
 have hlen : rows.length = n := by rw [h5, hn]
 have hg := World.grownBy_alloc w (.cells pZ (ZT P T)) none
 have pa := St.yh ot
 have hT : ∀ b k v, Tof T0 X b k -> w.cell? ⟨b, k, none⟩ = some v -> (w.alloc (.cells pZ (ZT P T))).cell? ⟨b, k, none⟩ = some v /\ Tof T0 X b k := by
  intro b k v hb pb
  refine ⟨?_, hb⟩
  rw [World.cell?_of_block (hg.block b (r.Tlt hb) (by simp))]; exact pb
 have ga : pZ.size = n * P.cellsOf (ZT P T) := by rw [<- Array.length_toList, oG, nq]
 have nm : n <= maxLen := by
  have : n <= n * P.cellsOf (ZT P T) := Nat.le_mul_of_pos_right _ o5
  simp only [maxLen]; omega
 have pY : (w.alloc (.cells pZ (ZT P T))).ownsRow 0 (ZT P T) (P.cellsOf (ZT P T)) (.slice (some ⟨w.heap.size, 0, none⟩) n n) rows.length ys :=
  ⟨by rw [nq, hlen], .inr ⟨w.heap.size, n, pZ, by rw [hlen], Nat.zero_le _, heap_alloc_new w _, by omega, nm, ga, by rw [oG, hlen, List.take_of_length_le (by omega)]⟩⟩
 refine hK _ _ ⟨X, fun t j => if t = d then Hd.of (.slice (some ⟨w.heap.size, 0, none⟩) n n) else h t j, ?_⟩ (XI.U5 hg r.hB)
 have nB : (σ.new d (.one (.sref d 0 0 rows.length)) [.lit (P.cellsOf (ZT P T)) rows]).ob d 0 = .lit (P.cellsOf (ZT P T)) rows := by rw [St.Jx]; simp [pa, Yo]
 have hc : ∀ t j, t ≠ d -> Cpt h (fun t j => if t = d then Hd.of (.slice (some ⟨w.heap.size, 0, none⟩) n n) else h t j) σ.ob (σ.new d (.one (.sref d 0 0 rows.length)) [.lit (P.cellsOf (ZT P T)) rows]).ob t j := by
  intro t j pS
  have he : (σ.new d (.one (.sref d 0 0 rows.length)) [.lit (P.cellsOf (ZT P T)) rows]).ob t j = σ.ob t j := by rw [St.Jx, if_neg (fun hh => pS hh.1)]
  exact Cpt.same (by simp [pS]) he
 refine r.new ot hg (fun _ hb => hb) (fun _ hb => .inl hb) _ _ [.lit (P.cellsOf (ZT P T)) rows] (fun _ => Hd.of (.slice (some ⟨w.heap.size, 0, none⟩) n n)) ?_ (fun j => ?_) (fun j b _ hb => hb) (fun j b _ pj => ?_) (fun j j' b pS oU _ _ => ?_)
 ·refine ⟨yZ pY, fun q' oA ph pv => (by rw [nB] at pv; cases pv), fun oA ph pv => ?_⟩
  rw [nB] at pv; cases pv
  simp only [if_true]
  exact Rg pY
 ·cases j with
  | zero => exact ⟨ZT P T, ys, pY, h4, W5 hT hc hrf h3⟩
  | succ j => simp [Yo, J3]
 ·simp [Hd.of, blk] at pj; subst pj
  refine ⟨Nat.le_refl _, fun lJ => ?_, by simp⟩
  have := (r.hX _ lJ).2; omega
 ·have : ∀ j, Yo [Ob.lit (P.cellsOf (ZT P T)) rows] j ≠ .none -> j = 0 := by
   intro j hj
   cases j with
   | zero => rfl
   | succ j => simp [Yo] at hj
  rw [this j pS, this j' oU]
theorem Cp {T : CS} {ob : Nat -> Nat -> Ob} : ∀ {xs : List At} {ds : List D} {vs : List Value}, zD xs = some ds -> YB (YO T h ob w) xs vs -> (∀ x ∈ xs, ∀ s r, x ≠ .d (.sl s r)) -> ∀ (w' : World) (S : Nat -> Prop) (k : Nat) (v : Value) (d : D), vs[k]? = some v -> ds[k]? = some d -> Own w' v d S
 | [], ds, vs, hz, pV, _, w', S, k, v, d, hv, _ => by cases pV; simp at hv
 | x :: xs, ds, vs, hz, pV, lq, w', S, k, v, d, hv, hd => by
  cases pV with
  | cons hx pV =>
   cases x with
   | d x =>
    simp only [zD, Option.map_eq_some_iff] at hz
    obtain ⟨iZ, mG, rfl⟩ := hz
    cases k with
    | zero =>
     simp at hv hd; subst hv; subst hd
     cases x with
     | sl s r => exact absurd rfl (lq _ (by simp) s r)
     | int k n => cases (show Rd _ _ _ _ from hx); exact .int _ _ _
     | bool b => cases (show Rd _ _ _ _ from hx); exact .bool _ _
     | str s => cases (show Rd _ _ _ _ from hx); exact .str _ _
     | unk => exact .unk _ (Rd.QN hx) _
    | succ k => exact Cp mG pV (fun x hx => lq x (by simp [hx])) w' S k v d (by simpa using hv) (by simpa using hd)
   | nil s =>
    simp only [zD, Option.map_eq_some_iff] at hz
    obtain ⟨iZ, mG, rfl⟩ := hz
    cases k with
    | zero =>
     simp at hv hd; subst hv; subst hd
     cases hx
     exact .sl _ s [] _ 0 [] (fun _ _ => False) (World.ownsRow_nil w' 0 0 s) (by intro q hq; cases hq) (fun b hb => by cases hb) rfl (fun k x d hx => by simp at hx) (fun k b hb => hb.elim) (fun i j b hb => hb.elim)
    | succ k => exact Cp mG pV (fun x hx => lq x (by simp [hx])) w' S k v d (by simpa using hv) (by simpa using hd)
   | any => simp [zD] at hz
   | sref => simp [zD] at hz
   | ptr => simp [zD] at hz
   | bptr => simp [zD] at hz
   | fn => simp [zD] at hz
   | rptr => simp [zD] at hz
   | tref => simp [zD] at hz
def AT (σ : St) (x : V) (size : Nat) (pW : List (List D)) (l : List (Nat × Nat)) : Prop :=
 match x with
 | .one (.nil _) => pW = [] /\ l = []
 | .one (.sref t j lo len) => σ.ob t j = .arr true size pW /\ lo = 0 /\ len = pW.length /\ l = [(t, j)]
 | _ => False
def AO (σ : St) (x : V) (size : Nat) (news : List (List D)) (l : List (Nat × Nat)) : Prop :=
 match x with
 | .one (.sref t j lo len) => ∃ rows, σ.ob t j = .lit size rows /\ lo = 0 /\ len = rows.length /\ KR σ rows = some news /\ Jv σ rows /\ l = Yv rows.flatten
 | _ => False
theorem GS (r : Rel T0 B σ a w X h) {o : Oper} {t : TypeId} {x y : Operand} {d : Nat} {pW news : List (List D)} {l1 l2 : List (Nat × Nat)} (pP : o.op = .call ⟨.builtin .append, #[x, y], #[t, t]⟩) (hd : o.dst = some d)
  (lu : gOf (look P σ t x) = true) (lv : gOf (look P σ t y) = true) (ht : XW P t = true) (hz : Qg P (ZT P t) = true) (o5 : 0 < P.cellsOf (ZT P t))
  (ny : AT σ (unc (look P σ t x)) (P.cellsOf (ZT P t)) pW l1) (mo : AO σ (unc (look P σ t y)) (P.cellsOf (ZT P t)) news l2) (oW : (l1 ++ l2).Nodup) (ot : (σ.Z9 (l1 ++ l2)).fresh d = true)
  (nR : (pW.length + news.length) * P.bytesOf (ZT P t) <= 140737488355328) (eM : pW.length + news.length <= 9223372036854775807)
  {K : Act -> World -> Prop} {Q : Exit -> Act -> World -> Prop} (hK : ∀ a' w', KF T0 B ((σ.Z9 (l1 ++ l2)).new d (.one (.sref d 0 0 (pW.length + news.length))) [.arr true (P.cellsOf (ZT P t)) (pW ++ news)]) a' w' -> XI B w w' -> K a' w') : o.wp P a w K Q := by
 obtain ⟨ti, hu, hi, mh⟩ := QJ ht
 obtain ⟨i, z, row, o9, la, mF, mq, iG, nn, mH⟩ := qp hz
 rw [hi] at o9; cases o9
 have eN : P.bytesOf (ZT P t) = ti.bytes := by simp [Program.bytesOf, hi]
 rw [eN] at nR
 rw [<- nn] at ny mo o5 hK
 have fA := r.arg (P := P) t x rfl lu
 have bH := r.arg (P := P) t y rfl lv
 obtain ⟨t2, j2, rows, hsy, gC, nU, ng, gU⟩ : ∃ t2 j2 rows, unc (look P σ t y) = .one (.sref t2 j2 0 rows.length) /\ σ.ob t2 j2 = .lit ti.size rows /\ KR σ rows = some news /\ Jv σ rows /\ l2 = Yv rows.flatten := by
  unfold AO at mo
  split at mo
  ·rename_i t2 j2 lo len heq
   obtain ⟨rows, ho, rfl, rfl, hm, hk, rfl⟩ := mo
   exact ⟨t2, j2, rows, heq, ho, hm, hk, rfl⟩
  ·exact mo.elim
 subst gU
 obtain ⟨ae, cN, af⟩ := xj nU
 have cX := y3 ng
 rw [hsy] at bH
 have h0 := r.obj t2 j2
 rw [gC] at h0
 obtain ⟨e2, ys, mW, bG, lj⟩ := h0
 obtain ⟨_, eQ, _⟩ := bH.2.2 _ _ gC
 have cY : a.eval y = (h t2 j2).v := eQ rfl rfl
 have cM : ∀ q ∈ news, q.length = ti.size := af _ bG
 have mC := RJ r lj ae cX (List.nodup_append.1 oW).2.1
 have nO : ∃ e0 xs, w.ownsRow 0 e0 ti.size (a.eval x) pW.length xs /\ (∀ q ∈ pW, q.length = ti.size) /\ KM w xs pW.flatten (fun b => Ki σ h l1 b /\ blk (a.eval x) ≠ some b) /\ (∀ b, blk (a.eval x) = some b -> Ki σ h l1 b) := by
  unfold AT at ny
  split at ny
  ·rename_i s heq
   obtain ⟨rfl, rfl⟩ := ny
   rw [heq] at fA
   have he : a.eval x = .slice none 0 0 := fA
   rw [he]
   exact ⟨0, [], World.ownsRow_nil w 0 0 _, (by intro q hq; cases hq), KM.nil _, (fun b hb => by cases hb)⟩
  ·rename_i u j lo len heq
   obtain ⟨ho, rfl, rfl, rfl⟩ := ny
   rw [heq] at fA
   have eT : YO (Tof T0 X) h σ.ob w (.sref u j 0 pW.length) (a.eval x) := fA
   obtain ⟨_, nf, _⟩ := eT.2.1 _ _ _ ho
   have he : a.eval x = (h u j).v := nf rfl rfl
   have h0 := r.obj u j
   rw [ho] at h0
   obtain ⟨e, xs, pY, g8, pV, hn⟩ := h0
   have pr : σ.ob u j ≠ .none := by rw [ho]; simp
   rw [he]
   exact ⟨e, xs, pY, g8, pV.mono (fun b hb => ⟨⟨(u, j), by simp, pr, hb.1⟩, hb.2⟩), fun b hb => ⟨(u, j), by simp, pr, r.ub u j b pr hb⟩⟩
  ·exact ny.elim
 obtain ⟨e0, xs, pY, ab, eO, iX⟩ := nO
 have eU : ∀ q ∈ pW ++ news, q.length = ti.size := by
  intro q hq
  rcases List.mem_append.1 hq with hq | hq
  ·exact ab q hq
  ·exact cM q hq
 have nq : ys.length = news.length * ti.size := by rw [mC.1, Yi news ti.size cM]
 have nz : ∀ b, Ki σ h l1 b -> Ki σ h (Yv rows.flatten) b -> False := by
  rintro b ⟨p, hp, pS, hu⟩ ⟨p', iy, oU, nX⟩
  obtain ⟨e1, e2⟩ := r.inj p.1 p.2 p'.1 p'.2 b pS oU hu nX
  have nw : p = p' := Prod.ext e1 e2
  subst nw
  exact (List.nodup_append.1 oW).2.2 p hp p iy rfl
 have mr : ∀ b, Ki σ h (l1 ++ Yv rows.flatten) b ↔ Ki σ h l1 b \/ Ki σ h (Yv rows.flatten) b := by
  intro b
  constructor
  ·rintro ⟨p, hp, hr⟩
   rcases List.mem_append.1 hp with hp | hp
   ·exact .inl ⟨p, hp, hr⟩
   ·exact .inr ⟨p, hp, hr⟩
  ·rintro (⟨p, hp, hr⟩ | ⟨p, hp, hr⟩)
   ·exact ⟨p, by simp [hp], hr⟩
   ·exact ⟨p, by simp [hp], hr⟩
 have r1 := r.Z9 (l1 ++ Yv rows.flatten)
 have oD := r.xJ (l1 ++ Yv rows.flatten)
 have pa := St.yh ot
 have key : ∀ (v' : Value) (w' : World) (e1 : TypeId), (Builtin.append_ #[t, t] o.type #[a.eval x, a.eval y]).run P w = .ok v' w' -> w'.ownsRow 0 e1 ti.size v' (pW.length + news.length) (xs ++ ys) ->
   w.grownBy w' (blk (a.eval x)) -> (∀ b, blk v' = some b -> (w.heap.size <= b /\ b < w'.heap.size) \/ blk (a.eval x) = some b) -> o.wp P a w K Q := by
  intro v' w' e1 pq pv mB fP
  unfold Oper.wp
  have gZ : (execOp a.eval o).run P w = .ok (.value v') w' := by
   simp only [execOp, pP, resolve, invoke, builtin, Sem.run_bind, Sem.run_pure, Result.andThen_ok, List.map_toArray, List.map_cons, List.map_nil, pq]
  rw [gZ, Oper.upon_value, hd]
  refine hK _ _ ⟨X, fun u j => if u = d then ⟨v', fun k => ((xs ++ ys)[k]?).getD undef, fun b => blk v' = some b \/ (Ki σ h (l1 ++ Yv rows.flatten) b /\ blk (a.eval x) ≠ some b)⟩ else h u j, ?_⟩
   ⟨mB.os, mB.tape, mB.output, mB.size, fun k hk => mB.block k (r.hB k hk) (fun e => (oD k ((mr k).2 (.inl (iX k e.symm)))).1 hk)⟩
  have nB : ((σ.Z9 (l1 ++ Yv rows.flatten)).new d (.one (.sref d 0 0 (pW.length + news.length))) [.arr true ti.size (pW ++ news)]).ob d 0 = .arr true ti.size (pW ++ news) := by rw [St.Jx]; simp [pa, Yo]
  have mW : w'.ownsRow 0 e1 ti.size v' (pW ++ news).length (xs ++ ys) := by rw [List.length_append]; exact pv
  have pg : ∀ b, blk (a.eval x) ≠ some b -> b < w.heap.size -> w'.heap[b]? = w.heap[b]? := fun b hb hl => mB.block b hl (fun e => hb e.symm)
  have hOw : KM w' (xs ++ ys) (pW ++ news).flatten (fun b => (blk v' = some b \/ (Ki σ h (l1 ++ Yv rows.flatten) b /\ blk (a.eval x) ≠ some b)) /\ blk v' ≠ some b) := by
   rw [List.flatten_append]
   have h1 : KM w' xs pW.flatten (fun b => Ki σ h l1 b /\ blk (a.eval x) ≠ some b) := eO.P1 (fun b hb => pg b hb.2 (oD b ((mr b).2 (.inl hb.1))).2.2.1)
   have gq : ∀ b, Ki σ h (Yv rows.flatten) b -> blk (a.eval x) ≠ some b := fun b hb e => nz b (iX b e) hb
   have h2 : KM w' ys news.flatten (Ki σ h (Yv rows.flatten)) := mC.P1 (fun b hb => pg b (gq b hb) (oD b ((mr b).2 (.inr hb))).2.2.1)
   refine (h1.append h2 (fun b og oK => nz b og.1 oK)).mono (fun b hb => ?_)
   have hg : Ki σ h (l1 ++ Yv rows.flatten) b /\ blk (a.eval x) ≠ some b := by
    rcases hb with hb | hb
    ·exact ⟨(mr b).2 (.inl hb.1), hb.2⟩
    ·exact ⟨(mr b).2 (.inr hb), gq b hb⟩
   refine ⟨.inr hg, fun e => ?_⟩
   rcases fP b e with hl | hl
   ·have := (oD b hg.1).2.2.1; omega
   ·exact hg.2 hl
  refine r1.vr ot (Ki σ h (l1 ++ Yv rows.flatten)) mB.size (fun k hk pS => mB.block k hk (fun e => pS ((mr k).2 (.inl (iX k e.symm))))) (fun b hb => ⟨(oD b hb).1, (oD b hb).2.1, fun u j _ pS => (oD b hb).2.2.2 u j pS⟩) (fun _ hb => hb) (fun _ hb => .inl hb) _ _ [.arr true ti.size (pW ++ news)]
   (fun _ => ⟨v', fun k => ((xs ++ ys)[k]?).getD undef, fun b => blk v' = some b \/ (Ki σ h (l1 ++ Yv rows.flatten) b /\ blk (a.eval x) ≠ some b)⟩) ?_ (fun j => ?_) (fun j b _ hb => .inl hb) (fun j b pS pj => ?_) (fun j j' b pS oU _ _ => ?_)
  ·refine ⟨yZ pv, fun q' oA ph hh => ?_, fun oA ph hh => by rw [nB] at hh; cases hh⟩
   rw [nB] at hh; cases hh
   simp only [if_true, List.length_append]
   have := Rg mW
   rwa [List.length_append] at this
  ·cases j with
   | zero => exact ⟨e1, xs ++ ys, mW, eU, hOw, fun k x d hx _ _ => by simp [hx]⟩
   | succ j => simp [Yo, J3]
  ·rcases pj with pj | pj
   ·rcases fP b pj with h1 | h1
    ·exact ⟨.inl h1.1, fun hx => by have := (r.hX b hx).2; omega, h1.2⟩
    ·have h3 := (mr b).2 (.inl (iX b h1))
     have h2 := oD b h3
     exact ⟨.inr h3, h2.2.1, by have := mB.size; omega⟩
   ·have h2 := oD b pj.1
    exact ⟨.inr pj.1, h2.2.1, by have := mB.size; omega⟩
  ·have : ∀ j, Yo [Ob.arr true ti.size (pW ++ news)] j ≠ .none -> j = 0 := by
    intro j hj
    cases j with
    | zero => rfl
    | succ j => simp [Yo] at hj
   rw [this j pS, this j' oU]
 rcases mW.2 with ⟨hn1, cz⟩ | ⟨g2, cT, cur2, oa, _, mJ, hnc2, hmx2, hcs2, ag⟩
 ·have pe : rows = [] := List.eq_nil_of_length_eq_zero cz
  have mA : news = [] := List.eq_nil_of_length_eq_zero (by rw [<- cN, cz])
  have hys : ys = [] := List.eq_nil_of_length_eq_zero (by rw [nq, mA]; simp)
  have oI : ∃ base cap, a.eval x = .slice base pW.length cap /\ pW.length <= cap /\ (base = none -> cap = 0) := by
   rcases pY.2 with ⟨h1, h2⟩ | ⟨g, cap, cur, h1, _, _, np, _⟩
   ·exact ⟨none, 0, by rw [h1, h2], by omega, fun _ => rfl⟩
   ·exact ⟨_, cap, h1, np, (fun hh => by cases hh)⟩
  obtain ⟨base, cap, hex, np, cE⟩ := oI
  refine key (a.eval x) w e0 ?_ (by rw [hys, mA]; simpa using pY) ⟨rfl, rfl, rfl, Nat.le_refl _, fun _ _ _ => rfl⟩ (fun b hb => .inr hb)
  rw [cY, hn1]
  rw [hex]
  exact Vj t o.type _ ti hu hi base pW.length cap np cE
 ·have cS : a.eval y = .slice (some ⟨g2, 0, none⟩) news.length cT := by rw [cY, oa, cN]
  have pb : ∀ j u, ys[j]? = some u -> w.cell? ((⟨g2, 0, none⟩ : Addr).add j) = some u := by
   intro j u nX
   rw [jo]
   refine y0 mJ _ _ ?_
   rw [<- ag, List.getElem?_take] at nX
   split at nX
   ·simpa using nX
   ·cases nX
  obtain ⟨v', w', e1, pq, pv, mB, fP⟩ := Sr (P := P) (w := w) t o.type _ e0 ti z hu hi la iG (by omega) (a.eval x) pW.length xs pY ⟨g2, 0, none⟩ news.length cT ys nq pb
   (fun u nX => by
    obtain ⟨x', _, lJ⟩ := lj.mem nX
    exact YO.QN lJ) (by simp only [maxLen]; omega) nR
  refine key v' w' e1 ?_ pv mB fP
  rw [cS]; exact pq
theorem KM.pick {xs : List Value} {ds : List D} {S : Nat -> Prop} (h1 : KM w xs ds S) {p q n : Nat} (hp : p <= q) (hq : q + n <= xs.length) : KM w (xs.take p ++ cut xs q n) (ds.take p ++ cut ds q n) S := by
 obtain ⟨hl, Sk, hk, hs, hd⟩ := h1
 have iA : (xs.take p).length = p := by rw [List.length_take]; omega
 have ir : (ds.take p).length = p := by rw [List.length_take]; omega
 refine ⟨by rw [List.length_append, List.length_append, iA, ir, Qj _ _ _ hq, Qj _ _ _ (by omega)], fun k => if k < p then Sk k else Sk (q + (k - p)), fun k x d hx pd => ?_, fun k b hb => ?_, fun i j b hi hj => ?_⟩
 ·by_cases cb : k < p
  ·rw [List.getElem?_append_left (by omega)] at hx pd
   rw [List.getElem?_take, if_pos cb] at hx pd
   simp only [if_pos cb]
   exact hk k x d hx pd
  ·rw [List.getElem?_append_right (by omega), iA] at hx
   rw [List.getElem?_append_right (by omega), ir] at pd
   simp only [if_neg cb]
   exact hk _ x d (qg _ _ _ _ _ hx) (qg _ _ _ _ _ pd)
 ·dsimp only at hb
  split at hb <;> exact hs _ b hb
 ·dsimp only at hi hj
  split at hi <;> split at hj
  ·exact hd _ _ b hi hj
  ·have := hd _ _ b hi hj; omega
  ·have := hd _ _ b hi hj; omega
  ·have := hd _ _ b hi hj; omega
end
end Go.Vm
namespace Go.Vm
open Go.RowKit
def FD : List At -> Bool
 | [] => true
 | .d (.sl _ _) :: _ => false
 | _ :: xs => FD xs
theorem Di : ∀ {xs : List At}, FD xs = true -> ∀ x ∈ xs, ∀ s r, x ≠ .d (.sl s r)
 | [], _, x, hx, _, _ => by cases hx
 | y :: xs, h, x, hx, s, r => by
  have h2 : FD xs = true /\ ∀ s r, y ≠ .d (.sl s r) := by
   cases y with
   | d z => cases z with
    | sl s r => cases h
    | _ => exact ⟨h, fun s r e => by cases e⟩
   | _ => exact ⟨h, fun s r e => by cases e⟩
  rcases List.mem_cons.1 hx with rfl | hx
  ·exact h2.2 s r
  ·exact Di h2.1 x hx s r
section
variable {P : Program} {T0 : CS} {B : Nat -> Prop} {σ : St} {a : Act} {w w' : World} {X X' : Nat -> Prop} {h : Nat -> Nat -> Hd}
theorem IJ (r : Rel T0 B σ a w X h) {o : Oper} {T : TypeId} {x : Operand} {d : Nat} {k : IntKind} {n : Nat} {z : List At} {zr : List D} (pP : o.op = .makeSlice T x x) (hd : o.dst = some d) (ot : σ.fresh d = true)
  (ht : XW P T = true) (hz : Qg P (ZT P T) = true) (mF : ko P 12 (ZT P T) = some z) (bF : zD z = some zr) (hzf : FD z = true) (o5 : 0 < P.cellsOf (ZT P T)) (hx : VE P σ x k (n : Int)) (eN : P.bytesOf (ZT P T) * n <= 281474976710656) (eM : n <= 9223372036854775807)
  {K : Act -> World -> Prop} {Q : Exit -> Act -> World -> Prop} (hK : ∀ a' w', KF T0 B (σ.new d (.one (.sref d 0 0 n)) [.arr true (P.cellsOf (ZT P T)) (List.replicate n zr)]) a' w' -> XI B w w' -> K a' w') : o.wp P a w K Q := by
 obtain ⟨ti, hu, hi, mh⟩ := QJ ht
 obtain ⟨i, zv, row, o9, la, gY, mq, iG, nn, mH⟩ := qp hz
 rw [hi] at o9; cases o9
 rw [mF] at gY; cases gY
 have hex := xi r hx
 have eV : (ti.bytes : Int) * (n : Int) <= 281474976710656 := by
  have : P.bytesOf (ZT P T) = ti.bytes := by simp [Program.bytesOf, hi]
  rw [this] at eN
  have h : ((ti.bytes * n : Nat) : Int) <= 281474976710656 := by omega
  rwa [Int.natCast_mul] at h
 have pq := run_make (P := P) w T (ZT P T) ti zv hu hi la k k n n (by omega) (Int.le_refl _) eV (by omega)
 simp only [Int.toNat_natCast] at pq
 unfold Oper.wp
 simp only [execOp, pP, hex, Sem.run_bind, pq, Result.andThen_ok, Sem.run_pure, Oper.upon_value, hd]
 have fB := Et bF (mH (Tof T0 X) h σ.ob w)
 have hzl := fB.length
 have e1 : zv.cells.toList.length = zv.cells.size := Array.length_toList
 have iH : zr.length = ti.size := by omega
 have mX : (madeCells zv.cells (n * ti.size)).toList.length = n * ti.size := by rw [Array.length_toList, size_madeCells]
 have gb : ∀ q u, (madeCells zv.cells (n * ti.size)).toList[q]? = some u -> zv.cells.toList[q % ti.size]? = some u := by
  intro q u hq
  have pa : q < n * ti.size := by have := (List.getElem?_eq_some_iff.1 hq).1; omega
  have eW : q % ti.size < zv.cells.size := by rw [iG]; exact Nat.mod_lt _ (by omega)
  have : (madeCells zv.cells (n * ti.size)).toList[q]? = some (zv.cells[q % zv.cells.size]!) := by
   simp [madeCells, pa]
  rw [this] at hq
  cases hq
  rw [iG]
  simp [eW]
 have lj : KM (w.alloc (.cells (madeCells zv.cells (n * ti.size)) (ZT P T))) (madeCells zv.cells (n * ti.size)).toList (List.replicate n zr).flatten (fun _ => False) := by
  refine ⟨by rw [mX, Yi _ ti.size (by intro q hq; rw [List.eq_of_mem_replicate hq]; exact iH)]; simp, fun _ _ => False, fun q u dd hq nr => ?_, fun _ _ hb => hb, fun _ _ _ hb => hb.elim⟩
  have pa : q < n * ti.size := by have := (List.getElem?_eq_some_iff.1 hq).1; omega
  rw [kB zr n q (by rw [iH]; exact pa), iH] at nr
  exact Cp bF (mH (Tof T0 X) h σ.ob w) (Di hzf) _ _ _ u dd (gb q u hq) nr
 have := r.vq ot (World.grownBy_alloc w (.cells (madeCells zv.cells (n * ti.size)) (ZT P T)) none) (.slice (some ⟨w.heap.size, 0, none⟩) n n) (e := ZT P T) (size := P.cellsOf (ZT P T)) (rows := List.replicate n zr) (xs := (madeCells zv.cells (n * ti.size)).toList)
  ⟨by rw [mX, nn]; simp, .inr ⟨w.heap.size, n, _, by simp, Nat.zero_le _, heap_alloc_new w _, by simp, by simp only [maxLen]; omega, by rw [size_madeCells, nn], by rw [List.take_of_length_le (by rw [mX, nn]; simp)]⟩⟩
  (by intro q hq; rw [List.eq_of_mem_replicate hq]; omega) lj
  (fun b hb => by simp [blk] at hb; subst hb; exact ⟨Nat.le_refl _, by simp⟩)
 rw [List.length_replicate] at this
 exact hK _ _ this.1 this.2
theorem KM.place {xs ys : List Value} {ds es : List D} {S S' : Nat -> Prop} (h1 : KM w xs ds S) (h2 : KM w ys es S') (hd : ∀ b, S b -> S' b -> False) (o : Nat) (ho : o + ys.length <= xs.length) : KM w (Vm.place xs o ys) (Vm.place ds o es) (fun b => S b \/ S' b) := by
 obtain ⟨l1, Sk, a1, a2, a3⟩ := h1
 obtain ⟨l2, gj, b1, b2, b3⟩ := h2
 refine ⟨by rw [Xs _ _ _ ho, Xs _ _ _ (by omega), l1], fun k => if o <= k /\ k < o + ys.length then gj (k - o) else Sk k, fun k x d hx pd => ?_, fun k b hb => ?_, fun i j b hi hj => ?_⟩
 ·rcases kM xs o ys ho k x hx with ⟨p1, p2, p3⟩ | ⟨p1, p3⟩
  ·rcases kM ds o es (by omega) k d pd with ⟨_, _, p4⟩ | ⟨p4, _⟩
   ·simp only [p1, p2, and_self, if_true]; exact b1 _ x d p3 p4
   ·exact absurd ⟨p1, by omega⟩ p4
  ·rcases kM ds o es (by omega) k d pd with ⟨p4, p5, _⟩ | ⟨_, p4⟩
   ·exact absurd ⟨p4, by omega⟩ p1
   ·simp only [p1, if_false]; exact a1 k x d p3 p4
 ·by_cases hk : o <= k /\ k < o + ys.length
  ·simp only [hk, and_self, if_true] at hb; exact .inr (b2 _ b hb)
  ·simp only [hk, if_false] at hb; exact .inl (a2 k b hb)
 ·by_cases o9 : o <= i /\ i < o + ys.length
  ·simp only [o9, and_self, if_true] at hi
   by_cases mO : o <= j /\ j < o + ys.length
   ·simp only [mO, and_self, if_true] at hj
    have := b3 _ _ b hi hj; omega
   ·simp only [mO, if_false] at hj; exact (hd b (a2 j b hj) (b2 _ b hi)).elim
  ·simp only [o9, if_false] at hi
   by_cases mO : o <= j /\ j < o + ys.length
   ·simp only [mO, and_self, if_true] at hj; exact (hd b (a2 i b hi) (b2 _ b hj)).elim
   ·simp only [mO, if_false] at hj; exact a3 i j b hi hj
theorem M8 (r : Rel T0 B σ a w X h) {o : Oper} {T : TypeId} {x y : Operand} (pP : o.op = .store T x y) (hd : o.dst = none) (ht : xo P T = true) (lu : gOf (look P σ 0 x) = true) (lv : gOf (look P σ T y) = true)
  {t j i c : Nat} (hx : unc (look P σ 0 x) = .one (.ptr t j i c)) {size : Nat} {rows : List (List D)} (ho : σ.ob t j = .arr true size rows) (hi : i < rows.length) {ds : List D} (nJ : (unc (look P σ T y)).flat = true) (iK : Jd σ (unc (look P σ T y)).cells = some ds) (po : QI σ (unc (look P σ T y)).cells)
  (oW : (Yv (unc (look P σ T y)).cells).Nodup) (fO : (t, j) ∉ Yv (unc (look P σ T y)).cells) (htr : (σ.Z9 (Yv (unc (look P σ T y)).cells)).zi (At.isT t) = false) (hl : ds.length = P.cellsOf T) (hle : c + P.cellsOf T <= size)
  {K : Act -> World -> Prop} {Q : Exit -> Act -> World -> Prop} (hK : ∀ a' w', KF T0 B ((σ.Z9 (Yv (unc (look P σ T y)).cells)).YC t j (.arr true size (rows.set i (place (rows.getD i []) c ds)))) a' w' -> XI B w w' -> K a' w') : o.wp P a w K Q := by
 obtain ⟨_, ti, _, cL, _, _⟩ := kC ht
 have eS := r.arg (P := P) 0 x hx lu
 obtain ⟨b, cap, cur, e, xs, hb, he, hh, nG, nm, ni, mT, hz, lh, _, pY⟩ := r.arr ho eS
 obtain ⟨pY, hn⟩ := pY rfl
 have hy := kq nJ (r.arg (P := P) T y rfl lv)
 have mC := RJ r hy iK po oW
 have nq := mC.1
 have e2 : (a.eval y).cells.toList.length = (a.eval y).cells.size := Array.length_toList
 have e3 : cur.toList.length = cur.size := Array.length_toList
 have oC : rows[i]? = some (rows.getD i []) := by simp [List.getD_eq_getElem?_getD, List.getElem?_eq_getElem hi]
 have hmul : i * size + size <= rows.length * size := by rw [<- Nat.succ_mul]; exact Nat.mul_le_mul_right _ hi
 have fR : rows.length * size <= cap * size := Nat.mul_le_mul_right _ nG
 have pq := run_store (P := P) (w := w) cL (o := i * size + c) (val := a.eval y) hh (by omega) (by omega) (fun u hu => by obtain ⟨x', _, lJ⟩ := hy.mem hu; exact YO.QN lJ)
 have pr : σ.ob t j ≠ .none := by rw [ho]; simp
 have oX : blk (h t j).v = some b := by rw [hb]; rfl
 have hB := r.tY pr oX
 have oo := r.ub t j b pr oX
 have gP : xs.length = rows.length * size := by rw [lh, Yi rows size hz]
 have lY : (rows.getD i []).length = size := hz _ (List.mem_of_getElem? oC)
 generalize hL : Yv (unc (look P σ T y)).cells = L at *
 have r1 := r.Z9 L
 have lk : (σ.Z9 L).ob t j = .arr true size rows := by rw [St.Kn, if_neg fO, ho]
 have oD := r.xJ L
 have nz : ∀ b', (h t j).u b' -> Ki σ h L b' -> False := by
  rintro b' nX ⟨p, hp, pS, cO⟩
  obtain ⟨q1, q2⟩ := r.inj t j p.1 p.2 b' pr pS nX cO
  exact fO (by rw [q1, q2]; exact hp)
 unfold Oper.wp
 simp only [execOp, pP, he, Sem.run_bind, pq, Result.andThen_ok, Sem.run_pure, Oper.upon_skip, hd]
 refine hK _ _ ⟨X, _, r1.change (by rw [lk]; simp) (by simp [World.setRow]) (fun k hk => setRow_other w b k _ (fun e => hk (e ▸ oo))) (Ki σ h L) (fun b' pj => oD b' pj) _ (by rw [lk]; simp [Ob.wa])
  ⟨(h t j).v, fun k => ((place xs (i * size + c) (a.eval y).cells.toList)[k]?).getD undef, fun b' => (h t j).u b' \/ Ki σ h L b'⟩ rfl (fun b' pj => pj) (fun b' pj => .inl (r.ub t j b' pr pj)) (At.isT t) htr (.inl (fun u i c => by simp [At.isT])) ?_⟩ (XI.setRow hB.1 _)
 have o7 := setRow_heap w b cur (place cur.toList (i * size + c) (a.eval y).cells.toList).toArray e (0, 0) hh
 have pg : ∀ b', b' ≠ b -> (w.setRow b (place cur.toList (i * size + c) (a.eval y).cells.toList).toArray).heap[b']? = w.heap[b']? := fun b' pS => setRow_other w b b' _ pS
 have mG : ∀ r ∈ rows.set i (place (rows.getD i []) c ds), r.length = size := by
  intro r' oq
  rcases List.mem_or_eq_of_mem_set oq with oq | oq
  ·exact hz r' oq
  ·rw [oq, Xs _ _ _ (by omega), lY]
 refine ⟨e, place xs (i * size + c) (a.eval y).cells.toList, ⟨?_, .inr ⟨b, cap, _, by simpa using hb, Nat.zero_le _, o7, by simpa using nG, nm, ?_, ?_⟩⟩, mG, ?_, fun k u d hu _ _ => by simp [hu]⟩
 ·rw [Xs _ _ _ (by omega), gP]; simp
 ·simp only [List.size_toArray]
  rw [Xs _ _ _ (by omega), e3, ni]
 ·simp only [List.length_set]
  rw [P0 _ _ _ _ (by omega) (by omega), mT]
 ·rw [y1 size c ds (by omega) rows i _ oC hz]
  have k1 : KM (w.setRow b (place cur.toList (i * size + c) (a.eval y).cells.toList).toArray) xs rows.flatten (fun b => (h t j).u b /\ blk (h t j).v ≠ some b) := pY.P1 (fun b' pj => pg b' (fun e => pj.2 (by rw [e]; exact oX)))
  have k2 : KM (w.setRow b (place cur.toList (i * size + c) (a.eval y).cells.toList).toArray) (a.eval y).cells.toList ds (Ki σ h L) := mC.P1 (fun b' pj => pg b' (fun e => nz b' (by rw [e]; exact oo) pj))
  refine (k1.place k2 (fun b' h1 h2 => nz b' h1.1 h2) _ (by omega)).mono (fun b' pj => ?_)
  rcases pj with pj | pj
  ·exact ⟨.inl pj.1, pj.2⟩
  ·exact ⟨.inr pj, fun e => nz b' (r.ub t j b' pr e) pj⟩
theorem Own.wZ {v : Value} {n : Nat} {s : List (List D)} {S S2 : Nat -> Prop} (mS : Own w v (.sl n s) S) {k q : Nat} (hk : k < s.length) {ys : List Value} {ds : List D} (hy : KM w ys ds S2) (hle : q + ds.length <= n) (hd : ∀ b, S b -> S2 b -> False) :
  ∃ g cap cur e, v = .slice (some ⟨g, 0, none⟩) s.length cap /\ S g /\ w.heap[g]? = some (.cells cur e (0, 0)) /\ k * n + q + ys.length <= cur.size /\ Own (w.setRow g (place cur.toList (k * n + q) ys).toArray) v (.sl n (s.set k (place (s.getD k []) q ds))) (fun b => S b \/ S2 b) := by
 cases mS with
 | sl v size rows S e xs Sk ho hz hb hl nH hs pd =>
  have nq := hy.1
  obtain ⟨lh, ⟨_, h0⟩ | ⟨g, cap, cur, hv, mY, hh, nG, nm, ni, mT⟩⟩ := ho
  ·omega
  have eR : S g := hb g (by rw [hv]; rfl)
  have oC : s[k]? = some (s.getD k []) := by simp [List.getD_eq_getElem?_getD, List.getElem?_eq_getElem hk]
  have hmul : k * n + n <= s.length * n := by rw [<- Nat.succ_mul]; exact Nat.mul_le_mul_right _ hk
  have fR : s.length * n <= cap * n := Nat.mul_le_mul_right _ nG
  have e3 : cur.toList.length = cur.size := Array.length_toList
  have lY : (s.getD k []).length = n := hz _ (List.mem_of_getElem? oC)
  refine ⟨g, cap, cur, e, hv, eR, hh, by omega, ?_⟩
  have o7 := setRow_heap w g cur (place cur.toList (k * n + q) ys).toArray e (0, 0) hh
  have pg : ∀ b', b' ≠ g -> (w.setRow g (place cur.toList (k * n + q) ys).toArray).heap[b']? = w.heap[b']? := fun b' pS => setRow_other w g b' _ pS
  have mG : ∀ r ∈ s.set k (place (s.getD k []) q ds), r.length = n := by
   intro r' oq
   rcases List.mem_or_eq_of_mem_set oq with oq | oq
   ·exact hz r' oq
   ·rw [oq, Xs _ _ _ (by omega), lY]
  have oX : blk v = some g := by rw [hv]; rfl
  have k1 : KM (w.setRow g (place cur.toList (k * n + q) ys).toArray) xs s.flatten (fun b => S b /\ blk v ≠ some b) :=
   KM.P1 (fun b' pj => pg b' (fun e => pj.2 (by rw [e]; exact oX))) (show KM w xs s.flatten (fun b => S b /\ blk v ≠ some b) from ⟨hl, Sk, nH, fun k b hb => hs k b hb, pd⟩)
  have k2 : KM (w.setRow g (place cur.toList (k * n + q) ys).toArray) ys ds S2 := hy.P1 (fun b' pj => pg b' (fun e => hd b' (by rw [e]; exact eR) pj))
  have k3 := k1.place k2 (fun b' h1 h2 => hd b' h1.1 h2) (k * n + q) (by rw [lh]; omega)
  rw [<- y1 n q ds (by omega) s k _ oC hz] at k3
  obtain ⟨dJ, Sk3, a1, a2, a3⟩ := k3
  refine .sl v n _ _ e (place xs (k * n + q) ys) Sk3 ⟨?_, .inr ⟨g, cap, _, by simpa using hv, mY, o7, by simpa using nG, nm, ?_, ?_⟩⟩ mG (fun b' pj => .inl (hb b' pj)) dJ a1 (fun k b pj => ?_) a3
  ·rw [Xs _ _ _ (by rw [lh]; omega), lh]; simp
  ·simp only [List.size_toArray]
   rw [Xs _ _ _ (by omega), e3, ni]
  ·simp only [List.length_set]
   rw [P0 _ _ _ _ (by omega) (by omega), mT]
  ·rcases a2 k b pj with h1 | h1
   ·exact ⟨.inl h1.1, h1.2⟩
   ·exact ⟨.inr h1, fun e => hd b (hb b e) h1⟩
theorem LW (r : Rel T0 B σ a w X h) {o : Oper} {T : TypeId} {x y : Operand} (pP : o.op = .store T x y) (hd : o.dst = none) (ht : xo P T = true) (lu : gOf (look P σ 0 x) = true) (lv : gOf (look P σ T y) = true)
  {t j i c k q n : Nat} {s : List (List D)} (hx : unc (look P σ 0 x) = .one (.tref t j i c (some (k * n + q)))) {size : Nat} {rows : List (List D)} (ho : σ.ob t j = .arr true size rows) (hi : i < rows.length) (pb : (rows.getD i [])[c]? = some (.sl n s)) (hk : k < s.length)
  {ds : List D} (nJ : (unc (look P σ T y)).flat = true) (iK : Jd σ (unc (look P σ T y)).cells = some ds) (po : QI σ (unc (look P σ T y)).cells)
  (oW : (Yv (unc (look P σ T y)).cells).Nodup) (fO : (t, j) ∉ Yv (unc (look P σ T y)).cells) (hl : ds.length = P.cellsOf T) (hle : q + P.cellsOf T <= n)
  {K : Act -> World -> Prop} {Q : Exit -> Act -> World -> Prop} (hK : ∀ a' w', KF T0 B ((σ.Z9 (Yv (unc (look P σ T y)).cells)).YC t j (.arr true size (rows.set i (place (rows.getD i []) c [.sl n (s.set k (place (s.getD k []) q ds))])))) a' w' -> XI B w w' -> K a' w') : o.wp P a w K Q := by
 obtain ⟨_, ti, _, cL, _, _⟩ := kC ht
 have pr : σ.ob t j ≠ .none := by rw [ho]; simp
 have h0 := r.obj t j
 rw [ho] at h0
 obtain ⟨e, vs, mS, hz, ⟨bC, Sk, o1, o2, o3⟩, hn⟩ := h0
 have oC : rows[i]? = some (rows.getD i []) := by simp [List.getD_eq_getElem?_getD, List.getElem?_eq_getElem hi]
 have nA : rows.flatten[i * size + c]? = some (.sl n s) := jG rows size hz i _ oC c _ pb
 have pa : i * size + c < vs.length := by rw [bC]; exact (List.getElem?_eq_some_iff.1 nA).1
 have g6 : vs[i * size + c]? = some vs[i * size + c] := List.getElem?_eq_getElem pa
 have hnv := hn _ _ _ g6 nA rfl
 have pY := o1 _ _ _ g6 nA
 have hy := kq nJ (r.arg (P := P) T y rfl lv)
 have mC := RJ r hy iK po oW
 have nq := mC.1
 have e2 : (a.eval y).cells.toList.length = (a.eval y).cells.size := Array.length_toList
 generalize hL : Yv (unc (look P σ T y)).cells = L at *
 have nz : ∀ b', (h t j).u b' -> Ki σ h L b' -> False := by
  rintro b' nX ⟨p, hp, pS, cO⟩
  obtain ⟨q1, q2⟩ := r.inj t j p.1 p.2 b' pr pS nX cO
  exact fO (by rw [q1, q2]; exact hp)
 have ao : ∀ b, Sk (i * size + c) b -> (h t j).u b := fun b hb => (o2 _ b hb).1
 obtain ⟨g, cap, cur, e1, hv, eR, hh, oy, nY⟩ := pY.wZ (q := q) hk mC (by omega) (fun b h1 h2 => nz b (ao b h1) h2)
 have eS := r.arg (P := P) 0 x hx lu
 have he : a.eval x = .pointer (some ⟨g, k * n + q, none⟩) := by
  obtain ⟨b, n', g5, h1, h2⟩ := eS.2 size rows ho
  rw [hnv, hv] at h1
  cases h1; exact h2
 have pq := run_store (P := P) (w := w) cL (o := k * n + q) (val := a.eval y) hh (by omega) (by omega) (fun u hu => by obtain ⟨x', _, lJ⟩ := hy.mem hu; exact YO.QN lJ)
 have hgB := r.own t j g pr (ao g eR)
 have r1 := r.Z9 L
 have lk : (σ.Z9 L).ob t j = .arr true size rows := by rw [St.Kn, if_neg fO, ho]
 have oD := r.xJ L
 have ni : c + 1 <= size := by
  have h1 := (List.getElem?_eq_some_iff.1 pb).1
  have h2 := hz _ (List.mem_of_getElem? oC)
  omega
 have aq := y1 size c [D.sl n (s.set k (place (s.getD k []) q ds))] (by simpa using ni) rows i _ oC hz
 have av : i * size + c + [D.sl n (s.set k (place (s.getD k []) q ds))].length <= rows.flatten.length := by rw [<- bC]; simp; omega
 have lY : (rows.getD i []).length = size := hz _ (List.mem_of_getElem? oC)
 have mG : ∀ r ∈ rows.set i (place (rows.getD i []) c [D.sl n (s.set k (place (s.getD k []) q ds))]), r.length = size := by
  intro r' oq
  rcases List.mem_or_eq_of_mem_set oq with oq | oq
  ·exact hz r' oq
  ·rw [oq, Xs _ _ _ (by rw [lY]; simpa using ni), lY]
 have pg : ∀ b', b' ≠ g -> (w.setRow g (place cur.toList (k * n + q) (a.eval y).cells.toList).toArray).heap[b']? = w.heap[b']? := fun b' pS => setRow_other w g b' _ pS
 have oX : ∀ b, blk (h t j).v = some b -> (w.setRow g (place cur.toList (k * n + q) (a.eval y).cells.toList).toArray).heap[b]? = w.heap[b]? := fun b hb => pg b (fun e => (o2 _ g eR).2 (by rw [<- e]; exact hb))
 unfold Oper.wp
 simp only [execOp, pP, he, Sem.run_bind, pq, Result.andThen_ok, Sem.run_pure, Oper.upon_skip, hd]
 refine hK _ _ ⟨X, _, r1.change (by rw [lk]; simp) (by simp [World.setRow]) (fun k' nH => pg k' (fun e => nH (e ▸ ao g eR))) (Ki σ h L) (fun b' pj => oD b' pj) _ (by rw [lk]; simp [Ob.wa])
  ⟨(h t j).v, (h t j).n, fun b' => (h t j).u b' \/ Ki σ h L b'⟩ rfl (fun b' pj => pj) (fun b' pj => .inl (r.ub t j b' pr pj)) (fun _ => false) (St.qw _) (.inr rfl) ?_⟩ (XI.setRow hgB.1 _)
 refine ⟨e, vs, by rw [List.length_set]; exact qE oX mS, mG, ⟨?_, fun k' => if k' = i * size + c then (fun b => Sk (i * size + c) b \/ Ki σ h L b) else Sk k', fun k' x dd hx nr => ?_, fun k' b hb => ?_, fun p' q' b hp hq => ?_⟩, fun k' x dd hx nr oz => ?_⟩
 ·rw [aq, Xs _ _ _ av, bC]
 ·rw [aq] at nr
  rcases kM _ _ _ av k' dd nr with ⟨k1, k2, k3⟩ | ⟨k1, k3⟩
  ·have nH : k' = i * size + c := by simp at k2; omega
   subst nH
   rw [g6] at hx; cases hx
   simp at k3; subst k3
   simp only [if_true]; exact nY
  ·have nH : ¬ k' = i * size + c := fun nH => k1 ⟨by omega, by simp; omega⟩
   simp only [nH, if_false]
   exact (o1 k' x dd hx k3).P1 (fun b hb => pg b (fun e => nH (o3 k' _ b hb (by rw [e]; exact eR))))
 ·by_cases nH : k' = i * size + c
  ·simp only [nH, if_true] at hb
   rcases hb with hb | hb
   ·exact ⟨.inl (o2 _ b hb).1, (o2 _ b hb).2⟩
   ·exact ⟨.inr hb, fun e => nz b (r.ub t j b pr e) hb⟩
  ·simp only [nH, if_false] at hb; exact ⟨.inl (o2 k' b hb).1, (o2 k' b hb).2⟩
 ·by_cases iy : p' = i * size + c
  ·by_cases nc : q' = i * size + c
   ·rw [iy, nc]
   ·simp only [iy, if_true] at hp
    simp only [nc, if_false] at hq
    rcases hp with hp | hp
    ·rw [iy]; exact (o3 _ _ b hp hq)
    ·exact (nz b (o2 q' b hq).1 hp).elim
  ·simp only [iy, if_false] at hp
   by_cases nc : q' = i * size + c
   ·simp only [nc, if_true] at hq
    rcases hq with hq | hq
    ·rw [nc]; exact (o3 _ _ b hp hq)
    ·exact (nz b (o2 p' b hp).1 hq).elim
   ·simp only [nc, if_false] at hq; exact o3 p' q' b hp hq
 ·rw [aq] at nr
  rcases kM _ _ _ av k' dd nr with ⟨k1, k2, k3⟩ | ⟨k1, k3⟩
  ·have nH : k' = i * size + c := by simp at k2; omega
   subst nH
   rw [g6] at hx; cases hx; exact hnv
  ·exact hn k' x dd hx k3 oz
end
section
variable {P : Program} {T0 : CS} {B : Nat -> Prop} {σ : St} {a : Act} {w w' : World} {X X' : Nat -> Prop} {h : Nat -> Nat -> Hd}
def s8 (σ : St) (x : V) (size : Nat) (pW : List (List D)) (l : List (Nat × Nat)) : Prop :=
 match x with
 | .one (.nil _) => pW = [] /\ l = []
 | .one (.sref t j lo len) => lo = 0 /\ len = pW.length /\ l = [(t, j)] /\ (σ.ob t j = .arr true size pW \/ (σ.ob t j = .lit size [] /\ pW = []))
 | _ => False
end
def u5 (w : World) (res : List (List D)) (e : Ending) (w' : World) : Prop :=
 ∃ (vs : List Value) (oB : List (List Value)), e = .returned (Sw vs) /\ Below w.heap.size w w' /\ YB yC vs oB /\ YB (fun (cs : List Value) (row : List D) => cs.length = row.length) oB res /\
  KM w' oB.flatten res.flatten (fun b => w.heap.size <= b /\ b < w'.heap.size)
def Yx (P : Program) (f : FuncId) (args res : List (List D)) : Prop :=
 Ua P f = true /\ ∀ (T : CS) (w : World) (oF : List Value), (∀ b k, T b k -> b < w.heap.size) -> YB (fun v row => ∃ cs, yC v cs /\ YB (Rd T w) cs row) oF args -> Calls P f oF.toArray w (u5 w res)
theorem qV {α β : Type} {R : α -> β -> Prop} : ∀ {oB : List (List α)} {res : List (List β)}, YB (fun (cs : List α) (row : List β) => cs.length = row.length) oB res -> (∀ (k : Nat) (x : α) (d : β), oB.flatten[k]? = some x -> res.flatten[k]? = some d -> R x d) -> YB (fun cs row => YB R cs row) oB res := by
 intro oB res pV
 induction pV with
 | nil => intro _; exact .nil
 | @cons cs row oB res hl _ ih =>
  intro hk
  refine .cons (YB.xC hl (fun k x d hx hd => hk k x d ?_ ?_)) (ih (fun k x d hx hd => hk (cs.length + k) x d ?_ ?_))
  ·rw [List.flatten_cons, List.getElem?_append_left (List.getElem?_eq_some_iff.1 hx).1]; exact hx
  ·rw [List.flatten_cons, List.getElem?_append_left (List.getElem?_eq_some_iff.1 hd).1]; exact hd
  ·rw [List.flatten_cons, List.getElem?_append_right (by omega)]; simpa using hx
  ·rw [List.flatten_cons, List.getElem?_append_right (by omega), hl]; simpa using hd
theorem Yx.rd {P : Program} {f : FuncId} {args res : List (List D)} (hs : Yx P f args res) : Ql P f false args res := by
 refine ⟨hs.1, fun T w oF hT ha => (hs.2 T w oF hT ha).mono ?_⟩
 rintro e w' ⟨vs, oB, he, hb, hf, hl, ⟨_, Sk, h1, h2, h3⟩⟩
 refine ⟨vs, oB, fun b => w.heap.size <= b /\ b < w'.heap.size, he, hb, fun b hb => hb, hf, qV hl (fun k x d hx hd => ?_), fun hh => by cases hh⟩
 simp only [qC, Bool.false_eq_true, if_false]
 exact (h1 k x d hx hd).rd (fun b k' hb => .inr (h2 k b hb))
def YS : List Bool -> List D -> List Ob
 | _, [] => []
 | q :: qs, .sl size rows :: ds => .arr q size rows :: YS qs ds
 | [], .sl size rows :: ds => .arr true size rows :: YS [] ds
 | qs, _ :: ds => .none :: YS qs.tail ds
def yk : List Bool -> List D -> Prop
 | _, [] => True
 | q :: qs, .sl _ rows :: ds => (q = false -> ∀ r ∈ rows, ∀ x ∈ r, x.scalar = true) /\ yk qs ds
 | [], .sl _ _ :: ds => yk [] ds
 | qs, _ :: ds => yk qs.tail ds
theorem Yr : ∀ (qs : List Bool) (ds : List D) (k : Nat), yk qs ds -> (∀ size rows, ds[k]? = some (.sl size rows) -> ∃ q, Yo (YS qs ds) k = .arr q size rows /\ (q = false -> ∀ r ∈ rows, ∀ x ∈ r, x.scalar = true)) /\ (Yo (YS qs ds) k ≠ .none -> ∃ size rows, ds[k]? = some (.sl size rows))
 | qs, [], k, _ => ⟨fun size rows h => by simp at h, fun h => by cases qs <;> simp [YS, Yo] at h⟩
 | q :: qs, .sl size rows :: ds, 0, hf => ⟨fun s r h => by simp at h; obtain ⟨rfl, rfl⟩ := h; exact ⟨q, by simp [YS, Yo], hf.1⟩, fun _ => ⟨size, rows, by simp⟩⟩
 | [], .sl size rows :: ds, 0, hf => ⟨fun s r h => by simp at h; obtain ⟨rfl, rfl⟩ := h; exact ⟨true, by simp [YS, Yo], fun h => by cases h⟩, fun _ => ⟨size, rows, by simp⟩⟩
 | qs, .int k n :: ds, 0, hf => ⟨fun s r h => by simp at h, fun h => by cases qs <;> simp [YS, Yo] at h⟩
 | qs, .bool b :: ds, 0, hf => ⟨fun s r h => by simp at h, fun h => by cases qs <;> simp [YS, Yo] at h⟩
 | qs, .str s :: ds, 0, hf => ⟨fun s r h => by simp at h, fun h => by cases qs <;> simp [YS, Yo] at h⟩
 | qs, .unk :: ds, 0, hf => ⟨fun s r h => by simp at h, fun h => by cases qs <;> simp [YS, Yo] at h⟩
 | q :: qs, .sl size rows :: ds, k + 1, hf => by
  have := Yr qs ds k hf.2
  simpa [YS, Yo] using this
 | [], .sl size rows :: ds, k + 1, hf => by
  have := Yr [] ds k hf
  simpa [YS, Yo] using this
 | qs, .int _ _ :: ds, k + 1, hf => by
  have := Yr qs.tail ds k (by cases qs <;> exact hf)
  cases qs <;> simpa [YS, Yo] using this
 | qs, .bool _ :: ds, k + 1, hf => by
  have := Yr qs.tail ds k (by cases qs <;> exact hf)
  cases qs <;> simpa [YS, Yo] using this
 | qs, .str _ :: ds, k + 1, hf => by
  have := Yr qs.tail ds k (by cases qs <;> exact hf)
  cases qs <;> simpa [YS, Yo] using this
 | qs, .unk :: ds, k + 1, hf => by
  have := Yr qs.tail ds k (by cases qs <;> exact hf)
  cases qs <;> simpa [YS, Yo] using this
section
variable {P : Program} {T0 : CS} {B : Nat -> Prop} {σ : St} {a : Act} {w w' : World} {X X' : Nat -> Prop} {h : Nat -> Nat -> Hd}
theorem CH (r : Rel T0 B σ a w X h) {o : Oper} {c : Call} {f : FuncId} {d : Nat} {rows res : List (List D)} (qs : List Bool) (pP : o.op = .call c) (hc : c.callee = .value (.func f)) (hd : o.dst = some d) (ot : σ.fresh d = true)
  (pX : Qd P σ c.args.toList c.argTypes.toList rows) (hs : Yx P f rows res) (hq : yk qs res.flatten)
  {K : Act -> World -> Prop} {Q : Exit -> Act -> World -> Prop} (hK : ∀ a' w', KF T0 B (σ.new d (jN d res) (YS qs res.flatten)) a' w' -> XI B w w' -> K a' w') : o.wp P a w K Q := by
 have pa := St.yh ot
 unfold Oper.wp
 rw [Vl pP hc hs.1, Oper.upon_enter]
 have gd := r.Qd false pX (fun hh => by cases hh)
 simp only [Bool.false_eq_true, if_false] at gd
 refine (hs.2 (Ps T0 X h σ) w _ (fun b k hb => r.F9 hb) gd).mono ?_
 rintro e w' ⟨vs, oB, rfl, nL, oI, hlen, ⟨_, Sk, h1, h2, h3⟩⟩
 rw [hd]
 have hex : ∀ j, ∃ hd : Hd, (∀ c, oB.flatten[j]? = some c -> hd.v = c) /\ (∀ size rows, res.flatten[j]? = some (.sl size rows) -> (∀ b, hd.u b -> Sk j b) /\ (∀ b, blk hd.v = some b -> hd.u b) /\ ∀ T h ob, J3 T h ob w' hd (.arr true size rows) /\ ((∀ r ∈ rows, ∀ x ∈ r, x.scalar = true) -> J3 T h ob w' hd (.arr false size rows))) := by
  intro j
  have nJ : oB.flatten.length = res.flatten.length := by
   have := qV (R := fun _ _ => True) hlen (fun _ _ _ _ _ => trivial)
   exact (xy this).length
  cases hj : res.flatten[j]? with
  | none => exact ⟨Hd.of ((oB.flatten[j]?).getD undef), fun c oL => by simp [Hd.of, oL], fun size rows hh => by cases hh⟩
  | some dd =>
   have hR : j < oB.flatten.length := by rw [nJ]; exact (List.getElem?_eq_some_iff.1 hj).1
   have ib : oB.flatten[j]? = some oB.flatten[j] := List.getElem?_eq_getElem hR
   cases dd with
   | int k n => exact ⟨Hd.of oB.flatten[j], fun c oL => by rw [ib] at oL; cases oL; rfl, fun size rows hh => by cases hh⟩
   | bool k => exact ⟨Hd.of oB.flatten[j], fun c oL => by rw [ib] at oL; cases oL; rfl, fun size rows hh => by cases hh⟩
   | str k => exact ⟨Hd.of oB.flatten[j], fun c oL => by rw [ib] at oL; cases oL; rfl, fun size rows hh => by cases hh⟩
   | unk => exact ⟨Hd.of oB.flatten[j], fun c oL => by rw [ib] at oL; cases oL; rfl, fun size rows hh => by cases hh⟩
   | sl size rows =>
    have ho := h1 j _ _ ib hj
    generalize hv : oB.flatten[j] = v at ho
    cases ho with
    | sl v size rows S e xs gj ho hz hb hl hk gu pd =>
     refine ⟨⟨v, fun k => (xs[k]?).getD undef, Sk j⟩, fun c oL => by rw [ib, hv] at oL; cases oL; rfl, fun oA ph hh => ?_⟩
     cases hh
     refine ⟨fun b hb => hb, hb, fun T h ob => ⟨⟨e, xs, ho, hz, ⟨hl, gj, hk, fun k b hb => gu k b hb, pd⟩, fun k x d hx _ _ => by simp [hx]⟩, fun nA => ⟨e, xs, ho, hz, YB.xC hl (fun k x d hx hd => ?_)⟩⟩⟩
     obtain ⟨r0, mb, hdr⟩ := List.mem_flatten.1 (List.mem_of_getElem? hd)
     have oz := nA r0 mb d hdr
     have := hk k x d hx hd
     cases this with
     | int k n => exact .int _ _
     | bool b => exact .bool _
     | str s => exact .str _
     | unk v h => exact .unk _ h
     | sl => cases oz
 obtain ⟨hf, hC⟩ := Classical.axiomOfChoice hex
 refine hK _ _ ⟨X, fun t j => if t = d then hf j else h t j, ?_⟩ (XI.OE nL r.hB)
 have pr : ∀ j, (σ.new d (jN d res) (YS qs res.flatten)).ob d j = Yo (YS qs res.flatten) j := fun j => by rw [St.Jx]; simp [pa]
 have na : YB (fun cs row => YB (ke (Tof T0 X) w') cs row) oB res := by
  refine qV hlen (fun k x d hx hd => ?_)
  have ho := h1 k x d hx hd
  cases ho with
  | int k n => exact Rd.int _ _
  | bool b => exact Rd.bool _
  | str s => exact Rd.str _
  | unk v h => exact Rd.unk _ h
  | sl v size rows S e xs gj ho hz hb hl hk gu pd => exact ⟨e, xs, ho⟩
 refine r.new ot (Below.grownBy nL) (fun b hb => hb) (fun b hb => .inl hb) (jN d res) (Sw vs) (YS qs res.flatten) hf ?_ (fun j => ?_) (fun j b pS hb => ?_) (fun j b pS hb => ?_) (fun j j' b pS oU hb pj => ?_)
 ·exact Is (h := fun t j => if t = d then hf j else h t j) (ob := (σ.new d (jN d res) (YS qs res.flatten)).ob) (t := d) oI na (fun i size rows hi => by
   obtain ⟨q, nc, _⟩ := (Yr qs res.flatten i hq).1 size rows hi
   exact ⟨q, by rw [pr]; exact nc⟩) (fun i c hi => by simp only [if_true]; exact (hC i).1 c hi)
 ·by_cases pS : Yo (YS qs res.flatten) j = .none
  ·rw [pS]; trivial
  ·obtain ⟨size, rows, hj⟩ := (Yr qs res.flatten j hq).2 pS
   obtain ⟨q, nc, cP⟩ := (Yr qs res.flatten j hq).1 size rows hj
   rw [nc]
   have := ((hC j).2 size rows hj).2.2 (Tof T0 X) (fun t j => if t = d then hf j else h t j) (σ.new d (jN d res) (YS qs res.flatten)).ob
   cases q with
   | true => exact this.1
   | false => exact this.2 (cP rfl)
 ·obtain ⟨size, rows, hj⟩ := (Yr qs res.flatten j hq).2 pS
  exact ((hC j).2 size rows hj).2.1 b hb
 ·obtain ⟨size, rows, hj⟩ := (Yr qs res.flatten j hq).2 pS
  have := h2 j b (((hC j).2 size rows hj).1 b hb)
  exact ⟨this.1, fun hx => by have := (r.hX b hx).2; omega, this.2⟩
 ·obtain ⟨size, rows, hj⟩ := (Yr qs res.flatten j hq).2 pS
  obtain ⟨oA, ph, mO⟩ := (Yr qs res.flatten j' hq).2 oU
  exact h3 j j' b (((hC j).2 size rows hj).1 b hb) (((hC j').2 oA ph mO).1 b pj)
end
end Go.Vm
