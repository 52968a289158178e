/- An abstract machine OB the model of Go, by value, and that it is sound: part Vb. No condition. -/
import Derived.Test.YtnldgbpopofnoaaGreatVa
set_option linter.unusedVariables false
set_option linter.unusedSimpArgs false
namespace Go.Vm
open Go.RowKit
section
variable {P : Program} {T0 : CS} {B : Nat -> Prop} {σ : St} {a : Act} {w w' : World} {X X' : Nat -> Prop} {h : Nat -> Nat -> Hd}
theorem Z7.Ee {T T' : CS} {h h' : Nat -> Nat -> Hd} {ob v8 : Nat -> Nat -> Ob} (hT : ∀ b k v, T b k -> w.cell? ⟨b, k, none⟩ = some v -> w'.cell? ⟨b, k, none⟩ = some v /\ T' b k) (hc : ∀ t j, Cpt h h' ob v8 t j)
  {x : At} {v : Value} (r : Z7 T h ob w x v) : Z7 T' h' v8 w' x v := by
 obtain ⟨d, hd⟩ : ∃ d, x.ref d = false := by
  cases x with
  | sref t j lo len => exact ⟨t + 1, by simp [At.ref]⟩
  | ptr t j i c => exact ⟨t + 1, by simp [At.ref]⟩
  | bptr t c => exact ⟨t + 1, by simp [At.ref]⟩
  | fn f t => exact ⟨t + 1, by simp [At.ref]⟩
  | tref t j i c o => exact ⟨t + 1, by simp [At.ref]⟩
  | any => exact ⟨0, rfl⟩
  | d x => exact ⟨0, rfl⟩
  | nil s => exact ⟨0, rfl⟩
  | rptr r c => exact ⟨0, rfl⟩
 exact Z7.carry hT (d := d) (fun t j _ => hc t j) hd r
def kq (p : At -> Bool) : List At -> Bool
 | [] => false
 | x :: xs => p x || kq p xs
def V.HN (p : At -> Bool) : V -> Bool
 | .one x => p x
 | .agg xs => kq p xs
 | _ => false
def Lk (p : At -> Bool) : List V -> Bool
 | [] => false
 | x :: xs => x.HN p || Lk p xs
def V.J5 (p : At -> Bool) : V -> Bool
 | .tup xs => Lk p xs
 | .cnd _ x => x.HN p
 | .fix _ x => x.HN p
 | .one x => p x
 | .agg xs => kq p xs
 | .any => false
def KX (p : At -> Bool) : List Ob -> Bool
 | [] => false
 | .box cells :: os => kq p cells || KX p os
 | .lit _ rows :: os => kq p rows.flatten || KX p os
 | _ :: os => KX p os
def St.J5 (p : At -> Bool) : St -> Bool
 | [] => false
 | e :: σ => e.1.J5 p || KX p e.2 || St.J5 p σ
def At.isT (t : Nat) : At -> Bool
 | .tref u _ _ _ _ => u == t
 | _ => false
theorem y9 : ∀ (xs : List At), kq (fun _ => false) xs = false
 | [] => rfl
 | _ :: xs => by simp [kq, y9 xs]
theorem PX : ∀ (xs : List V), Lk (fun _ => false) xs = false
 | [] => rfl
 | x :: xs => by cases x <;> simp [Lk, V.HN, y9, PX xs]
theorem GP (x : V) : x.HN (fun _ => false) = false := by cases x <;> simp [V.HN, y9]
theorem yR (x : V) : x.J5 (fun _ => false) = false := by cases x <;> simp [V.J5, y9, PX, GP]
theorem qt : ∀ (os : List Ob), KX (fun _ => false) os = false
 | [] => rfl
 | o :: os => by cases o <;> simp [KX, y9, qt os]
theorem St.yR : ∀ (σ : St), St.J5 (fun _ => false) σ = false
 | [] => rfl
 | e :: σ => by simp [St.J5, Go.Vm.yR, Go.Vm.qt, St.yR σ]
theorem St.RA {p : At -> Bool} : ∀ {σ : St}, σ.J5 p = false -> ∀ t, (σ.get t).J5 p = false
 | [], _, t => by simp [St.get, V.J5]
 | e :: σ, h, 0 => by simp only [St.J5, Bool.or_eq_false_iff] at h; exact h.1.1
 | e :: σ, h, t + 1 => by
  simp only [St.J5, Bool.or_eq_false_iff] at h
  have := St.RA h.2 t
  simpa [St.get] using this
theorem Ln {p : At -> Bool} : ∀ {os : List Ob}, KX p os = false -> ∀ j, KX p [YO os j] = false
 | [], _, j => by simp [YO, KX]
 | o :: os, h, 0 => by cases o <;> simp_all [YO, KX]
 | o :: os, h, j + 1 => by
  have h2 : KX p os = false := by cases o <;> simp_all [KX]
  have := Ln h2 j
  simpa [YO] using this
theorem St.OV {p : At -> Bool} : ∀ {σ : St}, σ.J5 p = false -> ∀ t j, KX p [σ.ob t j] = false
 | [], _, t, j => by simp [St.ob, KX]
 | e :: σ, h, 0, j => by simp only [St.J5, Bool.or_eq_false_iff] at h; exact Ln h.1.2 j
 | e :: σ, h, t + 1, j => by
  simp only [St.J5, Bool.or_eq_false_iff] at h
  have := St.OV h.2 t j
  simpa [St.ob] using this
theorem OX {T T' : CS} {h h' : Nat -> Nat -> Hd} {ob v8 : Nat -> Nat -> Ob} {p : At -> Bool} (f : ∀ {x : At} {v : Value}, p x = false -> Z7 T h ob w x v -> Z7 T' h' v8 w' x v) {xs : List At} {vs : List Value} (hx : kq p xs = false)
  (r : Z2 (Z7 T h ob w) xs vs) : Z2 (Z7 T' h' v8 w') xs vs := by
 induction r with
 | nil => exact .nil
 | cons r _ ih =>
  simp only [kq, Bool.or_eq_false_iff] at hx
  exact .cons (f hx.1 r) (ih hx.2)
theorem JP.map {T T' : CS} {h h' : Nat -> Nat -> Hd} {ob v8 : Nat -> Nat -> Ob} {p : At -> Bool} (f : ∀ {x : At} {v : Value}, p x = false -> Z7 T h ob w x v -> Z7 T' h' v8 w' x v) {x : V} {v : Value} (hx : x.HN p = false)
  (r : JP T h ob w x v) : JP T' h' v8 w' x v := by
 cases x with
 | any => exact r
 | one x => exact f hx r
 | agg xs => obtain ⟨cs, e, r⟩ := r; exact ⟨cs, e, OX f hx r⟩
 | tup xs => exact r.elim
 | cnd g x => exact r.elim
 | fix u x => exact r.elim
theorem Xs.map {T T' : CS} {h h' : Nat -> Nat -> Hd} {ob v8 : Nat -> Nat -> Ob} {p : At -> Bool} (f : ∀ {x : At} {v : Value}, p x = false -> Z7 T h ob w x v -> Z7 T' h' v8 w' x v) {x : V} {v : Value} (hx : x.J5 p = false)
  (r : Xs T h ob w x v) : Xs T' h' v8 w' x v := by
 cases x with
 | any => exact r
 | one x => exact f hx r
 | agg xs => obtain ⟨cs, e, r⟩ := r; exact ⟨cs, e, OX f hx r⟩
 | tup xs =>
  obtain ⟨vs, e, r⟩ := r
  refine ⟨vs, e, ?_⟩
  clear e
  generalize vs.toList = vl at r
  simp only [V.J5] at hx
  induction r with
  | nil => exact .nil
  | cons r _ ih =>
   simp only [Lk, Bool.or_eq_false_iff] at hx
   exact .cons (JP.map f hx.1 r) (ih hx.2)
 | cnd g x => exact ⟨fun hg => JP.map f hx (r.1 hg), r.2⟩
 | fix u x => exact ⟨r.1, JP.map f hx r.2⟩
theorem QP.map {T T' : CS} {h h' : Nat -> Nat -> Hd} {ob v8 : Nat -> Nat -> Ob} {p : At -> Bool} (f : ∀ {x : At} {v : Value}, p x = false -> Z7 T h ob w x v -> Z7 T' h' v8 w' x v)
  (hT : ∀ b k v, T b k -> w.cell? ⟨b, k, none⟩ = some v -> w'.cell? ⟨b, k, none⟩ = some v /\ T' b k) {hd : Hd} {o : Ob}
  (vR : o ≠ .none -> ∀ b, blk hd.v = some b -> hd.u b) (hb : o ≠ .none -> ∀ b, hd.u b -> w'.heap[b]? = w.heap[b]?) (hx : KX p [o] = false) (r : QP T h ob w hd o) : QP T' h' v8 w' hd o := by
 cases o with
 | none => trivial
 | box cells =>
  obtain ⟨b, cs, e, hv, hh, wG⟩ := r
  simp only [KX, Bool.or_false] at hx
  exact ⟨b, cs, e, hv, by rw [hb (by simp) b (vR (by simp) b (by rw [hv]; rfl))]; exact hh, OX f hx wG⟩
 | arr q size rows =>
  have hk : ∀ {e : TypeId} {n : Nat} {xs : List Value}, w.ownsRow 0 e size hd.v n xs -> w'.ownsRow 0 e size hd.v n xs := fun ho => zj (fun b h => hb (by simp) b (vR (by simp) b h)) ho
  cases q with
  | false =>
   obtain ⟨e, xs, ho, hz, wG⟩ := r
   exact ⟨e, xs, hk ho, hz, wG.imp fun _ _ => Rd.mono hT⟩
  | true =>
   obtain ⟨e, xs, ho, hz, wG, hn⟩ := r
   exact ⟨e, xs, hk ho, hz, wG.Tt (fun b h => hb (by simp) b h.1), hn⟩
 | lit size rows =>
  obtain ⟨e, xs, ho, hz, wG⟩ := r
  simp only [KX, Bool.or_false] at hx
  exact ⟨e, xs, zj (fun b h => hb (by simp) b (vR (by simp) b h)) ho, hz, OX f hx wG⟩
def Ob.Es : Ob -> Ob -> Prop
 | .arr q s r, .arr q' s' r' => q = q' /\ s = s' /\ r.length = r'.length
 | .lit s r, .lit s' r' => s = s' /\ r.length = r'.length
 | .box _, .box _ => True
 | _, _ => False
theorem Rel.change (r : Rel T0 B σ a w X h) {t j : Nat} (wV : σ.ob t j ≠ .none) (vV : w'.heap.size = w.heap.size) (hw : ∀ k, ¬ (h t j).u k -> w'.heap[k]? = w.heap[k]?) (M : Nat -> Prop)
  (hM : ∀ b, M b -> ¬ B b /\ ¬ X b /\ b < w.heap.size /\ ∀ u i, σ.ob u i ≠ .none -> ¬ (h u i).u b) (o' : Ob) (um : (σ.ob t j).Es o') (wR : Hd) (hv : wR.v = (h t j).v) (hu : ∀ b, wR.u b -> (h t j).u b \/ M b) (vR : ∀ b, blk wR.v = some b -> wR.u b)
  (p : At -> Bool) (hp : σ.J5 p = false) (hn : (∀ u i c o, p (.tref t u i c o) = true) \/ wR.n = (h t j).n)
  (tw : QP (Tof T0 X) (fun u i => if u = t /\ i = j then wR else h u i) (σ.Zt t j o').ob w' wR o') : Rel T0 B (σ.Zt t j o') a w' X (fun u i => if u = t /\ i = j then wR else h u i) := by
 have vT : ∀ u i, ¬ (u = t /\ i = j) -> (σ.Zt t j o').ob u i = σ.ob u i := by
  intro u i wE
  rw [St.XH σ t j o' u i wV, if_neg wE]
 have vM : (σ.Zt t j o').ob t j = o' := by rw [St.XH σ t j o' t j wV]; simp
 have hT : ∀ b k v, Tof T0 X b k -> w.cell? ⟨b, k, none⟩ = some v -> w'.cell? ⟨b, k, none⟩ = some v /\ Tof T0 X b k := by
  intro b' k v wU wM
  refine ⟨?_, wU⟩
  have wE : ¬ (h t j).u b' := by
   intro uD
   have wJ := r.own t j b' wV uD
   rcases wU with wU | wU
   ·exact wJ.1 (r.hT _ _ wU)
   ·exact wJ.2.1 wU
  rw [World.cell?_of_block (hw b' wE)]; exact wM
 have mZ : ∀ u i, ((fun u i => if u = t /\ i = j then wR else h u i) u i).v = (h u i).v := by
  intro u i
  by_cases hc : u = t /\ i = j
  ·simp only [hc, and_self, if_true]; exact hv
  ·simp only [hc, if_false]
 have og : ∀ u i q size rows, (σ.Zt t j o').ob u i = .arr q size rows -> ∃ wQ, σ.ob u i = .arr q size wQ /\ wQ.length = rows.length := by
  intro u i q size rows ho
  by_cases hc : u = t /\ i = j
  ·obtain ⟨rfl, rfl⟩ := hc
   rw [vM] at ho; subst ho
   cases vI : σ.ob u i with
   | arr q0 s0 r0 => rw [vI] at um; obtain ⟨rfl, rfl, hl⟩ := um; exact ⟨r0, rfl, hl⟩
   | none => rw [vI] at um; exact um.elim
   | box c => rw [vI] at um; exact um.elim
   | lit s r => rw [vI] at um; exact um.elim
  ·rw [vT u i hc] at ho; exact ⟨rows, ho, rfl⟩
 have fv : ∀ u i size rows, (σ.Zt t j o').ob u i = .lit size rows -> ∃ wQ, σ.ob u i = .lit size wQ /\ wQ.length = rows.length := by
  intro u i size rows ho
  by_cases hc : u = t /\ i = j
  ·obtain ⟨rfl, rfl⟩ := hc
   rw [vM] at ho; subst ho
   cases vI : σ.ob u i with
   | arr q0 s0 r0 => rw [vI] at um; exact um.elim
   | none => rw [vI] at um; exact um.elim
   | box c => rw [vI] at um; exact um.elim
   | lit s r => rw [vI] at um; obtain ⟨rfl, hl⟩ := um; exact ⟨r, rfl, hl⟩
  ·rw [vT u i hc] at ho; exact ⟨rows, ho, rfl⟩
 have pY : ∀ u i cells, (σ.Zt t j o').ob u i = .box cells -> ∃ va, σ.ob u i = .box va := by
  intro u i cells ho
  by_cases hc : u = t /\ i = j
  ·obtain ⟨rfl, rfl⟩ := hc
   rw [vM] at ho; subst ho
   cases vI : σ.ob u i with
   | arr q0 s0 r0 => rw [vI] at um; exact um.elim
   | none => rw [vI] at um; exact um.elim
   | box c => exact ⟨c, rfl⟩
   | lit s r => rw [vI] at um; exact um.elim
  ·rw [vT u i hc] at ho; exact ⟨cells, ho⟩
 have at_ : ∀ {x : At} {v : Value}, p x = false -> Z7 (Tof T0 X) h σ.ob w x v -> Z7 (Tof T0 X) (fun u i => if u = t /\ i = j then wR else h u i) (σ.Zt t j o').ob w' x v := by
  intro x v pa rx
  cases x with
  | any => exact rx
  | d x => exact Rd.mono hT rx
  | nil s => exact rx
  | sref u i lo len =>
   refine ⟨rx.1, fun q size rows ho => ?_, fun size rows ho => ?_⟩
   ·obtain ⟨wQ, vI, hl⟩ := og u i q size rows ho
    rw [mZ, <- hl]; exact rx.2.1 q size wQ vI
   ·obtain ⟨wQ, vI, hl⟩ := fv u i size rows ho
    rw [mZ, <- hl]; exact rx.2.2 size wQ vI
  | ptr u i k c =>
   refine ⟨rx.1, fun q size rows ho => ?_⟩
   obtain ⟨wQ, vI, hl⟩ := og u i q size rows ho
   rw [mZ]; exact rx.2 q size wQ vI
  | bptr u c =>
   refine ⟨rx.1, fun cells ho => ?_⟩
   obtain ⟨va, vI⟩ := pY u 0 cells ho
   rw [mZ]; exact rx.2 va vI
  | fn f u =>
   refine ⟨rx.1, fun cells ho => ?_⟩
   obtain ⟨va, vI⟩ := pY u 0 cells ho
   rw [mZ]; exact rx.2 va vI
  | tref u i k c o =>
   refine ⟨rx.1, fun size rows ho => ?_⟩
   obtain ⟨wQ, vI, hl⟩ := og u i true size rows ho
   have h1 := rx.2 size wQ vI
   by_cases hc : u = t /\ i = j
   ·obtain ⟨rfl, rfl⟩ := hc
    rcases hn with hn | hn
    ·rw [hn] at pa; cases pa
    ·simp only [and_self, if_true, hn]; exact h1
   ·simp only [hc, if_false]; exact h1
  | rptr rr c =>
   obtain ⟨b, off, g, e, hk⟩ := rx
   exact ⟨b, off, g, e, fun k d hd => ⟨(hT _ _ _ (hk k d hd).2.1 (hk k d hd).1).1, (hk k d hd).2.1, Rd.mono hT (hk k d hd).2.2⟩⟩
 have vU : ∀ u i, (σ.Zt t j o').ob u i ≠ .none -> σ.ob u i ≠ .none := by
  intro u i wz
  by_cases uD : u = t /\ i = j
  ·obtain ⟨rfl, rfl⟩ := uD; exact wV
  ·rw [vT u i uD] at wz; exact wz
 refine ⟨by rw [r.size, St.Y3], r.defers, by rw [vV]; exact r.hB, fun b hb => by rw [vV]; exact r.hX b hb, r.hT, fun u uD => ?_, fun u i => ?_, fun u i b' wE wU => ?_, fun u i b' wE wU => ?_, fun u i u' i' b' wE w6 vW wm => ?_⟩
 ·rw [St.Y3] at uD
  rw [St.Xp]; exact Xs.map at_ (St.RA hp u) (r.slot u uD)
 ·by_cases hc : u = t /\ i = j
  ·obtain ⟨rfl, rfl⟩ := hc; rw [vM]; simp only [and_self, if_true]; exact tw
  ·rw [vT u i hc]
   simp only [hc, if_false]
   exact QP.map at_ hT (fun ho b => r.ub u i b ho) (fun ho b hb => hw b (fun lS => hc (r.inj u i t j b ho wV hb lS))) (St.OV hp u i) (r.obj u i)
 ·by_cases hc : u = t /\ i = j
  ·simp only [hc, and_self, if_true] at wU ⊢; exact vR b' wU
  ·simp only [hc, if_false] at wU ⊢; exact r.ub u i b' (vU u i wE) wU
 ·rw [vV]
  by_cases hc : u = t /\ i = j
  ·simp only [hc, and_self, if_true] at wU
   rcases hu b' wU with h1 | h1
   ·exact r.own t j b' wV h1
   ·have := hM b' h1; exact ⟨this.1, this.2.1, this.2.2.1⟩
  ·simp only [hc, if_false] at wU; exact r.own u i b' (vU u i wE) wU
 ·by_cases hc : u = t /\ i = j
  ·by_cases wv : u' = t /\ i' = j
   ·exact ⟨by rw [hc.1, wv.1], by rw [hc.2, wv.2]⟩
   ·simp only [hc, and_self, if_true] at vW
    simp only [wv, if_false] at wm
    rcases hu b' vW with h1 | h1
    ·have := r.inj t j u' i' b' wV (vU u' i' w6) h1 wm
     rw [hc.1, hc.2]; exact this
    ·exact absurd wm ((hM b' h1).2.2.2 u' i' (vU u' i' w6))
  ·by_cases wv : u' = t /\ i' = j
   ·simp only [wv, and_self, if_true] at wm
    simp only [hc, if_false] at vW
    rcases hu b' wm with h1 | h1
    ·have := r.inj u i t j b' (vU u i wE) wV vW h1
     rw [wv.1, wv.2]; exact this
    ·exact absurd vW ((hM b' h1).2.2.2 u i (vU u i wE))
   ·simp only [hc, if_false] at vW
    simp only [wv, if_false] at wm
    exact r.inj u i u' i' b' (vU u i wE) (vU u' i' w6) vW wm
theorem Rel.FB (r : Rel T0 B σ a w X h) {t j : Nat} (wV : σ.ob t j ≠ .none) (vV : w'.heap.size = w.heap.size) (hw : ∀ k, ¬ (h t j).u k -> w'.heap[k]? = w.heap[k]?)
  (o' : Ob) (um : (σ.ob t j).Es o') (tw : QP (Tof T0 X) h (σ.Zt t j o').ob w' (h t j) o') : Rel T0 B (σ.Zt t j o') a w' X h := by
 have hh : (fun u i => if u = t /\ i = j then h t j else h u i) = h := by
  funext u i
  by_cases hc : u = t /\ i = j
  ·simp [hc]
  ·simp [hc]
 have := r.change wV vV hw (fun _ => False) (fun _ hh => hh.elim) o' um (h t j) rfl (fun b hb => .inl hb) (fun b hb => r.ub t j b wV hb) (fun _ => false) (St.yR σ) (.inr rfl) (by rw [hh]; exact tw)
 rw [hh] at this; exact this
theorem run_store {T : TypeId} {ti : TypeInfo} (hi : P.info? T = some ti) {g o : Nat} {e : TypeId} {cur : Array Value} {val : Value} (hg : w.heap[g]? = some (.cells cur e (0, 0))) (vV : val.cells.size = P.cellsOf T) (hle : o + P.cellsOf T <= cur.size) (h1 : ∀ u ∈ val.cells.toList, u.oneCell' = true) :
  (Instr.storeAt T (.pointer (some ⟨g, o, none⟩)) val).run P w = .ok () (w.setRow g (place cur.toList o val.cells.toList).toArray) := by
 have wb := run_storeCells_at P g o e val.cells.toList 0 cur w hg (by simp; omega) h1
 have wE : ¬ val.cells.size ≠ P.cellsOf T := by omega
 simp only [Instr.storeAt, Instr.sureAddr, storeVar, Sem.run_bind, Sem.run_pure, Result.andThen_ok, Qk hi, if_neg wE]
 rw [wb]
 simp [place]
theorem Yw.setRow {B : Nat -> Prop} {g : Nat} (hg : ¬ B g) (cs : Array Value) : Yw B w (w.setRow g cs) :=
 ⟨rfl, rfl, rfl, by simp [World.setRow], fun k hk => setRow_other w g k cs (fun e => hg (e ▸ hk))⟩
theorem N8 (r : Rel T0 B σ a w X h) {o : Oper} {T : TypeId} {x y : Operand} (wA : o.op = .store T x y) (hd : o.dst = none) (ht : zz P T = true) (sM : gOf (look P σ 0 x) = true) (sN : gOf (look P σ T y) = true)
  {t c : Nat} (hx : unc (look P σ 0 x) = .one (.bptr t c)) {cells : List At} (ho : σ.ob t 0 = .box cells) (ve : (unc (look P σ T y)).flat = true) (hl : (unc (look P σ T y)).cells.length = P.cellsOf T) (hle : c + P.cellsOf T <= cells.length)
  {K : Act -> World -> Prop} {Q : Exit -> Act -> World -> Prop} (hK : ∀ a' w', QX T0 B (σ.Zt t 0 (.box (place cells c (unc (look P σ T y)).cells))) a' w' -> Yw B w w' -> K a' w') : o.wp P a w K Q := by
 obtain ⟨_, ti, _, hi, _, _⟩ := xT ht
 have ox := r.arg (P := P) 0 x hx sM
 obtain ⟨b, cs, e, hb, he, hh, wG⟩ := r.box ho ox
 have hy := qH ve (r.arg (P := P) T y rfl sN)
 have uo := hy.length
 have wq := wG.length
 have e1 : cs.toList.length = cs.size := Array.length_toList
 have e2 : (a.eval y).cells.toList.length = (a.eval y).cells.size := Array.length_toList
 have wW := run_store (P := P) (w := w) hi (o := c) (val := a.eval y) hh (by omega) (by omega) (fun u hu => by obtain ⟨x', _, tb⟩ := hy.mem hu; exact Z7.Xa tb)
 have wV : σ.ob t 0 ≠ .none := by rw [ho]; simp
 have wc : blk (h t 0).v = some b := by rw [hb]; rfl
 have hB := r.CT wV wc
 have vR := r.ub t 0 b wV wc
 unfold Oper.wp
 simp only [execOp, wA, he, Sem.run_bind, wW, Result.andThen_ok, Sem.run_pure, Oper.upon_skip, hd]
 refine hK _ _ ⟨X, h, ?_⟩ (Yw.setRow hB.1 _)
 have vb := setRow_heap w b cs (place cs.toList c (a.eval y).cells.toList).toArray e (0, 0) hh
 refine r.FB wV (by simp [World.setRow]) (fun k hk => setRow_other w b k _ (fun e => hk (e ▸ vR))) _ (by rw [ho]; trivial) ?_
 have r2 : Rel T0 B (σ.Zt t 0 (.box (place cells c (unc (look P σ T y)).cells))) a (w.setRow b (place cs.toList c (a.eval y).cells.toList).toArray) X h -> True := fun _ => trivial
 have hT : ∀ b' k v, Tof T0 X b' k -> w.cell? ⟨b', k, none⟩ = some v -> (w.setRow b (place cs.toList c (a.eval y).cells.toList).toArray).cell? ⟨b', k, none⟩ = some v /\ Tof T0 X b' k := by
  intro b' k v wU wM
  refine ⟨?_, wU⟩
  have wE : b' ≠ b := by
   rintro rfl
   rcases wU with wU | wU
   ·exact hB.1 (r.hT _ _ wU)
   ·exact hB.2.1 wU
  rw [World.cell?_of_block (setRow_other w b b' _ wE)]; exact wM
 have vT : ∀ u i, ¬ (u = t /\ i = 0) -> (σ.Zt t 0 (.box (place cells c (unc (look P σ T y)).cells))).ob u i = σ.ob u i := by
  intro u i wE
  rw [St.XH σ t 0 _ u i wV, if_neg wE]
 have vM : (σ.Zt t 0 (.box (place cells c (unc (look P σ T y)).cells))).ob t 0 = .box (place cells c (unc (look P σ T y)).cells) := by rw [St.XH σ t 0 _ t 0 wV]; simp
 have iA : ∀ u i, Cpt h h σ.ob (σ.Zt t 0 (.box (place cells c (unc (look P σ T y)).cells))).ob u i := by
  intro u i
  by_cases hu : u = t /\ i = 0
  ·obtain ⟨rfl, rfl⟩ := hu
   refine ⟨fun q size rows wY => ?_, fun size rows wY => ?_, fun wK wY => ⟨rfl, cells, ho⟩⟩
   ·rw [vM] at wY; cases wY
   ·rw [vM] at wY; cases wY
  ·exact Cpt.same rfl (vT u i hu)
 have at_ : ∀ {x : At} {v : Value}, Z7 (Tof T0 X) h σ.ob w x v -> Z7 (Tof T0 X) h (σ.Zt t 0 (.box (place cells c (unc (look P σ T y)).cells))).ob (w.setRow b (place cs.toList c (a.eval y).cells.toList).toArray) x v := fun rx => Z7.Ee hT iA rx
 refine ⟨b, _, e, hb, vb, ?_⟩
 have := (wG.place c hy).imp (fun _ _ => at_)
 simpa using this
end
end Go.Vm
namespace Go.Vm
open Go.RowKit
section
variable {P : Program} {T0 : CS} {B : Nat -> Prop} {σ : St} {a : Act} {w w' : World} {X X' : Nat -> Prop} {h : Nat -> Nat -> Hd}
theorem Kp {α : Type} (size c : Nat) (ds : List α) (hc : c + ds.length <= size) : ∀ (rows : List (List α)) (i : Nat) (row : List α), rows[i]? = some row -> (∀ r ∈ rows, r.length = size) ->
  (rows.set i (place row c ds)).flatten = place rows.flatten (i * size + c) ds
 | [], i, row, hr, _ => by simp at hr
 | r0 :: rows, 0, row, hr, hz => by
  simp at hr; subst hr
  have h0 : r0.length = size := hz r0 (by simp)
  simp only [List.set_cons_zero, List.flatten_cons, place, Nat.zero_mul, Nat.zero_add]
  rw [List.take_append_of_le_length (by omega), List.drop_append_of_le_length (by omega)]
  simp
 | r0 :: rows, i + 1, row, hr, hz => by
  have h0 : r0.length = size := hz r0 (by simp)
  have ih := Kp size c ds hc rows i row (by simpa using hr) (fun r hr => hz r (by simp [hr]))
  rw [List.set_cons_succ, List.flatten_cons, ih, List.flatten_cons]
  unfold place
  have e1 : (i + 1) * size + c = r0.length + (i * size + c) := by rw [h0, Nat.add_mul]; omega
  have e2 : (i + 1) * size + c + ds.length = r0.length + (i * size + c + ds.length) := by rw [h0, Nat.add_mul]; omega
  rw [e2, e1, List.take_length_add_append, List.drop_length_add_append]
  simp
theorem Tx {α : Type} (l : List α) (n off : Nat) (xs : List α) (hl : off + xs.length <= n) (hn : n <= l.length) : (place l off xs).take n = place (l.take n) off xs := by
 unfold place
 rw [List.take_take, Nat.min_eq_left (by omega), List.drop_take]
 rw [List.take_append, List.take_append]
 simp only [List.length_append, List.length_take]
 rw [Nat.min_eq_left (by omega), List.take_of_length_le (l := List.take off l) (by simp; omega), List.take_of_length_le (l := xs) (by omega)]
theorem xr {α : Type} (l : List α) (o : Nat) (xs : List α) (hl : o + xs.length <= l.length) (k : Nat) (v : α) (hv : (place l o xs)[k]? = some v) :
  (o <= k /\ k < o + xs.length /\ xs[k - o]? = some v) \/ (¬ (o <= k /\ k < o + xs.length) /\ l[k]? = some v) := by
 unfold place at hv
 have h1 : (l.take o).length = o := by simp; omega
 rcases Nat.lt_or_ge k o with hk | hk
 ·rw [List.append_assoc, List.getElem?_append_left (by omega), List.getElem?_take, if_pos hk] at hv
  exact .inr ⟨by omega, hv⟩
 ·rw [List.append_assoc, List.getElem?_append_right (by omega), h1] at hv
  rcases Nat.lt_or_ge (k - o) xs.length with p8 | p8
  ·rw [List.getElem?_append_left p8] at hv
   exact .inl ⟨hk, by omega, hv⟩
  ·rw [List.getElem?_append_right p8, List.getElem?_drop] at hv
   refine .inr ⟨by omega, ?_⟩
   rw [show o + xs.length + (k - o - xs.length) = k by omega] at hv; exact hv
theorem Ox (r : Rel T0 B σ a w X h) {o : Oper} {T : TypeId} {x y : Operand} (wA : o.op = .store T x y) (hd : o.dst = none) (ht : zz P T = true) (sM : gOf (look P σ 0 x) = true) (sN : gOf (look P σ T y) = true)
  {t j i c : Nat} (hx : unc (look P σ 0 x) = .one (.ptr t j i c)) {q : Bool} {size : Nat} {rows : List (List D)} (ho : σ.ob t j = .arr q size rows) (hi : i < rows.length) {ds : List D} (ve : (unc (look P σ T y)).flat = true) (sw : rowOf σ (unc (look P σ T y)).cells = some ds) (wb : JZ (unc (look P σ T y)).cells = true)
  (hl : ds.length = P.cellsOf T) (hle : c + P.cellsOf T <= size) (hq : q = true -> (∀ d ∈ ds, d.scalar = true) /\ ∀ k d, k < P.cellsOf T -> (rows.getD i [])[c + k]? = some d -> d.scalar = true)
  {K : Act -> World -> Prop} {Q : Exit -> Act -> World -> Prop} (hK : ∀ a' w', QX T0 B (σ.Zt t j (.arr q size (rows.set i (place (rows.getD i []) c ds)))) a' w' -> Yw B w w' -> K a' w') : o.wp P a w K Q := by
 obtain ⟨_, ti, _, mT, _, _⟩ := xT ht
 have ox := r.arg (P := P) 0 x hx sM
 obtain ⟨b, cap, cur, e, xs, hb, he, hh, vn, uO, uI, u4, hz, sF, wG, wJ⟩ := r.arr ho ox
 have hy := qH ve (r.arg (P := P) T y rfl sN)
 have oE := r.rowOf true sw hy (fun _ => wb)
 simp only [if_true] at oE
 have uo := oE.length
 have e2 : (a.eval y).cells.toList.length = (a.eval y).cells.size := Array.length_toList
 have e3 : cur.toList.length = cur.size := Array.length_toList
 have wh : rows[i]? = some (rows.getD i []) := by simp [List.getD_eq_getElem?_getD, List.getElem?_eq_getElem hi]
 have hmul : i * size + size <= rows.length * size := by rw [<- Nat.succ_mul]; exact Nat.mul_le_mul_right _ hi
 have oF : rows.length * size <= cap * size := Nat.mul_le_mul_right _ vn
 have wW := run_store (P := P) (w := w) mT (o := i * size + c) (val := a.eval y) hh (by omega) (by omega) (fun u hu => by obtain ⟨x', _, tb⟩ := hy.mem hu; exact Z7.Xa tb)
 have wV : σ.ob t j ≠ .none := by rw [ho]; simp
 have wc : blk (h t j).v = some b := by rw [hb]; rfl
 have hB := r.CT wV wc
 have vR := r.ub t j b wV wc
 unfold Oper.wp
 simp only [execOp, wA, he, Sem.run_bind, wW, Result.andThen_ok, Sem.run_pure, Oper.upon_skip, hd]
 refine hK _ _ ⟨X, h, ?_⟩ (Yw.setRow hB.1 _)
 refine r.FB wV (by simp [World.setRow]) (fun k hk => setRow_other w b k _ (fun e => hk (e ▸ vR))) _ (by rw [ho]; simp [Ob.Es]) ?_
 have vb := setRow_heap w b cur (place cur.toList (i * size + c) (a.eval y).cells.toList).toArray e (0, 0) hh
 have hT : ∀ b' k v, Tof T0 X b' k -> w.cell? ⟨b', k, none⟩ = some v -> (w.setRow b (place cur.toList (i * size + c) (a.eval y).cells.toList).toArray).cell? ⟨b', k, none⟩ = some v /\ Tof T0 X b' k := by
  intro b' k v wU wM
  refine ⟨?_, wU⟩
  have wE : b' ≠ b := by
   rintro rfl
   rcases wU with wU | wU
   ·exact hB.1 (r.hT _ _ wU)
   ·exact hB.2.1 wU
  rw [World.cell?_of_block (setRow_other w b b' _ wE)]; exact wM
 have pT : xs.length = rows.length * size := by rw [sF, YL rows size hz]
 have tu : (rows.getD i []).length = size := hz _ (List.mem_of_getElem? wh)
 have w7 : (w.setRow b (place cur.toList (i * size + c) (a.eval y).cells.toList).toArray).ownsRow 0 e size (h t j).v (rows.set i (place (rows.getD i []) c ds)).length (place xs (i * size + c) (a.eval y).cells.toList) := by
  refine ⟨?_, .inr ⟨b, cap, _, by simpa using hb, Nat.zero_le _, vb, by simpa using vn, uO, ?_, ?_⟩⟩
  ·rw [XF _ _ _ (by omega), pT]; simp
  ·simp only [List.size_toArray]
   rw [XF _ _ _ (by omega), e3, uI]
  ·simp only [List.length_set]
   rw [Tx _ _ _ _ (by omega) (by omega), u4]
 have ur : ∀ r ∈ rows.set i (place (rows.getD i []) c ds), r.length = size := by
  intro r' vS
  rcases List.mem_or_eq_of_mem_set vS with vS | vS
  ·exact hz r' vS
  ·rw [vS, XF _ _ _ (by omega), tu]
 cases q with
 | false =>
  refine ⟨e, _, w7, ur, ?_⟩
  rw [Kp size c ds (by omega) rows i _ wh hz]
  exact ((wG rfl).imp fun _ _ => Rd.mono hT).place _ (oE.imp fun _ _ => Rd.mono hT)
 | true =>
  obtain ⟨⟨_, Sk, h1, h2, h3⟩, hn⟩ := wJ rfl
  obtain ⟨gA, eh⟩ := hq rfl
  have wM : ∀ k u, (place xs (i * size + c) (a.eval y).cells.toList)[k]? = some u -> (i * size + c <= k /\ k < i * size + c + ds.length /\ (a.eval y).cells.toList[k - (i * size + c)]? = some u) \/ (¬ (i * size + c <= k /\ k < i * size + c + ds.length) /\ xs[k]? = some u) := by
   intro k u hu
   exact xr xs _ _ (by omega) k u hu |>.imp (fun hh => ⟨hh.1, by omega, hh.2.2⟩) (fun hh => ⟨by rw [<- uo]; exact hh.1, hh.2⟩)
  have sf : ∀ k d, (rows.set i (place (rows.getD i []) c ds)).flatten[k]? = some d -> (i * size + c <= k /\ k < i * size + c + ds.length /\ ds[k - (i * size + c)]? = some d) \/ (¬ (i * size + c <= k /\ k < i * size + c + ds.length) /\ rows.flatten[k]? = some d) := by
   intro k d uC
   rw [Kp size c ds (by omega) rows i _ wh hz] at uC
   exact xr _ _ _ (by rw [YL rows size hz]; omega) k d uC
  refine ⟨e, _, w7, ur, ⟨?_, Sk, fun k u d hu uC => ?_, h2, h3⟩, fun k u d hu uC vf => ?_⟩
  ·rw [XF _ _ _ (by omega), sF, YL rows size hz, YL _ size ur]; simp
  ·rcases wM k u hu with ⟨p1, p2, p3⟩ | ⟨p1, p3⟩
   ·rcases sf k d uC with ⟨_, _, p4⟩ | ⟨p4, _⟩
    ·obtain ⟨d', wR, vS⟩ := oE.get _ _ p3
     rw [p4] at wR; cases wR
     have hs := gA d (List.mem_of_getElem? p4)
     cases vS with
     | int k n => exact .int _ _ _
     | bool b => exact .bool _ _
     | str s => exact .str _ _
     | unk v h => exact .unk _ h _
     | nil => simp [D.scalar] at hs
     | sl => simp [D.scalar] at hs
    ·exact absurd ⟨p1, p2⟩ p4
   ·rcases sf k d uC with ⟨p4, p5, _⟩ | ⟨_, p4⟩
    ·exact absurd ⟨p4, p5⟩ p1
    ·refine (h1 k u d p3 p4).Tt (fun b' wU => setRow_other w b b' _ ?_)
     rintro rfl
     exact (h2 k b' wU).2 wc
  ·rcases sf k d uC with ⟨p4, p5, p6⟩ | ⟨p4, p6⟩
   ·have := gA d (List.mem_of_getElem? p6)
    rw [vf] at this; cases this
   ·rcases wM k u hu with ⟨p1, p2, _⟩ | ⟨_, p3⟩
    ·exact absurd ⟨p1, p2⟩ p4
    ·exact hn k u d p3 p6 vf
end
end Go.Vm
namespace Go.Vm
open Go.RowKit
section
variable {P : Program} {T0 : CS} {B : Nat -> Prop} {σ : St} {a : Act} {w w' : World} {X X' : Nat -> Prop} {h : Nat -> Nat -> Hd}
theorem R1 (t ty e e0 : TypeId) (i : TypeInfo) (ht : P.underlying t = some (.slice e)) (hi : P.info? e = some i)
  (g sh oh : Nat) (cur : Array Value) (hg : w.heap[g]? = some (.cells cur e0 (0, 0)))
  (a : Addr) (m c : Nat) (news : List Value) (hl : news.length = m * i.size) (uZ : ∀ j u, news[j]? = some u -> w.cell? (a.add j) = some u) (h1 : ∀ u ∈ news, u.oneCell' = true)
  (sE : sh + m <= oh) (oo : sh * i.size + news.length <= cur.size) :
  (Builtin.append_ #[t, t] ty #[.slice (some ⟨g, 0, none⟩) sh oh, .slice (some a) m c]).run P w =
   .ok (.slice (some ⟨g, 0, none⟩) (sh + m) oh) (w.setRow g (cur.toList.take (sh * i.size) ++ news ++ cur.toList.drop (sh * i.size + news.length)).toArray) := by
 have hf := run_firstCells_some (P := P) w i.size m a m c news hl uZ
 have wb := run_storeCells_at P g (sh * i.size) e0 news 0 cur w hg (by simpa using oo) h1
 simp only [Nat.add_zero] at wb
 simp [Builtin.append_, run_underlying ht, sizeOf, typeInfo, hi, Builtin.lenOf, sE, hf, Addr.add_lit, wb]
theorem Uz (t ty e e0 : TypeId) (i : TypeInfo) (z : Value) (ht : P.underlying t = some (.slice e)) (hi : P.info? e = some i) (hz : i.zero = some z)
  (si : z.cells.size = i.size) (vV : 0 < i.size) (v : Value) (n : Nat) (xs : List Value) (wJ : w.ownsRow 0 e0 i.size v n xs)
  (a : Addr) (m c : Nat) (news : List Value) (hl : news.length = m * i.size) (uZ : ∀ j u, news[j]? = some u -> w.cell? (a.add j) = some u) (h1 : ∀ u ∈ news, u.oneCell' = true)
  (iM : n + m <= maxLen) (v7 : (n + m) * i.bytes <= 140737488355328) :
  ∃ v' w' e1, (Builtin.append_ #[t, t] ty #[v, .slice (some a) m c]).run P w = .ok v' w' /\ w'.ownsRow 0 e1 i.size v' (n + m) (xs ++ news) /\ w.grownBy w' (blk v) /\
   (∀ b, blk v' = some b -> (w.heap.size <= b /\ b < w'.heap.size) \/ blk v = some b) := by
 have hlen : (xs ++ news).length = (n + m) * i.size := by rw [List.length_append, wJ.1, hl, Nat.add_mul]
 rcases wJ.2 with ⟨rfl, rfl⟩ | ⟨g, cap, cur, rfl, _, hg, tU, pt, uI, mW⟩
 ·have hx : xs = [] := List.eq_nil_of_length_eq_zero (by simpa using wJ.1)
  subst hx
  obtain ⟨v', w', hr, ho, ua, _⟩ := run_append_own (P := P) w w.heap.size t ty e i z i.size i.bytes ht hi hz rfl rfl si vV (.slice none 0 0) 0 [] (World.ownsRow_nil w _ e i.size) a m c news hl uZ h1 iM v7 (Nat.le_refl _)
  refine ⟨v', w', e, hr, ?_, ua, fun b hb => .inl ?_⟩
  ·refine ⟨ho.1, ho.2.imp id ?_⟩
   rintro ⟨g, cap, cur, hv, _, rest⟩
   exact ⟨g, cap, cur, hv, Nat.zero_le _, rest⟩
  ·have wU : v'.ownBlock = some b := by
    cases v' with
    | slice o l c => cases o with
     | none => simp [blk] at hb
     | some ad => simpa [blk, Value.ownBlock] using hb
    | pointer o => rcases ho.2 with ⟨hv, _⟩ | ⟨g, cap, cur, hv, _⟩ <;> cases hv
    | _ => simp [blk] at hb
   exact ho.lt b wU
 ·by_cases sE : n + m <= cap
  ·have oo : n * i.size + news.length <= cur.size := by rw [hl, uI, <- Nat.add_mul]; exact Nat.mul_le_mul_right _ sE
   have hr := R1 (P := P) (w := w) t ty e e0 i ht hi g n cap cur hg a m c news hl uZ h1 sE oo
   refine ⟨_, _, e0, hr, ⟨hlen, .inr ⟨g, cap, _, rfl, Nat.zero_le _, setRow_heap w g cur _ e0 _ hg, sE, pt, ?_, ?_⟩⟩, ⟨rfl, rfl, rfl, by simp [World.setRow], fun k _ hk => setRow_other w g k _ (fun e => hk (by simp [blk, e]))⟩, fun b hb => .inr (by simpa [blk] using hb)⟩
   ·simp only [List.size_toArray, List.length_append, List.length_take, List.length_drop, Array.length_toList]
    omega
   ·rw [mW, <- hlen]
    exact List.take_left
  ·have holds : ∀ j u, xs[j]? = some u -> w.cell? ((⟨g, 0, none⟩ : Addr).add j) = some u := wJ.cells (g := g) rfl
   have iS : n + m <= 9223372036854775807 := by simp only [maxLen] at iM; omega
   have hr := run_append_grow (P := P) w t ty e i z ht hi hz ⟨g, 0, none⟩ n cap xs wJ.1 holds a m c news hl uZ (by omega) (by omega) (growslice_fits (by omega) v7)
   have u9 := grownCap_ge w (n + m) cap e
   have iT : grownCap w (n + m) cap e <= maxLen := grownCap_le_maxLen w (n + m) cap e iM
   refine ⟨_, _, e, hr, ⟨hlen, .inr ⟨w.heap.size, _, _, rfl, Nat.zero_le _, heap_alloc_new w.drew _, u9, iT, ?_, ?_⟩⟩, ⟨rfl, rfl, rfl, by simp, fun k hk _ => (World.grownBy_alloc w.drew _ none).block k hk (by simp)⟩, fun b hb => .inl ?_⟩
   ·simp only [Array.size_append, List.size_toArray, size_zeroCells, si, wJ.1, hl, <- Nat.add_mul]
    congr 1
    omega
   ·simp only [Array.toList_append, List.append_assoc]
    rw [<- List.append_assoc, <- hlen]
    exact List.take_left
   ·simp [blk] at hb; subst hb; simp
theorem je (t ty e : TypeId) (i : TypeInfo) (ht : P.underlying t = some (.slice e)) (hi : P.info? e = some i) (base : Option Addr) (n cap : Nat) (tU : n <= cap) (hb : base = none -> cap = 0) :
  (Builtin.append_ #[t, t] ty #[.slice base n cap, .slice none 0 0]).run P w = .ok (.slice base n cap) w := by
 cases base with
 | none =>
  have := hb rfl; subst this
  have : n = 0 := by omega
  subst this
  simp [Builtin.append_, run_underlying ht, sizeOf, typeInfo, hi, Builtin.lenOf, Builtin.firstCells]
 | some ad => simp [Builtin.append_, run_underlying ht, sizeOf, typeInfo, hi, Builtin.lenOf, Builtin.firstCells, tU, storeCells]
theorem Rel.less (r : Rel T0 B σ a w X h) {σ' : St} (hl : σ'.length = σ.length) (vK : ∀ t, σ'.get t = σ.get t) (hk : ∀ t j, σ'.ob t j ≠ .none -> σ'.ob t j = σ.ob t j) : Rel T0 B σ' a w X h := by
 have back : ∀ t j o, σ'.ob t j = o -> o ≠ .none -> σ.ob t j = o := by
  intro t j o ho wE
  rw [<- hk t j (by rw [ho]; exact wE)]; exact ho
 have at_ : ∀ {x : At} {v : Value}, (fun _ : At => false) x = false -> Z7 (Tof T0 X) h σ.ob w x v -> Z7 (Tof T0 X) h σ'.ob w x v := by
  intro x v _ rx
  cases x with
  | any => exact rx
  | d x => exact rx
  | nil s => exact rx
  | sref u i lo len => exact ⟨rx.1, fun q size rows ho => rx.2.1 q size rows (back u i _ ho (by simp)), fun size rows ho => rx.2.2 size rows (back u i _ ho (by simp))⟩
  | ptr u i k c => exact ⟨rx.1, fun q size rows ho => rx.2 q size rows (back u i _ ho (by simp))⟩
  | bptr u c => exact ⟨rx.1, fun cells ho => rx.2 cells (back u 0 _ ho (by simp))⟩
  | fn f u => exact ⟨rx.1, fun cells ho => rx.2 cells (back u 0 _ ho (by simp))⟩
  | tref u i k c o => exact ⟨rx.1, fun size rows ho => rx.2 size rows (back u i _ ho (by simp))⟩
  | rptr rr c => exact rx
 have vU : ∀ u i, σ'.ob u i ≠ .none -> σ.ob u i ≠ .none := fun u i hn => by rw [<- hk u i hn]; exact hn
 refine ⟨by rw [r.size, hl], r.defers, r.hB, r.hX, r.hT, fun u hu => ?_, fun u i => ?_, fun u i b hn => r.ub u i b (vU u i hn), fun u i b hn => r.own u i b (vU u i hn), fun u i u' i' b hn wz => r.inj u i u' i' b (vU u i hn) (vU u' i' wz)⟩
 ·rw [vK u]; exact Xs.map at_ (yR _) (r.slot u (by omega))
 ·by_cases hn : σ'.ob u i = .none
  ·rw [hn]; trivial
  ·rw [hk u i hn]
   exact QP.map at_ (fun b k v hb hc => ⟨hc, hb⟩) (fun ho b => r.ub u i b ho) (fun _ _ _ => rfl) (qt _) (r.obj u i)
theorem St.kv (σ : St) (t j u i : Nat) : (σ.Zt t j .none).ob u i = if u = t /\ i = j then .none else σ.ob u i := by
 by_cases wV : σ.ob t j = .none
 ·have key : ∀ (σ : St) (t u : Nat), σ.ob t j = .none -> (σ.Zt t j .none).ob u i = σ.ob u i := by
   intro σ
   induction σ with
   | nil => intro t u _; simp [St.Zt]
   | cons e σ ih =>
    intro t u ho
    cases t with
    | zero => cases u with
     | zero =>
      simp only [St.Zt, St.ob, List.getElem?_cons_zero, I6] at ho ⊢
      split
      ·rename_i hh; rw [hh.1, ho]
      ·rfl
     | succ u => simp [St.Zt, St.ob]
    | succ t => cases u with
     | zero => simp [St.Zt, St.ob]
     | succ u =>
      have := ih t u (by simpa [St.ob] using ho)
      simp only [St.ob, St.Zt] at this ⊢; simpa using this
  rw [key σ t u wV]
  split
  ·rename_i hh; rw [hh.1, hh.2]; exact wV
  ·rfl
 ·exact St.XH σ t j _ u i wV
theorem Rel.drop (r : Rel T0 B σ a w X h) (t j : Nat) : Rel T0 B (σ.Zt t j .none) a w X h := by
 refine r.less (St.Y3 _ _ _ _) (fun u => St.Xp _ _ _ _ u) (fun u i hn => ?_)
 rw [St.kv] at hn ⊢
 split
 ·rename_i hh; rw [if_pos hh] at hn; exact absurd rfl hn
 ·rfl
def St.Z0 : St -> List (Nat × Nat) -> St
 | σ, [] => σ
 | σ, p :: l => St.Z0 (σ.Zt p.1 p.2 .none) l
theorem St.JS : ∀ (l : List (Nat × Nat)) (σ : St), (σ.Z0 l).length = σ.length
 | [], σ => rfl
 | p :: l, σ => by rw [St.Z0, St.JS l, St.Y3]
theorem St.zJ : ∀ (l : List (Nat × Nat)) (σ : St) (t : Nat), (σ.Z0 l).get t = σ.get t
 | [], σ, t => rfl
 | p :: l, σ, t => by rw [St.Z0, St.zJ l, St.Xp]
theorem St.JM : ∀ (l : List (Nat × Nat)) (σ : St) (t j : Nat), (σ.Z0 l).ob t j = if (t, j) ∈ l then .none else σ.ob t j
 | [], σ, t, j => by simp [St.Z0]
 | p :: l, σ, t, j => by
  rw [St.Z0, St.JM l, St.kv]
  by_cases h1 : (t, j) ∈ l
  ·simp [h1]
  ·by_cases h2 : t = p.1 /\ j = p.2
   ·have : (t, j) = p := by rw [h2.1, h2.2]
    rw [if_neg h1, if_pos h2, if_pos (by rw [this]; simp)]
   ·have : ¬ (t, j) = p := fun e => h2 (by rw [<- e]; exact ⟨rfl, rfl⟩)
    simp [h1, h2, this]
theorem Rel.Z0 (r : Rel T0 B σ a w X h) (l : List (Nat × Nat)) : Rel T0 B (σ.Z0 l) a w X h := by
 refine r.less (St.JS l σ) (St.zJ l σ) (fun u i hn => ?_)
 rw [St.JM] at hn ⊢
 split
 ·rename_i hh; rw [if_pos hh] at hn; exact absurd rfl hn
 ·rfl
end
end Go.Vm
namespace Go.Vm
open Go.RowKit
section
variable {P : Program} {T0 : CS} {B : Nat -> Prop} {σ : St} {a : Act} {w w' : World} {X X' : Nat -> Prop} {h : Nat -> Nat -> Hd}
theorem yS {T : TypeId} (hz : Xy P T = true) : ∃ i z row, P.info? T = some i /\ i.zero = some z /\ qF P 12 T = some row /\ i.size = row.length /\ z.cells.size = i.size /\ i.size = P.cellsOf T /\ (∀ T' h ob w, Z2 (Z7 T' h ob w) row z.cells.toList) := by
 have ud : ∃ row, qF P 12 T = some row := by
  unfold Xy at hz
  split at hz
  ·rename_i row i hr hi; exact ⟨row, hr⟩
  ·cases hz
 obtain ⟨row, hr⟩ := ud
 obtain ⟨i, z, hi, sC, vV, wG⟩ := MA hz hr
 refine ⟨i, z, row, hi, sC, hr, vV, ?_, by simp [Program.cellsOf, hi], wG⟩
 have := (wG (fun _ _ => True) (fun _ _ => Hd.of undef) (fun _ _ => .none) default).length
 have e1 : z.cells.toList.length = z.cells.size := Array.length_toList
 omega
def xt (σ : St) (x : V) (size : Nat) (news : List (List D)) : Prop :=
 match x with
 | .one (.d (.sl s rows)) => s = size /\ news = rows
 | .one (.nil _) => news = []
 | .one (.sref t j lo len) => ∃ rows, σ.ob t j = .arr false size rows /\ lo + len <= rows.length /\ news = cut rows lo len
 | _ => False
def VK (σ : St) (x : V) (size : Nat) (wH : List (List D)) (σ1 : St) : Prop :=
 match x with
 | .one (.nil _) => wH = [] /\ σ1 = σ
 | .one (.sref t j lo len) => ∃ rows, σ.ob t j = .arr false size rows /\ lo = 0 /\ len <= rows.length /\ wH = rows.take len /\ σ1 = σ.Zt t j .none
 | _ => False
theorem Wd (v : Value) (n : Nat) : blk (PY v n) = blk v := by
 cases v with
 | slice o _ _ => cases o <;> rfl
 | _ => rfl
theorem qg (rows : List (List D)) (size : Nat) (hz : ∀ r ∈ rows, r.length = size) (len : Nat) (hle : len <= rows.length) : (rows.take len).flatten = rows.flatten.take (len * size) := by
 induction rows generalizing len with
 | nil => simp
 | cons r rows ih =>
  cases len with
  | zero => simp
  | succ len =>
   have h1 := hz r (by simp)
   have h2 := ih (fun q hq => hz q (by simp [hq])) len (by simpa using hle)
   have h3 : (len + 1) * size = r.length + len * size := by rw [Nat.add_mul, h1]; omega
   rw [List.take_succ_cons, List.flatten_cons, List.flatten_cons, h2, h3, List.take_length_add_append]
theorem q9 {e : TypeId} {size : Nat} {v : Value} {n len : Nat} {xs : List Value} (ho : w.ownsRow 0 e size v n xs) (hle : len <= n) : w.ownsRow 0 e size (PY v len) len (xs.take (len * size)) := by
 have hm : len * size <= n * size := Nat.mul_le_mul_right _ hle
 refine ⟨by rw [List.length_take, ho.1]; omega, ?_⟩
 rcases ho.2 with ⟨rfl, rfl⟩ | ⟨g, cap, cur, rfl, hx, hg, tU, pt, uI, u4⟩
 ·have : len = 0 := by omega
  subst this
  exact .inl ⟨rfl, rfl⟩
 ·refine .inr ⟨g, cap, cur, rfl, hx, hg, by omega, pt, uI, ?_⟩
  rw [<- u4, List.take_take]
  congr 1
  omega
theorem Le (r : Rel T0 B σ a w X h) {x : V} {v : Value} {size : Nat} {news : List (List D)} (hs : xt σ x size news) (hv : Xs (Tof T0 X) h σ.ob w x v) :
  (∀ n ∈ news, n.length = size) /\ ((v = .slice none 0 0 /\ news = []) \/ ∃ ad c xs, v = .slice (some ad) news.length c /\ (∀ j u, xs[j]? = some u -> w.cell? (ad.add j) = some u) /\ Z2 (Rd (Tof T0 X) w) xs news.flatten) := by
 unfold xt at hs
 split at hs
 ·rename_i s rows
  obtain ⟨rfl, rfl⟩ := hs
  refine ⟨Mp (show Rd _ _ _ _ from hv), ?_⟩
  cases (show Rd _ _ _ _ from hv) with
  | nil => exact .inl ⟨rfl, rfl⟩
  | sl ad len cap s rows g hl hc hm hz sv hg hr =>
   refine .inr ⟨ad, cap, (List.range news.flatten.length).map g, by rw [hl], fun j u hu => ?_, ?_⟩
   ·rw [List.getElem?_map] at hu
    rcases Nat.lt_or_ge j news.flatten.length with hj | hj
    ·rw [List.getElem?_range hj] at hu
     cases hu
     have wE : news.flatten ≠ [] := by intro he; rw [he] at hj; simp at hj
     have := (hg j _ (List.getElem?_eq_getElem hj)).1
     obtain ⟨b, off, sp⟩ := ad
     have := sv wE
     simp at this; subst this
     rw [xC]; assumption
    ·rw [List.getElem?_eq_none (by simpa using hj)] at hu; cases hu
   ·refine Z2.Ku (by simp) (fun k u d hu hd => ?_)
    rw [List.getElem?_map] at hu
    have hk := (List.getElem?_eq_some_iff.1 hd).1
    rw [List.getElem?_range hk] at hu
    cases hu
    exact hr k d hd
 ·subst hs
  exact ⟨(by intro n hn; cases hn), .inl ⟨hv, rfl⟩⟩
 ·rename_i t j lo len
  obtain ⟨rows, ho, hle, rfl⟩ := hs
  have h0 := r.obj t j
  rw [ho] at h0
  obtain ⟨e, xs, ⟨hl, wJ⟩, hz, wG⟩ := h0
  refine ⟨fun x hx => hz x (List.mem_of_mem_drop (List.mem_of_mem_take hx)), ?_⟩
  have sP : Z7 (Tof T0 X) h σ.ob w (.sref t j lo len) v := hv
  obtain ⟨_, _, _, base, cap, rfl, vn, _, pH, hb⟩ := sP.2.1 _ size rows ho
  have wq : (cut rows lo len).length = len := Xl _ _ _ hle
  by_cases vY : 0 < len
  ·obtain ⟨b, sD, hh, rfl⟩ := hb vY
   rcases wJ with ⟨hn, _⟩ | ⟨g, pe, cur, sP, _, iJ, tU, uO, uI, u4⟩
   ·rw [hh] at hn; cases hn
   ·rw [hh] at sP; cases sP
    refine .inr ⟨_, cap, cut xs (lo * size) (len * size), by rw [wq], fun j u hu => ?_, ?_⟩
    ·have h1 := yJ _ _ _ _ _ hu
     rw [xC]
     refine Km iJ _ _ ?_
     rw [<- u4, List.getElem?_take] at h1
     split at h1
     ·exact h1
     ·cases h1
    ·have pT : xs.length = rows.length * size := by rw [wG.length, YL rows size hz]
     have hmul : lo * size + len * size <= rows.length * size := by rw [<- Nat.add_mul]; exact Nat.mul_le_mul_right _ hle
     refine Z2.Ku ?_ (fun k u d hu hd => ?_)
     ·rw [Xl _ _ _ (by omega), YL (cut rows lo len) size (fun x hx => hz x (List.mem_of_mem_drop (List.mem_of_mem_take hx))), wq]
     ·have h1 := yJ _ _ _ _ _ hu
      have h2 := yg rows size lo len hz k d hd
      obtain ⟨d', wR, hr⟩ := wG.get _ _ h1
      rw [h2] at wR; cases wR
      exact hr
  ·have : len = 0 := by omega
   subst this
   have tD : cut rows lo 0 = [] := by simp [cut]
   rw [tD]
   cases base with
   | none => have := pH rfl; subst this; exact .inl ⟨rfl, rfl⟩
   | some ad => exact .inr ⟨ad, cap, [], rfl, by simp, .nil⟩
 ·exact hs.elim
theorem L1 (r : Rel T0 B σ a w X h) {o : Oper} {t : TypeId} {x y : Operand} {d : Nat} {wH news : List (List D)} {σ1 : St} (wA : o.op = .call ⟨.builtin .append, #[x, y], #[t, t]⟩) (hd : o.dst = some d)
  (sM : gOf (look P σ t x) = true) (sN : gOf (look P σ t y) = true) (ht : XC P t = true) (hz : Xy P (ZP P t) = true) (vY : 0 < P.cellsOf (ZP P t))
  (uV : VK σ (unc (look P σ t x)) (P.cellsOf (ZP P t)) wH σ1) (tO : xt σ (unc (look P σ t y)) (P.cellsOf (ZP P t)) news) (w8 : σ1.fresh d = true)
  (v7 : (wH.length + news.length) * P.bytesOf (ZP P t) <= 140737488355328) (oq : wH.length + news.length <= 9223372036854775807)
  {K : Act -> World -> Prop} {Q : Exit -> Act -> World -> Prop} (hK : ∀ a' w', QX T0 B (σ1.new d (.one (.sref d 0 0 (wH.length + news.length))) [.arr false (P.cellsOf (ZP P t)) (wH ++ news)]) a' w' -> Yw B w w' -> K a' w') : o.wp P a w K Q := by
 obtain ⟨ti, hu, hi, tE⟩ := XV ht
 obtain ⟨i, z, row, vq, sC, ud, tP, si, uP, ug⟩ := yS hz
 rw [hi] at vq; cases vq
 have ot : P.bytesOf (ZP P t) = ti.bytes := by simp [Program.bytesOf, hi]
 rw [ot] at v7
 rw [<- uP] at uV tO vY hK
 have pg := r.arg (P := P) t x rfl sM
 have m9 := r.arg (P := P) t y rfl sN
 obtain ⟨mU, vf⟩ := Le r tO m9
 have vv : ∃ e0 xs, w.ownsRow 0 e0 ti.size (a.eval x) wH.length xs /\ (∀ q ∈ wH, q.length = ti.size) /\ Z2 (Rd (Tof T0 X) w) xs wH.flatten /\ Rel T0 B σ1 a w X h /\
   (∀ b, blk (a.eval x) = some b -> ¬ B b /\ ¬ X b /\ b < w.heap.size /\ ∀ u j, σ1.ob u j ≠ .none -> ¬ (h u j).u b) := by
  unfold VK at uV
  split at uV
  ·rename_i s heq
   obtain ⟨rfl, rfl⟩ := uV
   rw [heq] at pg
   have he : a.eval x = .slice none 0 0 := pg
   rw [he]
   exact ⟨0, [], World.ownsRow_nil w 0 0 _, (by intro q hq; cases hq), .nil, r, (fun b hb => by cases hb)⟩
  ·rename_i u j lo len heq
   obtain ⟨rows, ho, rfl, hle, rfl, rfl⟩ := uV
   rw [heq] at pg
   have oy : Z7 (Tof T0 X) h σ.ob w (.sref u j 0 len) (a.eval x) := pg
   obtain ⟨_, _, uE, _⟩ := oy.2.1 _ _ _ ho
   have he : a.eval x = PY (h u j).v len := uE rfl
   have h0 := r.obj u j
   rw [ho] at h0
   obtain ⟨e, xs, wJ, uM, wG⟩ := h0
   have wV : σ.ob u j ≠ .none := by rw [ho]; simp
   have rQ : (rows.take len).length = len := by rw [List.length_take]; omega
   have ve : (rows.take len).flatten = rows.flatten.take (len * ti.size) := qg rows ti.size uM len hle
   refine ⟨e, xs.take (len * ti.size), by rw [he, rQ]; exact q9 wJ hle, fun q hq => uM q (List.mem_of_mem_take hq), by rw [ve]; exact wG.take _, r.drop u j, fun b hb => ?_⟩
   rw [he, Wd] at hb
   have rj := r.ub u j b wV hb
   have w7 := r.own u j b wV rj
   refine ⟨w7.1, w7.2.1, w7.2.2, fun u' j' wE wU => ?_⟩
   have sZ : σ.ob u' j' ≠ .none := by
    intro hh
    rw [St.XH σ u j _ u' j' wV] at wE
    split at wE
    ·exact wE rfl
    ·exact wE hh
   have := r.inj u j u' j' b wV sZ rj wU
   obtain ⟨rfl, rfl⟩ := this
   rw [St.XH σ u j _ u j wV] at wE
   simp at wE
  ·exact uV.elim
 obtain ⟨e0, xs, wJ, iN, ou, r1, wc⟩ := vv
 have oz : ∀ q ∈ wH ++ news, q.length = ti.size := by
  intro q hq
  rcases List.mem_append.1 hq with hq | hq
  ·exact iN q hq
  ·exact mU q hq
 have key : ∀ (v' : Value) (w' : World) (e1 : TypeId) (ys : List Value), (Builtin.append_ #[t, t] o.type #[a.eval x, a.eval y]).run P w = .ok v' w' -> w'.ownsRow 0 e1 ti.size v' (wH.length + news.length) (xs ++ ys) ->
   Z2 (Rd (Tof T0 X) w) ys news.flatten -> w.grownBy w' (blk (a.eval x)) -> (∀ b, blk v' = some b -> (w.heap.size <= b /\ b < w'.heap.size) \/ blk (a.eval x) = some b) -> o.wp P a w K Q := by
  intro v' w' e1 ys wW wY pB ua oD
  have wO := St.JT w8
  have hT : ∀ b k v, Tof T0 X b k -> w.cell? ⟨b, k, none⟩ = some v -> w'.cell? ⟨b, k, none⟩ = some v /\ Tof T0 X b k := by
   intro b k v hb wM
   refine ⟨?_, hb⟩
   have wE : some b ≠ blk (a.eval x) := by
    intro e
    have h1 := wc b e.symm
    rcases hb with hb | hb
    ·exact h1.1 (r.hT b k hb)
    ·exact h1.2.1 hb
   rw [World.cell?_of_block (ua.block b (r.Tlt hb) wE)]; exact wM
  unfold Oper.wp
  have pD : (execOp a.eval o).run P w = .ok (.value v') w' := by
   simp only [execOp, wA, resolve, invoke, builtin, Sem.run_bind, Sem.run_pure, Result.andThen_ok, List.map_toArray, List.map_cons, List.map_nil, wW]
  rw [pD, Oper.upon_value, hd]
  refine hK _ _ ⟨X, fun u j => if u = d then Hd.of v' else h u j, ?_⟩ ⟨ua.os, ua.tape, ua.output, ua.size, fun k hk => ua.block k (r.hB k hk) (fun e => (wc k e.symm).1 hk)⟩
  have vA : (σ1.new d (.one (.sref d 0 0 (wH.length + news.length))) [.arr false ti.size (wH ++ news)]).ob d 0 = .arr false ti.size (wH ++ news) := by rw [St.QE]; simp [wO, YO]
  have vE : w'.ownsRow 0 e1 ti.size v' (wH ++ news).length (xs ++ ys) := by rw [List.length_append]; exact wY
  have sG : Z2 (Rd (Tof T0 X) w') (xs ++ ys) (wH ++ news).flatten := by
   rw [List.flatten_append]
   exact (ou.imp fun _ _ => Rd.mono hT).append (pB.imp fun _ _ => Rd.mono hT)
  refine r1.GR w8 (fun b => blk (a.eval x) = some b) ua.size (fun k hk wE => ua.block k hk (fun e => wE e.symm)) (fun b hb => ⟨(wc b hb).1, (wc b hb).2.1, fun u j _ wE => (wc b hb).2.2.2 u j wE⟩) (fun _ hb => hb) (fun _ hb => .inl hb) _ _ [.arr false ti.size (wH ++ news)] (fun _ => Hd.of v') ?_ (fun j => ?_) (fun j b _ hb => hb) (fun j b wE wU => ?_) (fun j j' b wE w6 _ _ => ?_)
  ·refine ⟨Qe wY, fun q' wX wS hh => ?_, fun wX wS hh => by rw [vA] at hh; cases hh⟩
   rw [vA] at hh; cases hh
   simp only [if_true, List.length_append]
   have := jB vE
   rwa [List.length_append] at this
  ·cases j with
   | zero => exact ⟨e1, xs ++ ys, vE, oz, sG⟩
   | succ j => simp [YO, QP]
  ·rcases oD b wU with h1 | h1
   ·exact ⟨.inl h1.1, fun hx => by have := (r.hX b hx).2; omega, h1.2⟩
   ·have h2 := wc b h1
    exact ⟨.inr h1, h2.2.1, by have := ua.size; omega⟩
  ·have : ∀ j, YO [Ob.arr false ti.size (wH ++ news)] j ≠ .none -> j = 0 := by
    intro j hj
    cases j with
    | zero => rfl
    | succ j => simp [YO] at hj
   rw [this j wE, this j' w6]
 rcases vf with ⟨mX, rfl⟩ | ⟨ad, c, ys, mX, wM, pB⟩
 ·have wo : ∃ base cap, a.eval x = .slice base wH.length cap /\ wH.length <= cap /\ (base = none -> cap = 0) := by
   rcases wJ.2 with ⟨h1, h2⟩ | ⟨g, cap, cur, h1, _, _, tU, _⟩
   ·exact ⟨none, 0, by rw [h1, h2], by omega, fun _ => rfl⟩
   ·exact ⟨_, cap, h1, tU, (fun hh => by cases hh)⟩
  obtain ⟨base, cap, hex, tU, mS⟩ := wo
  refine key (a.eval x) w e0 [] ?_ (by simpa using wJ) .nil ⟨rfl, rfl, rfl, Nat.le_refl _, fun _ _ _ => rfl⟩ (fun b hb => .inr hb)
  rw [hex, mX]
  exact je t o.type _ ti hu hi base wH.length cap tU mS
 ·have uo : ys.length = news.length * ti.size := by rw [pB.length, YL news ti.size mU]
  obtain ⟨v', w', e1, wW, wY, ua, oD⟩ := Uz (P := P) (w := w) t o.type _ e0 ti z hu hi sC si (by omega) (a.eval x) wH.length xs wJ ad news.length c ys uo wM
   (fun u uD => by
    obtain ⟨k, hk⟩ := List.mem_iff_getElem?.1 uD
    obtain ⟨d', _, vS⟩ := pB.get k u hk
    exact Rd.Xa vS) (by simp only [maxLen]; omega) v7
  refine key v' w' e1 ys ?_ wY pB ua oD
  rw [mX]; exact wW
end
end Go.Vm
namespace Go.Vm
open Go.RowKit
section
variable {P : Program} {T0 : CS} {B : Nat -> Prop} {σ : St} {a : Act} {w w' : World} {X X' : Nat -> Prop} {h : Nat -> Nat -> Hd}
def Se (P : Program) (σ : St) (T : TypeId) (size : Nat) : List (Nat × Operand) -> Nat -> List (List D) -> Prop
 | [], _, rs => rs = []
 | (i, x) :: ps, k, rs => i = k /\ gOf (look P σ T x) = true /\ (unc (look P σ T x)).flat = true /\ JZ (unc (look P σ T x)).cells = true /\
   ∃ r rest, rowOf σ (unc (look P σ T x)).cells = some r /\ r.length = size /\ Se P σ T size ps (k + 1) rest /\ rs = r :: rest
theorem PH {α : Type} (l : List α) (o : Nat) (xs ys : List α) (hl : o + (xs ++ ys).length <= l.length) : place (place l o xs) (o + xs.length) ys = place l o (xs ++ ys) := by
 simp only [List.length_append] at hl
 unfold place
 have h1 : (l.take o ++ xs).length = o + xs.length := by simp; omega
 have h2 : (l.take o ++ xs ++ l.drop (o + xs.length)).take (o + xs.length) = l.take o ++ xs := by
  rw [List.take_append_of_le_length (by omega), List.take_of_length_le (by omega)]
 have h3 : (l.take o ++ xs ++ l.drop (o + xs.length)).drop (o + xs.length + ys.length) = l.drop (o + (xs ++ ys).length) := by
  rw [show o + xs.length + ys.length = (l.take o ++ xs).length + ys.length by omega, List.drop_length_add_append, List.drop_drop]
  congr 1; simp; omega
 rw [h2, h3]; simp
theorem RW (r : Rel T0 B σ a w X h) (T : TypeId) (size : Nat) : ∀ (ps : List (Nat × Operand)) (k : Nat) (rs : List (List D)) (cells : Array Value), Se P σ T size ps k rs -> (k + ps.length) * size <= cells.size ->
   ∃ wK ys, Instr.fill (fun i => some (i * size, size)) cells (ps.map fun x => (x.1, a.eval x.2)) = some wK /\ wK.toList = place cells.toList (k * size) ys /\ Z2 (Rd (Tof T0 X) w) ys rs.flatten /\ (∀ q ∈ rs, q.length = size) /\ rs.length = ps.length
 | [], k, rs, cells, hb, _ => by cases hb; exact ⟨cells, [], rfl, by simp [place], .nil, (by intro q hq; cases hq), rfl⟩
 | (i, x) :: ps, k, rs, cells, hb, hl => by
  obtain ⟨rfl, hg, hf, wb, r0, rest, tG, hlen, hb, rfl⟩ := hb
  have hx := qH hf (r.arg (P := P) T x rfl hg)
  have oE := r.rowOf true tG hx (fun _ => wb)
  simp only [if_true] at oE
  have pb := oE.length
  have e1 : cells.toList.length = cells.size := Array.length_toList
  have e2 : (a.eval x).cells.toList.length = (a.eval x).cells.size := Array.length_toList
  have hmul : (i + (ps.length + 1)) * size = i * size + size + ps.length * size := by rw [Nat.add_mul, Nat.add_mul]; omega
  simp only [List.length_cons] at hl
  have heq := Vk (i * size) (a.eval x).cells cells (by omega)
  have tP : ((a.eval x).cells.zipIdx.foldl (fun cs x => cs.setIfInBounds (i * size + x.2) x.1) cells).size = cells.size := by
   rw [<- Array.length_toList, heq, XF _ _ _ (by omega), e1]
  have ma : (i + 1 + ps.length) * size = i * size + size + ps.length * size := by rw [Nat.add_mul, Nat.add_mul]; omega
  obtain ⟨wK, ys, h1, h2, h3, h4, h5⟩ := RW r T size ps (i + 1) rest _ hb (by rw [tP]; omega)
  have uo : ys.length = ps.length * size := by rw [h3.length, YL rest size h4, h5]
  refine ⟨wK, (a.eval x).cells.toList ++ ys, ?_, ?_, ?_, ?_, by simp [h5]⟩
  ·simp only [List.map_cons, Instr.fill]
   rw [if_neg (by simp; omega)]
   exact h1
  ·rw [h2, heq]
   rw [show (i + 1) * size = i * size + (a.eval x).cells.toList.length by rw [Nat.add_mul]; omega]
   exact PH _ _ _ _ (by simp; omega)
  ·rw [List.flatten_cons]; exact oE.append h3
  ·intro q hq
   rcases List.mem_cons.1 hq with rfl | hq
   ·exact hlen
   ·exact h4 q hq
theorem Rv (r : Rel T0 B σ a w X h) {o : Oper} {T : TypeId} {n : Nat} {parts : Array (Nat × Operand)} {d : Nat} {rows : List (List D)} (wA : o.op = .buildSlice T n parts) (hd : o.dst = some d) (w8 : σ.fresh d = true)
  (ht : XC P T = true) (hz : Xy P (ZP P T) = true) (vY : 0 < P.cellsOf (ZP P T)) (hn : parts.toList.length = n) (hZ : n * P.cellsOf (ZP P T) <= 16777216) (hb : Se P σ (ZP P T) (P.cellsOf (ZP P T)) parts.toList 0 rows)
  {K : Act -> World -> Prop} {Q : Exit -> Act -> World -> Prop} (hK : ∀ a' w', QX T0 B (σ.new d (.one (.sref d 0 0 rows.length)) [.arr false (P.cellsOf (ZP P T)) rows]) a' w' -> Yw B w w' -> K a' w') : o.wp P a w K Q := by
 obtain ⟨ti, hu, hi, tE⟩ := XV ht
 obtain ⟨i, z, row, vq, sC, ud, tP, si, uP, ug⟩ := yS hz
 rw [hi] at vq; cases vq
 have uY : (zeroValue (ZP P T)).run P w = .ok z w := by simp [zeroValue, typeInfo, hi, sC]
 obtain ⟨zero, hzero⟩ : ∃ zero : Array Value, (n * P.cellsOf (ZP P T) = 0 -> zero = #[]) /\ (¬ n * P.cellsOf (ZP P T) = 0 -> zero = z.cells) := by
  by_cases h0 : n * P.cellsOf (ZP P T) = 0
  ·exact ⟨#[], fun _ => rfl, fun hh => absurd h0 hh⟩
  ·exact ⟨z.cells, fun hh => absurd hh h0, fun _ => rfl⟩
 obtain ⟨wK, ys, h1, h2, h3, h4, h5⟩ := RW r (ZP P T) (P.cellsOf (ZP P T)) parts.toList 0 rows ((Array.range (n * P.cellsOf (ZP P T))).map (zero[· % zero.size]!)) hb (by simp [hn])
 have uo : ys.length = n * P.cellsOf (ZP P T) := by rw [h3.length, YL rows _ h4, h5, hn]
 have wq : wK.toList = ys := by
  rw [h2]
  unfold place
  simp [uo]
 have u5 : (parts.map fun (x : Nat × Operand) => (x.1, a.eval x.2)).toList = parts.toList.map fun x => (x.1, a.eval x.2) := by simp
 have wW : (execOp a.eval o).run P w = .ok (.value (.slice (some ⟨w.heap.size, 0, none⟩) n n)) (w.alloc (.cells wK (ZP P T))) := by
  have tC : ¬ (n * P.cellsOf (ZP P T) > 2 ^ 24) := by omega
  by_cases h0 : n * P.cellsOf (ZP P T) = 0
  ·have sK := hzero.1 h0
   subst sK
   simp only [execOp, wA, Instr.buildSlice, Sem.run_bind, run_underlying hu, Result.andThen_ok, Qk hi, if_neg tC, if_pos h0, u5, h1, newRow, Sem.run_pure, run_newObj_alloc]
  ·have sK := hzero.2 h0
   subst sK
   simp only [execOp, wA, Instr.buildSlice, Sem.run_bind, run_underlying hu, Result.andThen_ok, Qk hi, if_neg tC, if_neg h0, uY, u5, h1, newRow, Sem.run_pure, run_newObj_alloc]
 unfold Oper.wp
 rw [wW, Oper.upon_value, hd]
 have hlen : rows.length = n := by rw [h5, hn]
 have hT : ∀ b k v, Tof T0 X b k -> w.cell? ⟨b, k, none⟩ = some v -> (w.alloc (.cells wK (ZP P T))).cell? ⟨b, k, none⟩ = some v /\ Tof T0 X b k := by
  intro b k v hb wM
  refine ⟨?_, hb⟩
  rw [World.cell?_of_block ((World.grownBy_alloc w (.cells wK (ZP P T)) none).block b (r.Tlt hb) (by simp))]; exact wM
 have pE : wK.size = n * P.cellsOf (ZP P T) := by rw [<- Array.length_toList, wq, uo]
 have uO : n <= maxLen := by
  have : n <= n * P.cellsOf (ZP P T) := Nat.le_mul_of_pos_right _ vY
  simp only [maxLen]; omega
 have := r.Ek w8 (World.grownBy_alloc w (.cells wK (ZP P T)) none) (.slice (some ⟨w.heap.size, 0, none⟩) n n) (size := P.cellsOf (ZP P T)) (rows := rows)
  ⟨ZP P T, ys, ⟨by rw [uo, hlen], .inr ⟨w.heap.size, n, wK, by rw [hlen], Nat.zero_le _, heap_alloc_new w _, by omega, uO, pE, by rw [wq, hlen, List.take_of_length_le (by omega)]⟩⟩, h4, h3.imp fun _ _ => Rd.mono hT⟩
  (fun b hb => by simp [blk] at hb; subst hb; exact ⟨Nat.le_refl _, by simp⟩)
 exact hK _ _ this.1 this.2
theorem Iv (r : Rel T0 B σ a w X h) {o : Oper} {T : TypeId} {n : Nat} {parts : Array (Nat × Operand)} {d : Nat} {rows : List (List D)} (wA : o.op = .buildSlice T n parts) (hd : o.dst = some d)
  (ht : XC P T = true) (hz : Xy P (ZP P T) = true) (vY : 0 < P.cellsOf (ZP P T)) (hn : parts.toList.length = n) (hZ : n * P.cellsOf (ZP P T) <= 16777216) (hb : Se P σ (ZP P T) (P.cellsOf (ZP P T)) parts.toList 0 rows)
  {K : Act -> World -> Prop} {Q : Exit -> Act -> World -> Prop} (hK : ∀ a' w', QX T0 B (σ.put d (.one (.d (.sl (P.cellsOf (ZP P T)) rows)))) a' w' -> Yw B w w' -> K a' w') : o.wp P a w K Q := by
 obtain ⟨ti, hu, hi, tE⟩ := XV ht
 obtain ⟨i, z, row, vq, sC, ud, tP, si, uP, ug⟩ := yS hz
 rw [hi] at vq; cases vq
 have uY : (zeroValue (ZP P T)).run P w = .ok z w := by simp [zeroValue, typeInfo, hi, sC]
 obtain ⟨zero, hzero⟩ : ∃ zero : Array Value, (n * P.cellsOf (ZP P T) = 0 -> zero = #[]) /\ (¬ n * P.cellsOf (ZP P T) = 0 -> zero = z.cells) := by
  by_cases h0 : n * P.cellsOf (ZP P T) = 0
  ·exact ⟨#[], fun _ => rfl, fun hh => absurd h0 hh⟩
  ·exact ⟨z.cells, fun hh => absurd hh h0, fun _ => rfl⟩
 obtain ⟨wK, ys, h1, h2, h3, h4, h5⟩ := RW r (ZP P T) (P.cellsOf (ZP P T)) parts.toList 0 rows ((Array.range (n * P.cellsOf (ZP P T))).map (zero[· % zero.size]!)) hb (by simp [hn])
 have uo : ys.length = n * P.cellsOf (ZP P T) := by rw [h3.length, YL rows _ h4, h5, hn]
 have wq : wK.toList = ys := by
  rw [h2]
  unfold place
  simp [uo]
 have u5 : (parts.map fun (x : Nat × Operand) => (x.1, a.eval x.2)).toList = parts.toList.map fun x => (x.1, a.eval x.2) := by simp
 have wW : (execOp a.eval o).run P w = .ok (.value (.slice (some ⟨w.heap.size, 0, none⟩) n n)) (w.alloc (.cells wK (ZP P T))) := by
  have tC : ¬ (n * P.cellsOf (ZP P T) > 2 ^ 24) := by omega
  by_cases h0 : n * P.cellsOf (ZP P T) = 0
  ·have sK := hzero.1 h0
   subst sK
   simp only [execOp, wA, Instr.buildSlice, Sem.run_bind, run_underlying hu, Result.andThen_ok, Qk hi, if_neg tC, if_pos h0, u5, h1, newRow, Sem.run_pure, run_newObj_alloc]
  ·have sK := hzero.2 h0
   subst sK
   simp only [execOp, wA, Instr.buildSlice, Sem.run_bind, run_underlying hu, Result.andThen_ok, Qk hi, if_neg tC, if_neg h0, uY, u5, h1, newRow, Sem.run_pure, run_newObj_alloc]
 unfold Oper.wp
 rw [wW, Oper.upon_value, hd]
 have hlen : rows.length = n := by rw [h5, hn]
 have rO := World.grownBy_alloc w (.cells wK (ZP P T)) none
 have r2 := r.grow (X' := fun b => X b \/ b = w.heap.size) rO (fun b hb => .inl hb) (fun b hb => hb.imp id (fun hh => by subst hh; exact ⟨Nat.le_refl _, by simp⟩))
 have hT : ∀ b k v, Tof T0 X b k -> w.cell? ⟨b, k, none⟩ = some v -> (w.alloc (.cells wK (ZP P T))).cell? ⟨b, k, none⟩ = some v /\ Tof T0 (fun b => X b \/ b = w.heap.size) b k := by
  intro b k v hb wM
  refine ⟨?_, hb.imp id .inl⟩
  rw [World.cell?_of_block (rO.block b (r.Tlt hb) (by simp))]; exact wM
 have pE : wK.size = n * P.cellsOf (ZP P T) := by rw [<- Array.length_toList, wq, uo]
 have uO : n <= maxLen := by
  have : n <= n * P.cellsOf (ZP P T) := Nat.le_mul_of_pos_right _ vY
  simp only [maxLen]; omega
 refine hK _ _ ⟨_, _, r2.put d _ _ ?_⟩ (Yw.Wy rO r.hB)
 exact FM (e := ZP P T) (xs := ys) ⟨by rw [uo, hlen], .inr ⟨w.heap.size, n, wK, by rw [hlen], Nat.zero_le _, heap_alloc_new w _, by omega, uO, pE, by rw [wq, hlen, List.take_of_length_le (by omega)]⟩⟩ h4 (fun b k hb => by simp [blk] at hb; subst hb; exact .inr (.inr rfl)) (h3.imp fun _ _ => Rd.mono hT)
def zD : List At -> Option (List D)
 | [] => some []
 | .d x :: xs => (zD xs).map (x :: ·)
 | .nil s :: xs => (zD xs).map (.sl s [] :: ·)
 | _ => none
theorem Ig {T : CS} {ob : Nat -> Nat -> Ob} : ∀ {xs : List At} {ds : List D} {vs : List Value}, zD xs = some ds -> Z2 (Z7 T h ob w) xs vs -> Z2 (Rd T w) vs ds
 | [], ds, vs, hz, wG => by cases wG; simp [zD] at hz; subst hz; exact .nil
 | x :: xs, ds, vs, hz, wG => by
  cases wG with
  | cons hx wG =>
   cases x with
   | d x =>
    simp only [zD, Option.map_eq_some_iff] at hz
    obtain ⟨rF, ur, rfl⟩ := hz
    exact .cons hx (Ig ur wG)
   | nil s =>
    simp only [zD, Option.map_eq_some_iff] at hz
    obtain ⟨rF, ur, rfl⟩ := hz
    cases hx
    exact .cons (.nil _) (Ig ur wG)
   | any => simp [zD] at hz
   | sref => simp [zD] at hz
   | ptr => simp [zD] at hz
   | bptr => simp [zD] at hz
   | fn => simp [zD] at hz
   | rptr => simp [zD] at hz
   | tref => simp [zD] at hz
theorem xQ {α : Type} (z : List α) (n k : Nat) (hk : k < n * z.length) : (List.replicate n z).flatten[k]? = z[k % z.length]? := by
 induction n generalizing k with
 | zero => simp at hk
 | succ n ih =>
  rw [List.replicate_succ, List.flatten_cons]
  rcases Nat.lt_or_ge k z.length with wO | u9
  ·rw [List.getElem?_append_left wO, Nat.mod_eq_of_lt wO]
  ·rw [List.getElem?_append_right u9, ih (k - z.length) (by rw [Nat.add_mul] at hk; omega)]
   congr 1
   rw [Nat.mod_eq_sub_mod u9]
theorem Pp (r : Rel T0 B σ a w X h) {o : Oper} {T : TypeId} {x : Operand} {d : Nat} {k : IntKind} {n : Nat} {z : List At} {zr : List D} (wA : o.op = .makeSlice T x x) (hd : o.dst = some d) (w8 : σ.fresh d = true)
  (ht : XC P T = true) (hz : Xy P (ZP P T) = true) (ud : qF P 12 (ZP P T) = some z) (m7 : zD z = some zr) (vY : 0 < P.cellsOf (ZP P T)) (hx : jm P σ x k (n : Int)) (ot : P.bytesOf (ZP P T) * n <= 281474976710656) (oq : n <= 9223372036854775807)
  {K : Act -> World -> Prop} {Q : Exit -> Act -> World -> Prop} (hK : ∀ a' w', QX T0 B (σ.new d (.one (.sref d 0 0 n)) [.arr false (P.cellsOf (ZP P T)) (List.replicate n zr)]) a' w' -> Yw B w w' -> K a' w') : o.wp P a w K Q := by
 obtain ⟨ti, hu, hi, tE⟩ := XV ht
 obtain ⟨i, zv, row, vq, sC, pC, tP, si, uP, ug⟩ := yS hz
 rw [hi] at vq; cases vq
 rw [ud] at pC; cases pC
 have hex := zH r hx
 have o0 : (ti.bytes : Int) * (n : Int) <= 281474976710656 := by
  have : P.bytesOf (ZP P T) = ti.bytes := by simp [Program.bytesOf, hi]
  rw [this] at ot
  have h : ((ti.bytes * n : Nat) : Int) <= 281474976710656 := by omega
  rwa [Int.natCast_mul] at h
 have wW := run_make (P := P) w T (ZP P T) ti zv hu hi sC k k n n (by omega) (Int.le_refl _) o0 (by omega)
 simp only [Int.toNat_natCast] at wW
 unfold Oper.wp
 simp only [execOp, wA, hex, Sem.run_bind, wW, Result.andThen_ok, Sem.run_pure, Oper.upon_value, hd]
 have ph := Ig m7 (ug (Tof T0 X) h σ.ob w)
 have fx := ph.length
 have e1 : zv.cells.toList.length = zv.cells.size := Array.length_toList
 have sj : zr.length = ti.size := by omega
 have hT : ∀ b k v, Tof T0 X b k -> w.cell? ⟨b, k, none⟩ = some v -> (w.alloc (.cells (madeCells zv.cells (n * ti.size)) (ZP P T))).cell? ⟨b, k, none⟩ = some v /\ Tof T0 X b k := by
  intro b k v hb wM
  refine ⟨?_, hb⟩
  rw [World.cell?_of_block ((World.grownBy_alloc w (.cells (madeCells zv.cells (n * ti.size)) (ZP P T)) none).block b (r.Tlt hb) (by simp))]; exact wM
 have u6 : (madeCells zv.cells (n * ti.size)).toList.length = n * ti.size := by rw [Array.length_toList, size_madeCells]
 have pF : ∀ q u, (madeCells zv.cells (n * ti.size)).toList[q]? = some u -> zv.cells.toList[q % ti.size]? = some u := by
  intro q u hq
  have wO : q < n * ti.size := by have := (List.getElem?_eq_some_iff.1 hq).1; omega
  have o5 : q % ti.size < zv.cells.size := by rw [si]; exact Nat.mod_lt _ (by omega)
  have : (madeCells zv.cells (n * ti.size)).toList[q]? = some (zv.cells[q % zv.cells.size]!) := by
   simp [madeCells, wO]
  rw [this] at hq
  cases hq
  rw [si]
  simp [o5]
 have sG : Z2 (Rd (Tof T0 X) w) (madeCells zv.cells (n * ti.size)).toList (List.replicate n zr).flatten := by
  refine Z2.Ku (by rw [u6, YL _ ti.size (by intro q hq; rw [List.eq_of_mem_replicate hq]; exact sj)]; simp) (fun q u dd hq uC => ?_)
  have wO : q < n * ti.size := by have := (List.getElem?_eq_some_iff.1 hq).1; omega
  rw [xQ zr n q (by rw [sj]; exact wO), sj] at uC
  obtain ⟨d', wR, vS⟩ := ph.get _ _ (pF q u hq)
  rw [uC] at wR; cases wR
  exact vS
 have := r.Ek w8 (World.grownBy_alloc w (.cells (madeCells zv.cells (n * ti.size)) (ZP P T)) none) (.slice (some ⟨w.heap.size, 0, none⟩) n n) (size := P.cellsOf (ZP P T)) (rows := List.replicate n zr)
  ⟨ZP P T, (madeCells zv.cells (n * ti.size)).toList, ⟨by rw [u6, uP]; simp, .inr ⟨w.heap.size, n, _, by simp, Nat.zero_le _, heap_alloc_new w _, by simp, by simp only [maxLen]; omega, by rw [size_madeCells, uP], by rw [List.take_of_length_le (by rw [u6, uP]; simp)]⟩⟩,
   (by intro q hq; rw [List.eq_of_mem_replicate hq]; omega), sG.imp fun _ _ => Rd.mono hT⟩
  (fun b hb => by simp [blk] at hb; subst hb; exact ⟨Nat.le_refl _, by simp⟩)
 rw [List.length_replicate] at this
 exact hK _ _ this.1 this.2
end
end Go.Vm
namespace Go.Vm
open Go.RowKit
def Jn (l : List UInt8) : List (List D) := l.map fun b => [D.int .u8 (b.toNat : Int)]
def Sc (P : Program) (t : TypeId) : Bool := match P.underlying t with
 | some (.slice e) => (match P.underlying e with | some (.int .u8) => true | _ => false)
 | _ => false
theorem PK {P : Program} {t : TypeId} (ht : Sc P t = true) : ∃ e, P.underlying t = some (.slice e) /\ P.underlying e = some (.int .u8) := by
 unfold Sc at ht
 split at ht
 ·rename_i e he
  split at ht
  ·rename_i h2; exact ⟨e, he, h2⟩
  ·cases ht
 ·cases ht
theorem Wt (l : List UInt8) : (Jn l).flatten = l.map fun b => D.int .u8 (b.toNat : Int) := by
 induction l with
 | nil => rfl
 | cons b l ih => simp only [Jn, List.map_cons, List.flatten_cons] at ih ⊢; rw [ih]; rfl
section
variable {P : Program} {T0 : CS} {B : Nat -> Prop} {σ : St} {a : Act} {w w' : World} {X X' : Nat -> Prop} {h : Nat -> Nat -> Hd}
theorem TK (r : Rel T0 B σ a w X h) {o : Oper} {S T : TypeId} {x : Operand} {l : List UInt8} (wA : o.op = .convert S T x) (hg : gOf (look P σ S x) = true) (hS : Sc P S = true) (hT : VX P T = true)
  (tO : xt σ (unc (look P σ S x)) 1 (Jn l)) : ∃ val, (execOp a.eval o).run P w = .ok (.value val) w /\ Xs (Tof T0 X) h σ.ob w (.one (.d (.str ⟨l.toArray⟩))) val := by
 obtain ⟨e, hs, he⟩ := PK hS
 have hv := r.arg (P := P) S x rfl hg
 obtain ⟨_, vf⟩ := Le r tO hv
 refine ⟨.string ⟨l.toArray⟩, ?_, .str _⟩
 rcases vf with ⟨hex, tD⟩ | ⟨ad, c, xs, hex, wM, wG⟩
 ·have hl : l = [] := by cases l with
   | nil => rfl
   | cons b l => simp [Jn] at tD
  subst hl
  have hr : (convert S T (.slice none 0 0)).run P w = .ok (.string ⟨#[]⟩) w := by
   rw [run_convert_bytes_string w S T e none 0 0 hs he (yN hT)]
   rfl
  simp only [execOp, wA, hex, Sem.run_bind, hr, Result.andThen_ok, Sem.run_pure, List.toArray]
 ·have hlen : (Jn l).length = l.length := by simp [Jn]
  rw [hlen] at hex
  have hr := run_convert_bytes_back (P := P) w S T e ad c l hs he (yN hT) (fun j hj => by
   rw [Wt] at wG
   obtain ⟨u, hu, hr⟩ := wG.get' j (D.int .u8 (l[j].toNat : Int)) (by simp [hj])
   have := VS hr
   subst this
   exact wM j _ hu)
  simp only [execOp, wA, hex, Sem.run_bind, hr, Result.andThen_ok, Sem.run_pure]
theorem TO (r : Rel T0 B σ a w X h) {o : Oper} {S T : TypeId} {x : Operand} {d : Nat} {s : ByteArray} (wA : o.op = .convert S T x) (hd : o.dst = some d) (hg : gOf (look P σ S x) = true) (hS : VX P S = true) (hT : Sc P T = true)
  (hx : unc (look P σ S x) = .one (.d (.str s))) (vV : s.size <= 9223372036854775807)
  {K : Act -> World -> Prop} {Q : Exit -> Act -> World -> Prop} (hK : ∀ a' w', QX T0 B (σ.put d (.one (.d (.sl 1 (Jn s.data.toList))))) a' w' -> Yw B w w' -> K a' w') : o.wp P a w K Q := by
 obtain ⟨e, uC, he⟩ := PK hT
 have hex := Up (r.arg (P := P) S x hx hg)
 have wW := run_bytes_of_string (P := P) w S T e s (yN hS) uC he
 unfold Oper.wp
 simp only [execOp, wA, hex, Sem.run_bind, wW, Result.andThen_ok, Sem.run_pure, Oper.upon_value, hd]
 generalize vn : grownCap w s.size 0 e = cap at *
 have u9 : s.size <= cap := by rw [<- vn]; exact grownCap_ge w s.size 0 e
 have uO : cap <= maxLen := by rw [<- vn]; exact grownCap_le_maxLen w s.size 0 e (by simp only [maxLen]; omega)
 generalize hw' : w.drew.alloc (.cells (bytesRow s cap) e ((bytesRow s cap).size, (bytesRow s cap).size + 1)) = w'
 have rO : w.grownBy w' none := by
  rw [<- hw']
  exact ⟨rfl, rfl, rfl, by simp, fun k hk _ => (World.grownBy_alloc w.drew _ none).block k hk (by simp)⟩
 have tw : w'.heap[w.heap.size]? = some (.cells (bytesRow s cap) e ((bytesRow s cap).size, (bytesRow s cap).size + 1)) := by rw [<- hw']; exact heap_alloc_new w.drew _
 have mb : w.heap.size < w'.heap.size := (Array.getElem?_eq_some_iff.1 tw).1
 have r2 := r.grow (X' := fun b => X b \/ b = w.heap.size) rO (fun b hb => .inl hb) (fun b hb => hb.imp id (fun hh => by subst hh; exact ⟨Nat.le_refl _, mb⟩))
 refine hK _ _ ⟨_, _, r2.put d _ _ ?_⟩ (Yw.Wy rO r.hB)
 have ve := Wt s.data.toList
 refine Rd.sl ⟨w.heap.size, 0, none⟩ s.size cap 1 _ (fun k => .int .u8 ((s.data.toList.getD k 0).toNat : Int)) (by simp [Jn]) u9 uO (by intro q hq; simp [Jn] at hq; obtain ⟨b, _, rfl⟩ := hq; rfl) (fun _ => rfl) (fun k dd hk => ?_) (fun k dd hk => ?_)
 ·rw [ve, List.getElem?_map] at hk
  cases hb : s.data.toList[k]? with
  | none => rw [hb] at hk; cases hk
  | some b =>
   refine ⟨?_, .inr (.inr rfl)⟩
   simp only [Nat.zero_add]
   refine Km tw _ _ ?_
   have iU : k < s.data.size := by have := (List.getElem?_eq_some_iff.1 hb).1; simpa using this
   simp only [bytesRow]
   rw [Array.toList_append, List.getElem?_append_left (by simpa using iU)]
   simp [hb]
 ·rw [ve, List.getElem?_map] at hk
  cases hb : s.data.toList[k]? with
  | none => rw [hb] at hk; cases hk
  | some b =>
   rw [hb] at hk; cases hk
   rw [List.getD_eq_getElem?_getD, hb]
   exact .int _ _
end
end Go.Vm
namespace Go.Vm
open Go.RowKit
def Ya : List At -> List (Nat × Nat)
 | [] => []
 | .sref t j _ _ :: xs => (t, j) :: Ya xs
 | _ :: xs => Ya xs
def mvD (σ : St) : At -> Option D
 | .d (.sl _ _) => none
 | .d x => some x
 | .nil s => some (.sl s [])
 | .sref t j lo len => (match σ.ob t j with | .arr _ size rows => if lo = 0 /\ len = rows.length then some (.sl size rows) else none | _ => none)
 | _ => none
def M6 (σ : St) : At -> Prop
 | .sref t j _ _ => (match σ.ob t j with | .arr false _ rows => ∀ r ∈ rows, ∀ x ∈ r, x.scalar = true | _ => True)
 | _ => True
def QR (σ : St) : List At -> Option (List D)
 | [] => some []
 | x :: xs => (match mvD σ x, QR σ xs with | some d, some ds => some (d :: ds) | _, _ => none)
def XS (σ : St) : List At -> Prop
 | [] => True
 | x :: xs => M6 σ x /\ XS σ xs
def Qv (σ : St) : List (List At) -> Option (List (List D))
 | [] => some []
 | xs :: rest => (match QR σ xs, Qv σ rest with | some r, some rs => some (r :: rs) | _, _ => none)
def Ql (σ : St) : List (List At) -> Prop
 | [] => True
 | x :: xs => XS σ x /\ Ql σ xs
theorem PG : ∀ (xs : List At) (i j : Nat) (t u lo len pM tH : Nat), (Ya xs).Nodup -> xs[i]? = some (.sref t u lo len) -> xs[j]? = some (.sref t u pM tH) -> i = j := by
 intro xs
 induction xs with
 | nil => intro i j t u lo len pM tH _ hi; simp at hi
 | cons x xs ih =>
  intro i j t u lo len pM tH vB hi hj
  have mem : ∀ (k lo len : Nat), xs[k]? = some (At.sref t u lo len) -> (t, u) ∈ Ya xs := by
   intro k lo len hk
   clear ih vB hi hj
   induction xs generalizing k with
   | nil => simp at hk
   | cons y ys pW =>
    cases k with
    | zero => simp at hk; subst hk; simp [Ya]
    | succ k =>
     have := pW k (by simpa using hk)
     cases y <;> simp [Ya, this]
  have fy : (Ya xs).Nodup := by
   cases x <;> simp only [Ya] at vB <;> first | exact vB | exact (List.nodup_cons.1 vB).2
  cases i with
  | zero =>
   simp at hi; subst hi
   cases j with
   | zero => rfl
   | succ j =>
    simp only [Ya] at vB
    exact absurd (mem j pM tH (by simpa using hj)) (List.nodup_cons.1 vB).1
  | succ i =>
   cases j with
   | zero =>
    simp at hj; subst hj
    simp only [Ya] at vB
    exact absurd (mem i lo len (by simpa using hi)) (List.nodup_cons.1 vB).1
   | succ j => rw [ih i j t u lo len pM tH fy (by simpa using hi) (by simpa using hj)]
theorem Lv : ∀ {xs : List At} {k t j lo len : Nat}, xs[k]? = some (At.sref t j lo len) -> (t, j) ∈ Ya xs
 | [], k, t, j, lo, len, h => by simp at h
 | x :: xs, 0, t, j, lo, len, h => by simp at h; subst h; simp [Ya]
 | x :: xs, k + 1, t, j, lo, len, h => by
  have := Lv (xs := xs) (k := k) (by simpa using h)
  cases x <;> simp [Ya, this]
theorem zt {σ : St} : ∀ {xs : List At} {ds : List D}, QR σ xs = some ds -> xs.length = ds.length /\ ∀ (k : Nat) (x : At) (d : D), xs[k]? = some x -> ds[k]? = some d -> mvD σ x = some d
 | [], ds, h => by simp [QR] at h; subst h; exact ⟨rfl, fun k x d hx => by simp at hx⟩
 | x :: xs, ds, h => by
  simp only [QR] at h
  split at h
  ·rename_i d rF h1 h2
   cases h
   obtain ⟨hl, ih⟩ := zt h2
   refine ⟨by simp [hl], fun k y e hy he => ?_⟩
   cases k with
   | zero => simp at hy he; subst hy; subst he; exact h1
   | succ k => exact ih k y e (by simpa using hy) (by simpa using he)
  ·cases h
theorem RE {σ : St} : ∀ {xs ys : List At} {ds es : List D}, QR σ xs = some ds -> QR σ ys = some es -> QR σ (xs ++ ys) = some (ds ++ es)
 | [], ys, ds, es, h1, h2 => by simp [QR] at h1; subst h1; simpa using h2
 | x :: xs, ys, ds, es, h1, h2 => by
  simp only [QR] at h1
  split at h1
  ·rename_i d rF h3 h4
   cases h1
   simp [QR, h3, RE h4 h2]
  ·cases h1
theorem zG {σ : St} : ∀ {vX : List (List At)} {rs : List (List D)}, Qv σ vX = some rs -> QR σ vX.flatten = some rs.flatten /\ vX.length = rs.length /\ ∀ n, (∀ x ∈ vX, x.length = n) -> ∀ r ∈ rs, r.length = n
 | [], rs, h => by simp [Qv] at h; subst h; exact ⟨rfl, rfl, fun n _ r hr => by cases hr⟩
 | xs :: vX, rs, h => by
  simp only [Qv] at h
  split at h
  ·rename_i r nB h1 h2
   cases h
   obtain ⟨i1, i2, i3⟩ := zG h2
   refine ⟨by rw [List.flatten_cons, List.flatten_cons]; exact RE h1 i1, by simp [i2], fun n hn q hq => ?_⟩
   rcases List.mem_cons.1 hq with rfl | hq
   ·rw [<- (zt h1).1]; exact hn xs (by simp)
   ·exact i3 n (fun x hx => hn x (by simp [hx])) q hq
  ·cases h
theorem UU {σ : St} : ∀ {xs : List At}, XS σ xs -> ∀ (k : Nat) (x : At), xs[k]? = some x -> M6 σ x
 | [], _, k, x, hx => by simp at hx
 | y :: xs, h, 0, x, hx => by simp at hx; subst hx; exact h.1
 | y :: xs, h, k + 1, x, hx => UU h.2 k x (by simpa using hx)
theorem Uh {σ : St} : ∀ {xs ys : List At}, XS σ xs -> XS σ ys -> XS σ (xs ++ ys)
 | [], _, _, h => h
 | _ :: _, _, h1, h2 => ⟨h1.1, Uh h1.2 h2⟩
theorem Ks {σ : St} : ∀ {vX : List (List At)}, Ql σ vX -> XS σ vX.flatten
 | [], _ => trivial
 | xs :: vX, h => by rw [List.flatten_cons]; exact Uh h.1 (Ks h.2)
section
variable {P : Program} {T0 : CS} {B : Nat -> Prop} {σ : St} {a : Act} {w w' : World} {X X' : Nat -> Prop} {h : Nat -> Nat -> Hd}
theorem Rd.own {T : CS} {v : Value} {d : D} {S : Nat -> Prop} (hs : d.scalar = true) (hr : Rd T w v d) : Own w v d S := by
 cases hr with
 | int k n => exact .int _ _ _
 | bool b => exact .bool _ _
 | str s => exact .str _ _
 | unk v h => exact .unk _ h _
 | nil => cases hs
 | sl => cases hs
theorem Rel.Cz (r : Rel T0 B σ a w X h) {t j : Nat} {q : Bool} {size : Nat} {rows : List (List D)} (ho : σ.ob t j = .arr q size rows) (hq : q = false -> ∀ r ∈ rows, ∀ x ∈ r, x.scalar = true) : Own w (h t j).v (.sl size rows) (h t j).u := by
 have h0 := r.obj t j
 have vR := r.ub t j
 rw [ho] at h0 vR
 cases q with
 | false =>
  obtain ⟨e, xs, uT, hz, wG⟩ := h0
  refine .sl _ size rows _ e xs (fun _ _ => False) uT hz (fun b hb => vR b (by simp) hb) wG.length (fun k x d hx hd => ?_) (fun k b hb => hb.elim) (fun i j b hb => hb.elim)
  obtain ⟨d', wR, hr⟩ := wG.get k x hx
  rw [hd] at wR; cases wR
  obtain ⟨r0, tG, hdr⟩ := List.mem_flatten.1 (List.mem_of_getElem? hd)
  exact Rd.own (hq rfl r0 tG d hdr) hr
 | true =>
  obtain ⟨e, xs, uT, hz, ⟨hl, Sk, h1, h2, h3⟩, hn⟩ := h0
  exact .sl _ size rows _ e xs Sk uT hz (fun b hb => vR b (by simp) hb) hl h1 (fun k b hb => h2 k b hb) h3
def JL (σ : St) (h : Nat -> Nat -> Hd) (l : List (Nat × Nat)) (b : Nat) : Prop := ∃ p ∈ l, σ.ob p.1 p.2 ≠ .none /\ (h p.1 p.2).u b
theorem Uw (r : Rel T0 B σ a w X h) {xs : List At} {vs : List Value} {ds : List D} (wG : Z2 (Z7 (Tof T0 X) h σ.ob w) xs vs) (v9 : QR σ xs = some ds) (we : XS σ xs) (vB : (Ya xs).Nodup) : Qt w vs ds (JL σ h (Ya xs)) := by
 obtain ⟨hl, v9⟩ := zt v9
 refine ⟨by rw [<- wG.length, hl], fun k b => ∃ t j lo len, xs[k]? = some (.sref t j lo len) /\ σ.ob t j ≠ .none /\ (h t j).u b, fun k v d hv hd => ?_, ?_, ?_⟩
 ·obtain ⟨x, hx, hr⟩ := wG.get' k v hv
  have hm := v9 k x d hx hd
  have ho := UU we k x hx
  cases x with
  | d x =>
   cases x with
   | sl s rows => simp [mvD] at hm
   | int k n => simp [mvD] at hm; subst hm; exact Rd.own rfl hr
   | bool b => simp [mvD] at hm; subst hm; exact Rd.own rfl hr
   | str s => simp [mvD] at hm; subst hm; exact Rd.own rfl hr
   | unk => simp [mvD] at hm; subst hm; exact Rd.own rfl hr
  | nil s =>
   simp [mvD] at hm; subst hm
   cases hr
   exact .sl _ s [] _ 0 [] (fun _ _ => False) (World.ownsRow_nil w 0 0 s) (by intro q hq; cases hq) (fun b hb => by cases hb) rfl (fun k x d hx => by simp at hx) (fun k b hb => hb.elim) (fun i j b hb => hb.elim)
  | sref t j lo len =>
   simp only [mvD] at hm
   split at hm
   ·rename_i q size rows wV
    split at hm
    ·rename_i hc
     obtain ⟨rfl, rfl⟩ := hc
     cases hm
     obtain ⟨_, uK, _⟩ := hr.2.1 q size rows wV
     rw [uK rfl rfl]
     refine (r.Cz wV (fun hq => ?_)).mono (fun b hb => ⟨t, j, 0, rows.length, hx, by rw [wV]; simp, hb⟩)
     subst hq
     simp only [M6, wV] at ho; exact ho
    ·cases hm
   ·cases hm
  | any => simp [mvD] at hm
  | ptr => simp [mvD] at hm
  | bptr => simp [mvD] at hm
  | fn => simp [mvD] at hm
  | rptr => simp [mvD] at hm
  | tref => simp [mvD] at hm
 ·rintro k b ⟨t, j, lo, len, hx, wE, hu⟩
  exact ⟨(t, j), Lv hx, wE, hu⟩
 ·rintro i k b ⟨t, j, lo, len, hx, wE, hu⟩ ⟨t', j', pM, tH, tb, w6, uD⟩
  obtain ⟨rfl, rfl⟩ := r.inj t j t' j' b wE w6 hu uD
  exact PG xs i k t j lo len pM tH vB hx tb
theorem Qt.append {xs ys : List Value} {ds es : List D} {S S' : Nat -> Prop} (h1 : Qt w xs ds S) (h2 : Qt w ys es S') (hd : ∀ b, S b -> S' b -> False) : Qt w (xs ++ ys) (ds ++ es) (fun b => S b \/ S' b) := by
 obtain ⟨l1, Sk, a1, a2, a3⟩ := h1
 obtain ⟨l2, pN, b1, b2, b3⟩ := h2
 refine ⟨by simp [l1, l2], fun k => if k < xs.length then Sk k else pN (k - xs.length), fun k x d hx wR => ?_, fun k b hb => ?_, fun i j b hi hj => ?_⟩
 ·by_cases hk : k < xs.length
  ·simp only [hk, if_true]
   rw [List.getElem?_append_left hk] at hx
   rw [List.getElem?_append_left (by omega)] at wR
   exact a1 k x d hx wR
  ·simp only [hk, if_false]
   rw [List.getElem?_append_right (by omega)] at hx
   rw [List.getElem?_append_right (by omega), <- l1] at wR
   exact b1 _ x d hx wR
 ·by_cases hk : k < xs.length
  ·simp only [hk, if_true] at hb; exact .inl (a2 k b hb)
  ·simp only [hk, if_false] at hb; exact .inr (b2 _ b hb)
 ·by_cases vq : i < xs.length
  ·simp only [vq, if_true] at hi
   by_cases uu : j < xs.length
   ·simp only [uu, if_true] at hj; exact a3 i j b hi hj
   ·simp only [uu, if_false] at hj; exact (hd b (a2 i b hi) (b2 _ b hj)).elim
  ·simp only [vq, if_false] at hi
   by_cases uu : j < xs.length
   ·simp only [uu, if_true] at hj; exact (hd b (a2 j b hj) (b2 _ b hi)).elim
   ·simp only [uu, if_false] at hj
    have := b3 _ _ b hi hj; omega
theorem Qt.mono {xs : List Value} {ds : List D} {S S' : Nat -> Prop} (hS : ∀ b, S b -> S' b) (h1 : Qt w xs ds S) : Qt w xs ds S' := by
 obtain ⟨l1, Sk, a1, a2, a3⟩ := h1
 exact ⟨l1, Sk, a1, fun k b hb => hS b (a2 k b hb), a3⟩
theorem Qt.nil (S : Nat -> Prop) : Qt w [] [] S := ⟨rfl, fun _ _ => False, fun k x d hx => by simp at hx, fun _ _ hb => hb.elim, fun _ _ _ hb => hb.elim⟩
theorem Rel.zQ (r : Rel T0 B σ a w X h) (l : List (Nat × Nat)) (b : Nat) (hb : JL σ h l b) : ¬ B b /\ ¬ X b /\ b < w.heap.size /\ ∀ u i, (σ.Z0 l).ob u i ≠ .none -> ¬ (h u i).u b := by
 obtain ⟨p, hp, wE, hu⟩ := hb
 have ho := r.own p.1 p.2 b wE hu
 refine ⟨ho.1, ho.2.1, ho.2.2, fun u i hn uD => ?_⟩
 rw [St.JM] at hn
 split at hn
 ·exact hn rfl
 ·rename_i iC
  obtain ⟨h1, h2⟩ := r.inj p.1 p.2 u i b wE hn hu uD
  exact iC (by rw [<- h1, <- h2]; exact hp)
end
end Go.Vm
namespace Go.Vm
open Go.RowKit
section
variable {P : Program} {T0 : CS} {B : Nat -> Prop} {σ : St} {a : Act} {w w' : World} {X X' : Nat -> Prop} {h : Nat -> Nat -> Hd}
def Ss (P : Program) (σ : St) (T : TypeId) (size : Nat) : List (Nat × Operand) -> Nat -> List (List At) -> Prop
 | [], _, rs => rs = []
 | (i, x) :: ps, k, rs => i = k /\ gOf (look P σ T x) = true /\ (unc (look P σ T x)).flat = true /\ (unc (look P σ T x)).cells.length = size /\
   ∃ rest, Ss P σ T size ps (k + 1) rest /\ rs = (unc (look P σ T x)).cells :: rest
theorem H4 (r : Rel T0 B σ a w X h) (T : TypeId) (size : Nat) : ∀ (ps : List (Nat × Operand)) (k : Nat) (rs : List (List At)) (cells : Array Value), Ss P σ T size ps k rs -> (k + ps.length) * size <= cells.size ->
   ∃ wK ys, Instr.fill (fun i => some (i * size, size)) cells (ps.map fun x => (x.1, a.eval x.2)) = some wK /\ wK.toList = place cells.toList (k * size) ys /\ Z2 (Z7 (Tof T0 X) h σ.ob w) rs.flatten ys /\ (∀ q ∈ rs, q.length = size) /\ rs.length = ps.length
 | [], k, rs, cells, hb, _ => by cases hb; exact ⟨cells, [], rfl, by simp [place], .nil, (by intro q hq; cases hq), rfl⟩
 | (i, x) :: ps, k, rs, cells, hb, hl => by
  obtain ⟨rfl, hg, hf, hlen, rest, hb, rfl⟩ := hb
  have hx := qH hf (r.arg (P := P) T x rfl hg)
  have pb := hx.length
  have e1 : cells.toList.length = cells.size := Array.length_toList
  have e2 : (a.eval x).cells.toList.length = (a.eval x).cells.size := Array.length_toList
  have hmul : (i + (ps.length + 1)) * size = i * size + size + ps.length * size := by rw [Nat.add_mul, Nat.add_mul]; omega
  simp only [List.length_cons] at hl
  have heq := Vk (i * size) (a.eval x).cells cells (by omega)
  have tP : ((a.eval x).cells.zipIdx.foldl (fun cs x => cs.setIfInBounds (i * size + x.2) x.1) cells).size = cells.size := by
   rw [<- Array.length_toList, heq, XF _ _ _ (by omega), e1]
  have ma : (i + 1 + ps.length) * size = i * size + size + ps.length * size := by rw [Nat.add_mul, Nat.add_mul]; omega
  obtain ⟨wK, ys, h1, h2, h3, h4, h5⟩ := H4 r T size ps (i + 1) rest _ hb (by rw [tP]; omega)
  have uo : ys.length = ps.length * size := by rw [<- h3.length, YL rest size h4, h5]
  refine ⟨wK, (a.eval x).cells.toList ++ ys, ?_, ?_, ?_, ?_, by simp [h5]⟩
  ·simp only [List.map_cons, Instr.fill]
   rw [if_neg (by simp; omega)]
   exact h1
  ·rw [h2, heq]
   rw [show (i + 1) * size = i * size + (a.eval x).cells.toList.length by rw [Nat.add_mul]; omega]
   exact PH _ _ _ _ (by simp; omega)
  ·rw [List.flatten_cons]; exact hx.append h3
  ·intro q hq
   rcases List.mem_cons.1 hq with rfl | hq
   ·exact hlen
   ·exact h4 q hq
theorem Um (r : Rel T0 B σ a w X h) {o : Oper} {T : TypeId} {n : Nat} {parts : Array (Nat × Operand)} {d : Nat} {rows : List (List At)} (wA : o.op = .buildSlice T n parts) (hd : o.dst = some d) (w8 : σ.fresh d = true)
  (ht : XC P T = true) (hz : Xy P (ZP P T) = true) (vY : 0 < P.cellsOf (ZP P T)) (hn : parts.toList.length = n) (hZ : n * P.cellsOf (ZP P T) <= 16777216) (hb : Ss P σ (ZP P T) (P.cellsOf (ZP P T)) parts.toList 0 rows) (ff : YG d rows.flatten = false)
  {K : Act -> World -> Prop} {Q : Exit -> Act -> World -> Prop} (hK : ∀ a' w', QX T0 B (σ.new d (.one (.sref d 0 0 rows.length)) [.lit (P.cellsOf (ZP P T)) rows]) a' w' -> Yw B w w' -> K a' w') : o.wp P a w K Q := by
 obtain ⟨ti, hu, hi, tE⟩ := XV ht
 obtain ⟨i, z, row, vq, sC, ud, tP, si, uP, ug⟩ := yS hz
 rw [hi] at vq; cases vq
 have uY : (zeroValue (ZP P T)).run P w = .ok z w := by simp [zeroValue, typeInfo, hi, sC]
 obtain ⟨zero, hzero⟩ : ∃ zero : Array Value, (n * P.cellsOf (ZP P T) = 0 -> zero = #[]) /\ (¬ n * P.cellsOf (ZP P T) = 0 -> zero = z.cells) := by
  by_cases h0 : n * P.cellsOf (ZP P T) = 0
  ·exact ⟨#[], fun _ => rfl, fun hh => absurd h0 hh⟩
  ·exact ⟨z.cells, fun hh => absurd hh h0, fun _ => rfl⟩
 obtain ⟨wK, ys, h1, h2, h3, h4, h5⟩ := H4 r (ZP P T) (P.cellsOf (ZP P T)) parts.toList 0 rows ((Array.range (n * P.cellsOf (ZP P T))).map (zero[· % zero.size]!)) hb (by simp [hn])
 have uo : ys.length = n * P.cellsOf (ZP P T) := by rw [<- h3.length, YL rows _ h4, h5, hn]
 have wq : wK.toList = ys := by
  rw [h2]
  unfold place
  simp [uo]
 have u5 : (parts.map fun (x : Nat × Operand) => (x.1, a.eval x.2)).toList = parts.toList.map fun x => (x.1, a.eval x.2) := by simp
 have wW : (execOp a.eval o).run P w = .ok (.value (.slice (some ⟨w.heap.size, 0, none⟩) n n)) (w.alloc (.cells wK (ZP P T))) := by
  have tC : ¬ (n * P.cellsOf (ZP P T) > 2 ^ 24) := by omega
  by_cases h0 : n * P.cellsOf (ZP P T) = 0
  ·have sK := hzero.1 h0
   subst sK
   simp only [execOp, wA, Instr.buildSlice, Sem.run_bind, run_underlying hu, Result.andThen_ok, Qk hi, if_neg tC, if_pos h0, u5, h1, newRow, Sem.run_pure, run_newObj_alloc]
  ·have sK := hzero.2 h0
   subst sK
   simp only [execOp, wA, Instr.buildSlice, Sem.run_bind, run_underlying hu, Result.andThen_ok, Qk hi, if_neg tC, if_neg h0, uY, u5, h1, newRow, Sem.run_pure, run_newObj_alloc]
 unfold Oper.wp
 rw [wW, Oper.upon_value, hd]
 have hlen : rows.length = n := by rw [h5, hn]
 have hg := World.grownBy_alloc w (.cells wK (ZP P T)) none
 have wO := St.JT w8
 have hT : ∀ b k v, Tof T0 X b k -> w.cell? ⟨b, k, none⟩ = some v -> (w.alloc (.cells wK (ZP P T))).cell? ⟨b, k, none⟩ = some v /\ Tof T0 X b k := by
  intro b k v hb wM
  refine ⟨?_, hb⟩
  rw [World.cell?_of_block (hg.block b (r.Tlt hb) (by simp))]; exact wM
 have pE : wK.size = n * P.cellsOf (ZP P T) := by rw [<- Array.length_toList, wq, uo]
 have uO : n <= maxLen := by
  have : n <= n * P.cellsOf (ZP P T) := Nat.le_mul_of_pos_right _ vY
  simp only [maxLen]; omega
 have wJ : (w.alloc (.cells wK (ZP P T))).ownsRow 0 (ZP P T) (P.cellsOf (ZP P T)) (.slice (some ⟨w.heap.size, 0, none⟩) n n) rows.length ys :=
  ⟨by rw [uo, hlen], .inr ⟨w.heap.size, n, wK, by rw [hlen], Nat.zero_le _, heap_alloc_new w _, by omega, uO, pE, by rw [wq, hlen, List.take_of_length_le (by omega)]⟩⟩
 refine hK _ _ ⟨X, fun t j => if t = d then Hd.of (.slice (some ⟨w.heap.size, 0, none⟩) n n) else h t j, ?_⟩ (Yw.Wy hg r.hB)
 have vA : (σ.new d (.one (.sref d 0 0 rows.length)) [.lit (P.cellsOf (ZP P T)) rows]).ob d 0 = .lit (P.cellsOf (ZP P T)) rows := by rw [St.QE]; simp [wO, YO]
 have hc : ∀ t j, t ≠ d -> Cpt h (fun t j => if t = d then Hd.of (.slice (some ⟨w.heap.size, 0, none⟩) n n) else h t j) σ.ob (σ.new d (.one (.sref d 0 0 rows.length)) [.lit (P.cellsOf (ZP P T)) rows]).ob t j := by
  intro t j wE
  have he : (σ.new d (.one (.sref d 0 0 rows.length)) [.lit (P.cellsOf (ZP P T)) rows]).ob t j = σ.ob t j := by rw [St.QE, if_neg (fun hh => wE hh.1)]
  exact Cpt.same (by simp [wE]) he
 refine r.new w8 hg (fun _ hb => hb) (fun _ hb => .inl hb) _ _ [.lit (P.cellsOf (ZP P T)) rows] (fun _ => Hd.of (.slice (some ⟨w.heap.size, 0, none⟩) n n)) ?_ (fun j => ?_) (fun j b _ hb => hb) (fun j b _ wU => ?_) (fun j j' b wE w6 _ _ => ?_)
 ·refine ⟨Qe wJ, fun q' wX wS wY => (by rw [vA] at wY; cases wY), fun wX wS wY => ?_⟩
  rw [vA] at wY; cases wY
  simp only [if_true]
  exact jB wJ
 ·cases j with
  | zero => exact ⟨ZP P T, ys, wJ, h4, jG hT hc ff h3⟩
  | succ j => simp [YO, QP]
 ·simp [Hd.of, blk] at wU; subst wU
  refine ⟨Nat.le_refl _, fun tb => ?_, by simp⟩
  have := (r.hX _ tb).2; omega
 ·have : ∀ j, YO [Ob.lit (P.cellsOf (ZP P T)) rows] j ≠ .none -> j = 0 := by
   intro j hj
   cases j with
   | zero => rfl
   | succ j => simp [YO] at hj
  rw [this j wE, this j' w6]
theorem GO {T : CS} {ob : Nat -> Nat -> Ob} : ∀ {xs : List At} {ds : List D} {vs : List Value}, zD xs = some ds -> Z2 (Z7 T h ob w) xs vs -> (∀ x ∈ xs, ∀ s r, x ≠ .d (.sl s r)) -> ∀ (w' : World) (S : Nat -> Prop) (k : Nat) (v : Value) (d : D), vs[k]? = some v -> ds[k]? = some d -> Own w' v d S
 | [], ds, vs, hz, wG, _, w', S, k, v, d, hv, _ => by cases wG; simp at hv
 | x :: xs, ds, vs, hz, wG, sL, w', S, k, v, d, hv, hd => by
  cases wG with
  | cons hx wG =>
   cases x with
   | d x =>
    simp only [zD, Option.map_eq_some_iff] at hz
    obtain ⟨rF, ur, rfl⟩ := hz
    cases k with
    | zero =>
     simp at hv hd; subst hv; subst hd
     cases x with
     | sl s r => exact absurd rfl (sL _ (by simp) s r)
     | int k n => cases (show Rd _ _ _ _ from hx); exact .int _ _ _
     | bool b => cases (show Rd _ _ _ _ from hx); exact .bool _ _
     | str s => cases (show Rd _ _ _ _ from hx); exact .str _ _
     | unk => exact .unk _ (Rd.Xa hx) _
    | succ k => exact GO ur wG (fun x hx => sL x (by simp [hx])) w' S k v d (by simpa using hv) (by simpa using hd)
   | nil s =>
    simp only [zD, Option.map_eq_some_iff] at hz
    obtain ⟨rF, ur, rfl⟩ := hz
    cases k with
    | zero =>
     simp at hv hd; subst hv; subst hd
     cases hx
     exact .sl _ s [] _ 0 [] (fun _ _ => False) (World.ownsRow_nil w' 0 0 s) (by intro q hq; cases hq) (fun b hb => by cases hb) rfl (fun k x d hx => by simp at hx) (fun k b hb => hb.elim) (fun i j b hb => hb.elim)
    | succ k => exact GO ur wG (fun x hx => sL x (by simp [hx])) w' S k v d (by simpa using hv) (by simpa using hd)
   | any => simp [zD] at hz
   | sref => simp [zD] at hz
   | ptr => simp [zD] at hz
   | bptr => simp [zD] at hz
   | fn => simp [zD] at hz
   | rptr => simp [zD] at hz
   | tref => simp [zD] at hz
def Fm (σ : St) (x : V) (size : Nat) (wH : List (List D)) (l : List (Nat × Nat)) : Prop :=
 match x with
 | .one (.nil _) => wH = [] /\ l = []
 | .one (.sref t j lo len) => σ.ob t j = .arr true size wH /\ lo = 0 /\ len = wH.length /\ l = [(t, j)]
 | _ => False
def Fj (σ : St) (x : V) (size : Nat) (news : List (List D)) (l : List (Nat × Nat)) : Prop :=
 match x with
 | .one (.sref t j lo len) => ∃ rows, σ.ob t j = .lit size rows /\ lo = 0 /\ len = rows.length /\ Qv σ rows = some news /\ Ql σ rows /\ l = Ya rows.flatten
 | _ => False
theorem Md (r : Rel T0 B σ a w X h) {o : Oper} {t : TypeId} {x y : Operand} {d : Nat} {wH news : List (List D)} {l1 l2 : List (Nat × Nat)} (wA : o.op = .call ⟨.builtin .append, #[x, y], #[t, t]⟩) (hd : o.dst = some d)
  (sM : gOf (look P σ t x) = true) (sN : gOf (look P σ t y) = true) (ht : XC P t = true) (hz : Xy P (ZP P t) = true) (vY : 0 < P.cellsOf (ZP P t))
  (uV : Fm σ (unc (look P σ t x)) (P.cellsOf (ZP P t)) wH l1) (tO : Fj σ (unc (look P σ t y)) (P.cellsOf (ZP P t)) news l2) (vB : (l1 ++ l2).Nodup) (w8 : (σ.Z0 (l1 ++ l2)).fresh d = true)
  (v7 : (wH.length + news.length) * P.bytesOf (ZP P t) <= 140737488355328) (oq : wH.length + news.length <= 9223372036854775807)
  {K : Act -> World -> Prop} {Q : Exit -> Act -> World -> Prop} (hK : ∀ a' w', QX T0 B ((σ.Z0 (l1 ++ l2)).new d (.one (.sref d 0 0 (wH.length + news.length))) [.arr true (P.cellsOf (ZP P t)) (wH ++ news)]) a' w' -> Yw B w w' -> K a' w') : o.wp P a w K Q := by
 obtain ⟨ti, hu, hi, tE⟩ := XV ht
 obtain ⟨i, z, row, vq, sC, ud, tP, si, uP, ug⟩ := yS hz
 rw [hi] at vq; cases vq
 have ot : P.bytesOf (ZP P t) = ti.bytes := by simp [Program.bytesOf, hi]
 rw [ot] at v7
 rw [<- uP] at uV tO vY hK
 have pg := r.arg (P := P) t x rfl sM
 have m9 := r.arg (P := P) t y rfl sN
 obtain ⟨t2, j2, rows, fj, ra, v9, uL, pb⟩ : ∃ t2 j2 rows, unc (look P σ t y) = .one (.sref t2 j2 0 rows.length) /\ σ.ob t2 j2 = .lit ti.size rows /\ Qv σ rows = some news /\ Ql σ rows /\ l2 = Ya rows.flatten := by
  unfold Fj at tO
  split at tO
  ·rename_i t2 j2 lo len heq
   obtain ⟨rows, ho, rfl, rfl, hm, hk, rfl⟩ := tO
   exact ⟨t2, j2, rows, heq, ho, hm, hk, rfl⟩
  ·exact tO.elim
 subst pb
 obtain ⟨iO, mV, iP⟩ := zG v9
 have mc := Ks uL
 rw [fj] at m9
 have h0 := r.obj t2 j2
 rw [ra] at h0
 obtain ⟨e2, ys, vE, mz, sG⟩ := h0
 obtain ⟨_, ov, _⟩ := m9.2.2 _ _ ra
 have mf : a.eval y = (h t2 j2).v := ov rfl rfl
 have mU : ∀ q ∈ news, q.length = ti.size := iP _ mz
 have uc := Uw r sG iO mc (List.nodup_append.1 vB).2.1
 have vv : ∃ e0 xs, w.ownsRow 0 e0 ti.size (a.eval x) wH.length xs /\ (∀ q ∈ wH, q.length = ti.size) /\ Qt w xs wH.flatten (fun b => JL σ h l1 b /\ blk (a.eval x) ≠ some b) /\ (∀ b, blk (a.eval x) = some b -> JL σ h l1 b) := by
  unfold Fm at uV
  split at uV
  ·rename_i s heq
   obtain ⟨rfl, rfl⟩ := uV
   rw [heq] at pg
   have he : a.eval x = .slice none 0 0 := pg
   rw [he]
   exact ⟨0, [], World.ownsRow_nil w 0 0 _, (by intro q hq; cases hq), Qt.nil _, (fun b hb => by cases hb)⟩
  ·rename_i u j lo len heq
   obtain ⟨ho, rfl, rfl, rfl⟩ := uV
   rw [heq] at pg
   have oy : Z7 (Tof T0 X) h σ.ob w (.sref u j 0 wH.length) (a.eval x) := pg
   obtain ⟨_, uK, _⟩ := oy.2.1 _ _ _ ho
   have he : a.eval x = (h u j).v := uK rfl rfl
   have h0 := r.obj u j
   rw [ho] at h0
   obtain ⟨e, xs, wJ, uM, wG, hn⟩ := h0
   have wV : σ.ob u j ≠ .none := by rw [ho]; simp
   rw [he]
   exact ⟨e, xs, wJ, uM, wG.mono (fun b hb => ⟨⟨(u, j), by simp, wV, hb.1⟩, hb.2⟩), fun b hb => ⟨(u, j), by simp, wV, r.ub u j b wV hb⟩⟩
  ·exact uV.elim
 obtain ⟨e0, xs, wJ, iN, ou, s7⟩ := vv
 have oz : ∀ q ∈ wH ++ news, q.length = ti.size := by
  intro q hq
  rcases List.mem_append.1 hq with hq | hq
  ·exact iN q hq
  ·exact mU q hq
 have uo : ys.length = news.length * ti.size := by rw [uc.1, YL news ti.size mU]
 have uU : ∀ b, JL σ h l1 b -> JL σ h (Ya rows.flatten) b -> False := by
  rintro b ⟨p, hp, wE, hu⟩ ⟨p', rT, w6, uD⟩
  obtain ⟨e1, e2⟩ := r.inj p.1 p.2 p'.1 p'.2 b wE w6 hu uD
  have uR : p = p' := Prod.ext e1 e2
  subst uR
  exact (List.nodup_append.1 vB).2.2 p hp p rT rfl
 have tN : ∀ b, JL σ h (l1 ++ Ya rows.flatten) b ↔ JL σ h l1 b \/ JL σ h (Ya rows.flatten) b := by
  intro b
  constructor
  ·rintro ⟨p, hp, hr⟩
   rcases List.mem_append.1 hp with hp | hp
   ·exact .inl ⟨p, hp, hr⟩
   ·exact .inr ⟨p, hp, hr⟩
  ·rintro (⟨p, hp, hr⟩ | ⟨p, hp, hr⟩)
   ·exact ⟨p, by simp [hp], hr⟩
   ·exact ⟨p, by simp [hp], hr⟩
 have r1 := r.Z0 (l1 ++ Ya rows.flatten)
 have wj := r.zQ (l1 ++ Ya rows.flatten)
 have wO := St.JT w8
 have key : ∀ (v' : Value) (w' : World) (e1 : TypeId), (Builtin.append_ #[t, t] o.type #[a.eval x, a.eval y]).run P w = .ok v' w' -> w'.ownsRow 0 e1 ti.size v' (wH.length + news.length) (xs ++ ys) ->
   w.grownBy w' (blk (a.eval x)) -> (∀ b, blk v' = some b -> (w.heap.size <= b /\ b < w'.heap.size) \/ blk (a.eval x) = some b) -> o.wp P a w K Q := by
  intro v' w' e1 wW wY ua oD
  unfold Oper.wp
  have pD : (execOp a.eval o).run P w = .ok (.value v') w' := by
   simp only [execOp, wA, resolve, invoke, builtin, Sem.run_bind, Sem.run_pure, Result.andThen_ok, List.map_toArray, List.map_cons, List.map_nil, wW]
  rw [pD, Oper.upon_value, hd]
  refine hK _ _ ⟨X, fun u j => if u = d then ⟨v', fun k => ((xs ++ ys)[k]?).getD undef, fun b => blk v' = some b \/ (JL σ h (l1 ++ Ya rows.flatten) b /\ blk (a.eval x) ≠ some b)⟩ else h u j, ?_⟩
   ⟨ua.os, ua.tape, ua.output, ua.size, fun k hk => ua.block k (r.hB k hk) (fun e => (wj k ((tN k).2 (.inl (s7 k e.symm)))).1 hk)⟩
  have vA : ((σ.Z0 (l1 ++ Ya rows.flatten)).new d (.one (.sref d 0 0 (wH.length + news.length))) [.arr true ti.size (wH ++ news)]).ob d 0 = .arr true ti.size (wH ++ news) := by rw [St.QE]; simp [wO, YO]
  have vE : w'.ownsRow 0 e1 ti.size v' (wH ++ news).length (xs ++ ys) := by rw [List.length_append]; exact wY
  have wT : ∀ b, blk (a.eval x) ≠ some b -> b < w.heap.size -> w'.heap[b]? = w.heap[b]? := fun b hb hl => ua.block b hl (fun e => hb e.symm)
  have fz : Qt w' (xs ++ ys) (wH ++ news).flatten (fun b => (blk v' = some b \/ (JL σ h (l1 ++ Ya rows.flatten) b /\ blk (a.eval x) ≠ some b)) /\ blk v' ≠ some b) := by
   rw [List.flatten_append]
   have h1 : Qt w' xs wH.flatten (fun b => JL σ h l1 b /\ blk (a.eval x) ≠ some b) := ou.Tt (fun b hb => wT b hb.2 (wj b ((tN b).2 (.inl hb.1))).2.2.1)
   have pV : ∀ b, JL σ h (Ya rows.flatten) b -> blk (a.eval x) ≠ some b := fun b hb e => uU b (s7 b e) hb
   have h2 : Qt w' ys news.flatten (JL σ h (Ya rows.flatten)) := uc.Tt (fun b hb => wT b (pV b hb) (wj b ((tN b).2 (.inr hb))).2.2.1)
   refine (h1.append h2 (fun b vW wm => uU b vW.1 wm)).mono (fun b hb => ?_)
   have hg : JL σ h (l1 ++ Ya rows.flatten) b /\ blk (a.eval x) ≠ some b := by
    rcases hb with hb | hb
    ·exact ⟨(tN b).2 (.inl hb.1), hb.2⟩
    ·exact ⟨(tN b).2 (.inr hb), pV b hb⟩
   refine ⟨.inr hg, fun e => ?_⟩
   rcases oD b e with hl | hl
   ·have := (wj b hg.1).2.2.1; omega
   ·exact hg.2 hl
  refine r1.GR w8 (JL σ h (l1 ++ Ya rows.flatten)) ua.size (fun k hk wE => ua.block k hk (fun e => wE ((tN k).2 (.inl (s7 k e.symm))))) (fun b hb => ⟨(wj b hb).1, (wj b hb).2.1, fun u j _ wE => (wj b hb).2.2.2 u j wE⟩) (fun _ hb => hb) (fun _ hb => .inl hb) _ _ [.arr true ti.size (wH ++ news)]
   (fun _ => ⟨v', fun k => ((xs ++ ys)[k]?).getD undef, fun b => blk v' = some b \/ (JL σ h (l1 ++ Ya rows.flatten) b /\ blk (a.eval x) ≠ some b)⟩) ?_ (fun j => ?_) (fun j b _ hb => .inl hb) (fun j b wE wU => ?_) (fun j j' b wE w6 _ _ => ?_)
  ·refine ⟨Qe wY, fun q' wX wS hh => ?_, fun wX wS hh => by rw [vA] at hh; cases hh⟩
   rw [vA] at hh; cases hh
   simp only [if_true, List.length_append]
   have := jB vE
   rwa [List.length_append] at this
  ·cases j with
   | zero => exact ⟨e1, xs ++ ys, vE, oz, fz, fun k x d hx _ _ => by simp [hx]⟩
   | succ j => simp [YO, QP]
  ·rcases wU with wU | wU
   ·rcases oD b wU with h1 | h1
    ·exact ⟨.inl h1.1, fun hx => by have := (r.hX b hx).2; omega, h1.2⟩
    ·have h3 := (tN b).2 (.inl (s7 b h1))
     have h2 := wj b h3
     exact ⟨.inr h3, h2.2.1, by have := ua.size; omega⟩
   ·have h2 := wj b wU.1
    exact ⟨.inr wU.1, h2.2.1, by have := ua.size; omega⟩
  ·have : ∀ j, YO [Ob.arr true ti.size (wH ++ news)] j ≠ .none -> j = 0 := by
    intro j hj
    cases j with
    | zero => rfl
    | succ j => simp [YO] at hj
   rw [this j wE, this j' w6]
 rcases vE.2 with ⟨fp, mu⟩ | ⟨g2, mY, fq, vJ, _, ui, fr, ft, fu, iQ⟩
 ·have wP : rows = [] := List.eq_nil_of_length_eq_zero mu
  have uZ : news = [] := List.eq_nil_of_length_eq_zero (by rw [<- mV, mu])
  have eA : ys = [] := List.eq_nil_of_length_eq_zero (by rw [uo, uZ]; simp)
  have wo : ∃ base cap, a.eval x = .slice base wH.length cap /\ wH.length <= cap /\ (base = none -> cap = 0) := by
   rcases wJ.2 with ⟨h1, h2⟩ | ⟨g, cap, cur, h1, _, _, tU, _⟩
   ·exact ⟨none, 0, by rw [h1, h2], by omega, fun _ => rfl⟩
   ·exact ⟨_, cap, h1, tU, (fun hh => by cases hh)⟩
  obtain ⟨base, cap, hex, tU, mS⟩ := wo
  refine key (a.eval x) w e0 ?_ (by rw [eA, uZ]; simpa using wJ) ⟨rfl, rfl, rfl, Nat.le_refl _, fun _ _ _ => rfl⟩ (fun b hb => .inr hb)
  rw [mf, fp]
  rw [hex]
  exact je t o.type _ ti hu hi base wH.length cap tU mS
 ·have mX : a.eval y = .slice (some ⟨g2, 0, none⟩) news.length mY := by rw [mf, vJ, mV]
  have wM : ∀ j u, ys[j]? = some u -> w.cell? ((⟨g2, 0, none⟩ : Addr).add j) = some u := by
   intro j u uD
   rw [xC]
   refine Km ui _ _ ?_
   rw [<- iQ, List.getElem?_take] at uD
   split at uD
   ·simpa using uD
   ·cases uD
  obtain ⟨v', w', e1, wW, wY, ua, oD⟩ := Uz (P := P) (w := w) t o.type _ e0 ti z hu hi sC si (by omega) (a.eval x) wH.length xs wJ ⟨g2, 0, none⟩ news.length mY ys uo wM
   (fun u uD => by
    obtain ⟨x', _, tb⟩ := sG.mem uD
    exact Z7.Xa tb) (by simp only [maxLen]; omega) v7
  refine key v' w' e1 ?_ wY ua oD
  rw [mX]; exact wW
theorem Qt.pick {xs : List Value} {ds : List D} {S : Nat -> Prop} (h1 : Qt w xs ds S) {p q n : Nat} (hp : p <= q) (hq : q + n <= xs.length) : Qt w (xs.take p ++ cut xs q n) (ds.take p ++ cut ds q n) S := by
 obtain ⟨hl, Sk, hk, hs, hd⟩ := h1
 have sU : (xs.take p).length = p := by rw [List.length_take]; omega
 have rE : (ds.take p).length = p := by rw [List.length_take]; omega
 refine ⟨by rw [List.length_append, List.length_append, sU, rE, Xl _ _ _ hq, Xl _ _ _ (by omega)], fun k => if k < p then Sk k else Sk (q + (k - p)), fun k x d hx wR => ?_, fun k b hb => ?_, fun i j b hi hj => ?_⟩
 ·by_cases ny : k < p
  ·rw [List.getElem?_append_left (by omega)] at hx wR
   rw [List.getElem?_take, if_pos ny] at hx wR
   simp only [if_pos ny]
   exact hk k x d hx wR
  ·rw [List.getElem?_append_right (by omega), sU] at hx
   rw [List.getElem?_append_right (by omega), rE] at wR
   simp only [if_neg ny]
   exact hk _ x d (yJ _ _ _ _ _ hx) (yJ _ _ _ _ _ wR)
 ·dsimp only at hb
  split at hb <;> exact hs _ b hb
 ·dsimp only at hi hj
  split at hi <;> split at hj
  ·exact hd _ _ b hi hj
  ·have := hd _ _ b hi hj; omega
  ·have := hd _ _ b hi hj; omega
  ·have := hd _ _ b hi hj; omega
end
end Go.Vm
namespace Go.Vm
open Go.RowKit
def Lt : List At -> Bool
 | [] => true
 | .d (.sl _ _) :: _ => false
 | _ :: xs => Lt xs
theorem HZ : ∀ {xs : List At}, Lt xs = true -> ∀ x ∈ xs, ∀ s r, x ≠ .d (.sl s r)
 | [], _, x, hx, _, _ => by cases hx
 | y :: xs, h, x, hx, s, r => by
  have h2 : Lt xs = true /\ ∀ s r, y ≠ .d (.sl s r) := by
   cases y with
   | d z => cases z with
    | sl s r => cases h
    | _ => exact ⟨h, fun s r e => by cases e⟩
   | _ => exact ⟨h, fun s r e => by cases e⟩
  rcases List.mem_cons.1 hx with rfl | hx
  ·exact h2.2 s r
  ·exact HZ h2.1 x hx s r
section
variable {P : Program} {T0 : CS} {B : Nat -> Prop} {σ : St} {a : Act} {w w' : World} {X X' : Nat -> Prop} {h : Nat -> Nat -> Hd}
theorem Ny (r : Rel T0 B σ a w X h) {o : Oper} {T : TypeId} {x : Operand} {d : Nat} {k : IntKind} {n : Nat} {z : List At} {zr : List D} (wA : o.op = .makeSlice T x x) (hd : o.dst = some d) (w8 : σ.fresh d = true)
  (ht : XC P T = true) (hz : Xy P (ZP P T) = true) (ud : qF P 12 (ZP P T) = some z) (m7 : zD z = some zr) (fg : Lt z = true) (vY : 0 < P.cellsOf (ZP P T)) (hx : jm P σ x k (n : Int)) (ot : P.bytesOf (ZP P T) * n <= 281474976710656) (oq : n <= 9223372036854775807)
  {K : Act -> World -> Prop} {Q : Exit -> Act -> World -> Prop} (hK : ∀ a' w', QX T0 B (σ.new d (.one (.sref d 0 0 n)) [.arr true (P.cellsOf (ZP P T)) (List.replicate n zr)]) a' w' -> Yw B w w' -> K a' w') : o.wp P a w K Q := by
 obtain ⟨ti, hu, hi, tE⟩ := XV ht
 obtain ⟨i, zv, row, vq, sC, pC, tP, si, uP, ug⟩ := yS hz
 rw [hi] at vq; cases vq
 rw [ud] at pC; cases pC
 have hex := zH r hx
 have o0 : (ti.bytes : Int) * (n : Int) <= 281474976710656 := by
  have : P.bytesOf (ZP P T) = ti.bytes := by simp [Program.bytesOf, hi]
  rw [this] at ot
  have h : ((ti.bytes * n : Nat) : Int) <= 281474976710656 := by omega
  rwa [Int.natCast_mul] at h
 have wW := run_make (P := P) w T (ZP P T) ti zv hu hi sC k k n n (by omega) (Int.le_refl _) o0 (by omega)
 simp only [Int.toNat_natCast] at wW
 unfold Oper.wp
 simp only [execOp, wA, hex, Sem.run_bind, wW, Result.andThen_ok, Sem.run_pure, Oper.upon_value, hd]
 have ph := Ig m7 (ug (Tof T0 X) h σ.ob w)
 have fx := ph.length
 have e1 : zv.cells.toList.length = zv.cells.size := Array.length_toList
 have sj : zr.length = ti.size := by omega
 have u6 : (madeCells zv.cells (n * ti.size)).toList.length = n * ti.size := by rw [Array.length_toList, size_madeCells]
 have pF : ∀ q u, (madeCells zv.cells (n * ti.size)).toList[q]? = some u -> zv.cells.toList[q % ti.size]? = some u := by
  intro q u hq
  have wO : q < n * ti.size := by have := (List.getElem?_eq_some_iff.1 hq).1; omega
  have o5 : q % ti.size < zv.cells.size := by rw [si]; exact Nat.mod_lt _ (by omega)
  have : (madeCells zv.cells (n * ti.size)).toList[q]? = some (zv.cells[q % zv.cells.size]!) := by
   simp [madeCells, wO]
  rw [this] at hq
  cases hq
  rw [si]
  simp [o5]
 have sG : Qt (w.alloc (.cells (madeCells zv.cells (n * ti.size)) (ZP P T))) (madeCells zv.cells (n * ti.size)).toList (List.replicate n zr).flatten (fun _ => False) := by
  refine ⟨by rw [u6, YL _ ti.size (by intro q hq; rw [List.eq_of_mem_replicate hq]; exact sj)]; simp, fun _ _ => False, fun q u dd hq uC => ?_, fun _ _ hb => hb, fun _ _ _ hb => hb.elim⟩
  have wO : q < n * ti.size := by have := (List.getElem?_eq_some_iff.1 hq).1; omega
  rw [xQ zr n q (by rw [sj]; exact wO), sj] at uC
  exact GO m7 (ug (Tof T0 X) h σ.ob w) (HZ fg) _ _ _ u dd (pF q u hq) uC
 have := r.DQ w8 (World.grownBy_alloc w (.cells (madeCells zv.cells (n * ti.size)) (ZP P T)) none) (.slice (some ⟨w.heap.size, 0, none⟩) n n) (e := ZP P T) (size := P.cellsOf (ZP P T)) (rows := List.replicate n zr) (xs := (madeCells zv.cells (n * ti.size)).toList)
  ⟨by rw [u6, uP]; simp, .inr ⟨w.heap.size, n, _, by simp, Nat.zero_le _, heap_alloc_new w _, by simp, by simp only [maxLen]; omega, by rw [size_madeCells, uP], by rw [List.take_of_length_le (by rw [u6, uP]; simp)]⟩⟩
  (by intro q hq; rw [List.eq_of_mem_replicate hq]; omega) sG
  (fun b hb => by simp [blk] at hb; subst hb; exact ⟨Nat.le_refl _, by simp⟩)
 rw [List.length_replicate] at this
 exact hK _ _ this.1 this.2
theorem Qt.place {xs ys : List Value} {ds es : List D} {S S' : Nat -> Prop} (h1 : Qt w xs ds S) (h2 : Qt w ys es S') (hd : ∀ b, S b -> S' b -> False) (o : Nat) (ho : o + ys.length <= xs.length) : Qt w (Vm.place xs o ys) (Vm.place ds o es) (fun b => S b \/ S' b) := by
 obtain ⟨l1, Sk, a1, a2, a3⟩ := h1
 obtain ⟨l2, pN, b1, b2, b3⟩ := h2
 refine ⟨by rw [XF _ _ _ ho, XF _ _ _ (by omega), l1], fun k => if o <= k /\ k < o + ys.length then pN (k - o) else Sk k, fun k x d hx wR => ?_, fun k b hb => ?_, fun i j b hi hj => ?_⟩
 ·rcases xr xs o ys ho k x hx with ⟨p1, p2, p3⟩ | ⟨p1, p3⟩
  ·rcases xr ds o es (by omega) k d wR with ⟨_, _, p4⟩ | ⟨p4, _⟩
   ·simp only [p1, p2, and_self, if_true]; exact b1 _ x d p3 p4
   ·exact absurd ⟨p1, by omega⟩ p4
  ·rcases xr ds o es (by omega) k d wR with ⟨p4, p5, _⟩ | ⟨_, p4⟩
   ·exact absurd ⟨p4, by omega⟩ p1
   ·simp only [p1, if_false]; exact a1 k x d p3 p4
 ·by_cases hk : o <= k /\ k < o + ys.length
  ·simp only [hk, and_self, if_true] at hb; exact .inr (b2 _ b hb)
  ·simp only [hk, if_false] at hb; exact .inl (a2 k b hb)
 ·by_cases vq : o <= i /\ i < o + ys.length
  ·simp only [vq, and_self, if_true] at hi
   by_cases uu : o <= j /\ j < o + ys.length
   ·simp only [uu, and_self, if_true] at hj
    have := b3 _ _ b hi hj; omega
   ·simp only [uu, if_false] at hj; exact (hd b (a2 j b hj) (b2 _ b hi)).elim
  ·simp only [vq, if_false] at hi
   by_cases uu : o <= j /\ j < o + ys.length
   ·simp only [uu, and_self, if_true] at hj; exact (hd b (a2 i b hi) (b2 _ b hj)).elim
   ·simp only [uu, if_false] at hj; exact a3 i j b hi hj
theorem Pk (r : Rel T0 B σ a w X h) {o : Oper} {T : TypeId} {x y : Operand} (wA : o.op = .store T x y) (hd : o.dst = none) (ht : zz P T = true) (sM : gOf (look P σ 0 x) = true) (sN : gOf (look P σ T y) = true)
  {t j i c : Nat} (hx : unc (look P σ 0 x) = .one (.ptr t j i c)) {size : Nat} {rows : List (List D)} (ho : σ.ob t j = .arr true size rows) (hi : i < rows.length) {ds : List D} (ve : (unc (look P σ T y)).flat = true) (sw : QR σ (unc (look P σ T y)).cells = some ds) (we : XS σ (unc (look P σ T y)).cells)
  (vB : (Ya (unc (look P σ T y)).cells).Nodup) (pw : (t, j) ∉ Ya (unc (look P σ T y)).cells) (fh : (σ.Z0 (Ya (unc (look P σ T y)).cells)).J5 (At.isT t) = false) (hl : ds.length = P.cellsOf T) (hle : c + P.cellsOf T <= size)
  {K : Act -> World -> Prop} {Q : Exit -> Act -> World -> Prop} (hK : ∀ a' w', QX T0 B ((σ.Z0 (Ya (unc (look P σ T y)).cells)).Zt t j (.arr true size (rows.set i (place (rows.getD i []) c ds)))) a' w' -> Yw B w w' -> K a' w') : o.wp P a w K Q := by
 obtain ⟨_, ti, _, mT, _, _⟩ := xT ht
 have ox := r.arg (P := P) 0 x hx sM
 obtain ⟨b, cap, cur, e, xs, hb, he, hh, vn, uO, uI, u4, hz, sF, _, wJ⟩ := r.arr ho ox
 obtain ⟨wJ, hn⟩ := wJ rfl
 have hy := qH ve (r.arg (P := P) T y rfl sN)
 have uc := Uw r hy sw we vB
 have uo := uc.1
 have e2 : (a.eval y).cells.toList.length = (a.eval y).cells.size := Array.length_toList
 have e3 : cur.toList.length = cur.size := Array.length_toList
 have wh : rows[i]? = some (rows.getD i []) := by simp [List.getD_eq_getElem?_getD, List.getElem?_eq_getElem hi]
 have hmul : i * size + size <= rows.length * size := by rw [<- Nat.succ_mul]; exact Nat.mul_le_mul_right _ hi
 have oF : rows.length * size <= cap * size := Nat.mul_le_mul_right _ vn
 have wW := run_store (P := P) (w := w) mT (o := i * size + c) (val := a.eval y) hh (by omega) (by omega) (fun u hu => by obtain ⟨x', _, tb⟩ := hy.mem hu; exact Z7.Xa tb)
 have wV : σ.ob t j ≠ .none := by rw [ho]; simp
 have wc : blk (h t j).v = some b := by rw [hb]; rfl
 have hB := r.CT wV wc
 have vR := r.ub t j b wV wc
 have pT : xs.length = rows.length * size := by rw [sF, YL rows size hz]
 have tu : (rows.getD i []).length = size := hz _ (List.mem_of_getElem? wh)
 generalize hL : Ya (unc (look P σ T y)).cells = L at *
 have r1 := r.Z0 L
 have tx : (σ.Z0 L).ob t j = .arr true size rows := by rw [St.JM, if_neg pw, ho]
 have wj := r.zQ L
 have uU : ∀ b', (h t j).u b' -> JL σ h L b' -> False := by
  rintro b' uD ⟨p, hp, wE, n9⟩
  obtain ⟨q1, q2⟩ := r.inj t j p.1 p.2 b' wV wE uD n9
  exact pw (by rw [q1, q2]; exact hp)
 unfold Oper.wp
 simp only [execOp, wA, he, Sem.run_bind, wW, Result.andThen_ok, Sem.run_pure, Oper.upon_skip, hd]
 refine hK _ _ ⟨X, _, r1.change (by rw [tx]; simp) (by simp [World.setRow]) (fun k hk => setRow_other w b k _ (fun e => hk (e ▸ vR))) (JL σ h L) (fun b' wU => wj b' wU) _ (by rw [tx]; simp [Ob.Es])
  ⟨(h t j).v, fun k => ((place xs (i * size + c) (a.eval y).cells.toList)[k]?).getD undef, fun b' => (h t j).u b' \/ JL σ h L b'⟩ rfl (fun b' wU => wU) (fun b' wU => .inl (r.ub t j b' wV wU)) (At.isT t) fh (.inl (fun u i c => by simp [At.isT])) ?_⟩ (Yw.setRow hB.1 _)
 have vb := setRow_heap w b cur (place cur.toList (i * size + c) (a.eval y).cells.toList).toArray e (0, 0) hh
 have wT : ∀ b', b' ≠ b -> (w.setRow b (place cur.toList (i * size + c) (a.eval y).cells.toList).toArray).heap[b']? = w.heap[b']? := fun b' wE => setRow_other w b b' _ wE
 have ur : ∀ r ∈ rows.set i (place (rows.getD i []) c ds), r.length = size := by
  intro r' vS
  rcases List.mem_or_eq_of_mem_set vS with vS | vS
  ·exact hz r' vS
  ·rw [vS, XF _ _ _ (by omega), tu]
 refine ⟨e, place xs (i * size + c) (a.eval y).cells.toList, ⟨?_, .inr ⟨b, cap, _, by simpa using hb, Nat.zero_le _, vb, by simpa using vn, uO, ?_, ?_⟩⟩, ur, ?_, fun k u d hu _ _ => by simp [hu]⟩
 ·rw [XF _ _ _ (by omega), pT]; simp
 ·simp only [List.size_toArray]
  rw [XF _ _ _ (by omega), e3, uI]
 ·simp only [List.length_set]
  rw [Tx _ _ _ _ (by omega) (by omega), u4]
 ·rw [Kp size c ds (by omega) rows i _ wh hz]
  have k1 : Qt (w.setRow b (place cur.toList (i * size + c) (a.eval y).cells.toList).toArray) xs rows.flatten (fun b => (h t j).u b /\ blk (h t j).v ≠ some b) := wJ.Tt (fun b' wU => wT b' (fun e => wU.2 (by rw [e]; exact wc)))
  have k2 : Qt (w.setRow b (place cur.toList (i * size + c) (a.eval y).cells.toList).toArray) (a.eval y).cells.toList ds (JL σ h L) := uc.Tt (fun b' wU => wT b' (fun e => uU b' (by rw [e]; exact vR) wU))
  refine (k1.place k2 (fun b' h1 h2 => uU b' h1.1 h2) _ (by omega)).mono (fun b' wU => ?_)
  rcases wU with wU | wU
  ·exact ⟨.inl wU.1, wU.2⟩
  ·exact ⟨.inr wU, fun e => uU b' (r.ub t j b' wV e) wU⟩
theorem Own.E7 {v : Value} {n : Nat} {s : List (List D)} {S S2 : Nat -> Prop} (uT : Own w v (.sl n s) S) {k q : Nat} (hk : k < s.length) {ys : List Value} {ds : List D} (hy : Qt w ys ds S2) (hle : q + ds.length <= n) (hd : ∀ b, S b -> S2 b -> False) :
  ∃ g cap cur e, v = .slice (some ⟨g, 0, none⟩) s.length cap /\ S g /\ w.heap[g]? = some (.cells cur e (0, 0)) /\ k * n + q + ys.length <= cur.size /\ Own (w.setRow g (place cur.toList (k * n + q) ys).toArray) v (.sl n (s.set k (place (s.getD k []) q ds))) (fun b => S b \/ S2 b) := by
 cases uT with
 | sl v size rows S e xs Sk ho hz hb hl vp hs wR =>
  have uo := hy.1
  obtain ⟨sF, ⟨_, h0⟩ | ⟨g, cap, cur, hv, u9, hh, vn, uO, uI, u4⟩⟩ := ho
  ·omega
  have ow : S g := hb g (by rw [hv]; rfl)
  have wh : s[k]? = some (s.getD k []) := by simp [List.getD_eq_getElem?_getD, List.getElem?_eq_getElem hk]
  have hmul : k * n + n <= s.length * n := by rw [<- Nat.succ_mul]; exact Nat.mul_le_mul_right _ hk
  have oF : s.length * n <= cap * n := Nat.mul_le_mul_right _ vn
  have e3 : cur.toList.length = cur.size := Array.length_toList
  have tu : (s.getD k []).length = n := hz _ (List.mem_of_getElem? wh)
  refine ⟨g, cap, cur, e, hv, ow, hh, by omega, ?_⟩
  have vb := setRow_heap w g cur (place cur.toList (k * n + q) ys).toArray e (0, 0) hh
  have wT : ∀ b', b' ≠ g -> (w.setRow g (place cur.toList (k * n + q) ys).toArray).heap[b']? = w.heap[b']? := fun b' wE => setRow_other w g b' _ wE
  have ur : ∀ r ∈ s.set k (place (s.getD k []) q ds), r.length = n := by
   intro r' vS
   rcases List.mem_or_eq_of_mem_set vS with vS | vS
   ·exact hz r' vS
   ·rw [vS, XF _ _ _ (by omega), tu]
  have wc : blk v = some g := by rw [hv]; rfl
  have k1 : Qt (w.setRow g (place cur.toList (k * n + q) ys).toArray) xs s.flatten (fun b => S b /\ blk v ≠ some b) :=
   Qt.Tt (fun b' wU => wT b' (fun e => wU.2 (by rw [e]; exact wc))) (show Qt w xs s.flatten (fun b => S b /\ blk v ≠ some b) from ⟨hl, Sk, vp, fun k b hb => hs k b hb, wR⟩)
  have k2 : Qt (w.setRow g (place cur.toList (k * n + q) ys).toArray) ys ds S2 := hy.Tt (fun b' wU => wT b' (fun e => hd b' (by rw [e]; exact ow) wU))
  have k3 := k1.place k2 (fun b' h1 h2 => hd b' h1.1 h2) (k * n + q) (by rw [sF]; omega)
  rw [<- Kp n q ds (by omega) s k _ wh hz] at k3
  obtain ⟨nL, fk, a1, a2, a3⟩ := k3
  refine .sl v n _ _ e (place xs (k * n + q) ys) fk ⟨?_, .inr ⟨g, cap, _, by simpa using hv, u9, vb, by simpa using vn, uO, ?_, ?_⟩⟩ ur (fun b' wU => .inl (hb b' wU)) nL a1 (fun k b wU => ?_) a3
  ·rw [XF _ _ _ (by rw [sF]; omega), sF]; simp
  ·simp only [List.size_toArray]
   rw [XF _ _ _ (by omega), e3, uI]
  ·simp only [List.length_set]
   rw [Tx _ _ _ _ (by omega) (by omega), u4]
  ·rcases a2 k b wU with h1 | h1
   ·exact ⟨.inl h1.1, h1.2⟩
   ·exact ⟨.inr h1, fun e => hd b (hb b e) h1⟩
theorem Pv (r : Rel T0 B σ a w X h) {o : Oper} {T : TypeId} {x y : Operand} (wA : o.op = .store T x y) (hd : o.dst = none) (ht : zz P T = true) (sM : gOf (look P σ 0 x) = true) (sN : gOf (look P σ T y) = true)
  {t j i c k q n : Nat} {s : List (List D)} (hx : unc (look P σ 0 x) = .one (.tref t j i c (some (k * n + q)))) {size : Nat} {rows : List (List D)} (ho : σ.ob t j = .arr true size rows) (hi : i < rows.length) (wM : (rows.getD i [])[c]? = some (.sl n s)) (hk : k < s.length)
  {ds : List D} (ve : (unc (look P σ T y)).flat = true) (sw : QR σ (unc (look P σ T y)).cells = some ds) (we : XS σ (unc (look P σ T y)).cells)
  (vB : (Ya (unc (look P σ T y)).cells).Nodup) (pw : (t, j) ∉ Ya (unc (look P σ T y)).cells) (hl : ds.length = P.cellsOf T) (hle : q + P.cellsOf T <= n)
  {K : Act -> World -> Prop} {Q : Exit -> Act -> World -> Prop} (hK : ∀ a' w', QX T0 B ((σ.Z0 (Ya (unc (look P σ T y)).cells)).Zt t j (.arr true size (rows.set i (place (rows.getD i []) c [.sl n (s.set k (place (s.getD k []) q ds))])))) a' w' -> Yw B w w' -> K a' w') : o.wp P a w K Q := by
 obtain ⟨_, ti, _, mT, _, _⟩ := xT ht
 have wV : σ.ob t j ≠ .none := by rw [ho]; simp
 have h0 := r.obj t j
 rw [ho] at h0
 obtain ⟨e, vs, uT, hz, ⟨m0, Sk, o1, o2, o3⟩, hn⟩ := h0
 have wh : rows[i]? = some (rows.getD i []) := by simp [List.getD_eq_getElem?_getD, List.getElem?_eq_getElem hi]
 have v5 : rows.flatten[i * size + c]? = some (.sl n s) := yZ rows size hz i _ wh c _ wM
 have wO : i * size + c < vs.length := by rw [m0]; exact (List.getElem?_eq_some_iff.1 v5).1
 have pf : vs[i * size + c]? = some vs[i * size + c] := List.getElem?_eq_getElem wO
 have gB := hn _ _ _ pf v5 rfl
 have wJ := o1 _ _ _ pf v5
 have hy := qH ve (r.arg (P := P) T y rfl sN)
 have uc := Uw r hy sw we vB
 have uo := uc.1
 have e2 : (a.eval y).cells.toList.length = (a.eval y).cells.size := Array.length_toList
 generalize hL : Ya (unc (look P σ T y)).cells = L at *
 have uU : ∀ b', (h t j).u b' -> JL σ h L b' -> False := by
  rintro b' uD ⟨p, hp, wE, n9⟩
  obtain ⟨q1, q2⟩ := r.inj t j p.1 p.2 b' wV wE uD n9
  exact pw (by rw [q1, q2]; exact hp)
 have iV : ∀ b, Sk (i * size + c) b -> (h t j).u b := fun b hb => (o2 _ b hb).1
 obtain ⟨g, cap, cur, e1, hv, ow, hh, vV, w7⟩ := wJ.E7 (q := q) hk uc (by omega) (fun b h1 h2 => uU b (iV b h1) h2)
 have ox := r.arg (P := P) 0 x hx sM
 have he : a.eval x = .pointer (some ⟨g, k * n + q, none⟩) := by
  obtain ⟨b, n', pe, h1, h2⟩ := ox.2 size rows ho
  rw [gB, hv] at h1
  cases h1; exact h2
 have wW := run_store (P := P) (w := w) mT (o := k * n + q) (val := a.eval y) hh (by omega) (by omega) (fun u hu => by obtain ⟨x', _, tb⟩ := hy.mem hu; exact Z7.Xa tb)
 have eC := r.own t j g wV (iV g ow)
 have r1 := r.Z0 L
 have tx : (σ.Z0 L).ob t j = .arr true size rows := by rw [St.JM, if_neg pw, ho]
 have wj := r.zQ L
 have uI : c + 1 <= size := by
  have h1 := (List.getElem?_eq_some_iff.1 wM).1
  have h2 := hz _ (List.mem_of_getElem? wh)
  omega
 have iW := Kp size c [D.sl n (s.set k (place (s.getD k []) q ds))] (by simpa using uI) rows i _ wh hz
 have iX : i * size + c + [D.sl n (s.set k (place (s.getD k []) q ds))].length <= rows.flatten.length := by rw [<- m0]; simp; omega
 have tu : (rows.getD i []).length = size := hz _ (List.mem_of_getElem? wh)
 have ur : ∀ r ∈ rows.set i (place (rows.getD i []) c [D.sl n (s.set k (place (s.getD k []) q ds))]), r.length = size := by
  intro r' vS
  rcases List.mem_or_eq_of_mem_set vS with vS | vS
  ·exact hz r' vS
  ·rw [vS, XF _ _ _ (by rw [tu]; simpa using uI), tu]
 have wT : ∀ b', b' ≠ g -> (w.setRow g (place cur.toList (k * n + q) (a.eval y).cells.toList).toArray).heap[b']? = w.heap[b']? := fun b' wE => setRow_other w g b' _ wE
 have wc : ∀ b, blk (h t j).v = some b -> (w.setRow g (place cur.toList (k * n + q) (a.eval y).cells.toList).toArray).heap[b]? = w.heap[b]? := fun b hb => wT b (fun e => (o2 _ g ow).2 (by rw [<- e]; exact hb))
 unfold Oper.wp
 simp only [execOp, wA, he, Sem.run_bind, wW, Result.andThen_ok, Sem.run_pure, Oper.upon_skip, hd]
 refine hK _ _ ⟨X, _, r1.change (by rw [tx]; simp) (by simp [World.setRow]) (fun k' vp => wT k' (fun e => vp (e ▸ iV g ow))) (JL σ h L) (fun b' wU => wj b' wU) _ (by rw [tx]; simp [Ob.Es])
  ⟨(h t j).v, (h t j).n, fun b' => (h t j).u b' \/ JL σ h L b'⟩ rfl (fun b' wU => wU) (fun b' wU => .inl (r.ub t j b' wV wU)) (fun _ => false) (St.yR _) (.inr rfl) ?_⟩ (Yw.setRow eC.1 _)
 refine ⟨e, vs, by rw [List.length_set]; exact zj wc uT, ur, ⟨?_, fun k' => if k' = i * size + c then (fun b => Sk (i * size + c) b \/ JL σ h L b) else Sk k', fun k' x dd hx uC => ?_, fun k' b hb => ?_, fun p' q' b hp hq => ?_⟩, fun k' x dd hx uC vf => ?_⟩
 ·rw [iW, XF _ _ _ iX, m0]
 ·rw [iW] at uC
  rcases xr _ _ _ iX k' dd uC with ⟨k1, k2, k3⟩ | ⟨k1, k3⟩
  ·have vp : k' = i * size + c := by simp at k2; omega
   subst vp
   rw [pf] at hx; cases hx
   simp at k3; subst k3
   simp only [if_true]; exact w7
  ·have vp : ¬ k' = i * size + c := fun vp => k1 ⟨by omega, by simp; omega⟩
   simp only [vp, if_false]
   exact (o1 k' x dd hx k3).Tt (fun b hb => wT b (fun e => vp (o3 k' _ b hb (by rw [e]; exact ow))))
 ·by_cases vp : k' = i * size + c
  ·simp only [vp, if_true] at hb
   rcases hb with hb | hb
   ·exact ⟨.inl (o2 _ b hb).1, (o2 _ b hb).2⟩
   ·exact ⟨.inr hb, fun e => uU b (r.ub t j b wV e) hb⟩
  ·simp only [vp, if_false] at hb; exact ⟨.inl (o2 k' b hb).1, (o2 k' b hb).2⟩
 ·by_cases rT : p' = i * size + c
  ·by_cases tA : q' = i * size + c
   ·rw [rT, tA]
   ·simp only [rT, if_true] at hp
    simp only [tA, if_false] at hq
    rcases hp with hp | hp
    ·rw [rT]; exact (o3 _ _ b hp hq)
    ·exact (uU b (o2 q' b hq).1 hp).elim
  ·simp only [rT, if_false] at hp
   by_cases tA : q' = i * size + c
   ·simp only [tA, if_true] at hq
    rcases hq with hq | hq
    ·rw [tA]; exact (o3 _ _ b hp hq)
    ·exact (uU b (o2 p' b hp).1 hq).elim
   ·simp only [tA, if_false] at hq; exact o3 p' q' b hp hq
 ·rw [iW] at uC
  rcases xr _ _ _ iX k' dd uC with ⟨k1, k2, k3⟩ | ⟨k1, k3⟩
  ·have vp : k' = i * size + c := by simp at k2; omega
   subst vp
   rw [pf] at hx; cases hx; exact gB
  ·exact hn k' x dd hx k3 vf
end
section
variable {P : Program} {T0 : CS} {B : Nat -> Prop} {σ : St} {a : Act} {w w' : World} {X X' : Nat -> Prop} {h : Nat -> Nat -> Hd}
def BO (σ : St) (x : V) (size : Nat) (wH : List (List D)) (l : List (Nat × Nat)) : Prop :=
 match x with
 | .one (.nil _) => wH = [] /\ l = []
 | .one (.sref t j lo len) => lo = 0 /\ len = wH.length /\ l = [(t, j)] /\ (σ.ob t j = .arr true size wH \/ (σ.ob t j = .lit size [] /\ wH = []))
 | _ => False
end
def Dt (w : World) (res : List (List D)) (e : Ending) (w' : World) : Prop :=
 ∃ (vs : List Value) (wi : List (List Value)), e = .returned (V7 vs) /\ Below w.heap.size w w' /\ Z2 KC vs wi /\ Z2 (fun (cs : List Value) (row : List D) => cs.length = row.length) wi res /\
  Qt w' wi.flatten res.flatten (fun b => w.heap.size <= b /\ b < w'.heap.size)
def YN (P : Program) (f : FuncId) (args res : List (List D)) : Prop :=
 WW P f = true /\ ∀ (T : CS) (w : World) (wx : List Value), (∀ b k, T b k -> b < w.heap.size) -> Z2 (fun v row => ∃ cs, KC v cs /\ Z2 (Rd T w) cs row) wx args -> Calls P f wx.toArray w (Dt w res)
theorem yE {α β : Type} {R : α -> β -> Prop} : ∀ {wi : List (List α)} {res : List (List β)}, Z2 (fun (cs : List α) (row : List β) => cs.length = row.length) wi res -> (∀ (k : Nat) (x : α) (d : β), wi.flatten[k]? = some x -> res.flatten[k]? = some d -> R x d) -> Z2 (fun cs row => Z2 R cs row) wi res := by
 intro wi res wG
 induction wG with
 | nil => intro _; exact .nil
 | @cons cs row wi res hl _ ih =>
  intro hk
  refine .cons (Z2.Ku hl (fun k x d hx hd => hk k x d ?_ ?_)) (ih (fun k x d hx hd => hk (cs.length + k) x d ?_ ?_))
  ·rw [List.flatten_cons, List.getElem?_append_left (List.getElem?_eq_some_iff.1 hx).1]; exact hx
  ·rw [List.flatten_cons, List.getElem?_append_left (List.getElem?_eq_some_iff.1 hd).1]; exact hd
  ·rw [List.flatten_cons, List.getElem?_append_right (by omega)]; simpa using hx
  ·rw [List.flatten_cons, List.getElem?_append_right (by omega), hl]; simpa using hd
theorem YN.rd {P : Program} {f : FuncId} {args res : List (List D)} (hs : YN P f args res) : Xm P f false args res := by
 refine ⟨hs.1, fun T w wx hT ha => (hs.2 T w wx hT ha).mono ?_⟩
 rintro e w' ⟨vs, wi, he, hb, hf, hl, ⟨_, Sk, h1, h2, h3⟩⟩
 refine ⟨vs, wi, fun b => w.heap.size <= b /\ b < w'.heap.size, he, hb, fun b hb => hb, hf, yE hl (fun k x d hx hd => ?_), fun hh => by cases hh⟩
 simp only [zf, Bool.false_eq_true, if_false]
 exact (h1 k x d hx hd).rd (fun b k' hb => .inr (h2 k b hb))
def YC : List Bool -> List D -> List Ob
 | _, [] => []
 | q :: qs, .sl size rows :: ds => .arr q size rows :: YC qs ds
 | [], .sl size rows :: ds => .arr true size rows :: YC [] ds
 | qs, _ :: ds => .none :: YC qs.tail ds
def Ke : List Bool -> List D -> Prop
 | _, [] => True
 | q :: qs, .sl _ rows :: ds => (q = false -> ∀ r ∈ rows, ∀ x ∈ r, x.scalar = true) /\ Ke qs ds
 | [], .sl _ _ :: ds => Ke [] ds
 | qs, _ :: ds => Ke qs.tail ds
theorem YV : ∀ (qs : List Bool) (ds : List D) (k : Nat), Ke qs ds -> (∀ size rows, ds[k]? = some (.sl size rows) -> ∃ q, YO (YC qs ds) k = .arr q size rows /\ (q = false -> ∀ r ∈ rows, ∀ x ∈ r, x.scalar = true)) /\ (YO (YC qs ds) k ≠ .none -> ∃ size rows, ds[k]? = some (.sl size rows))
 | qs, [], k, _ => ⟨fun size rows h => by simp at h, fun h => by cases qs <;> simp [YC, YO] at h⟩
 | q :: qs, .sl size rows :: ds, 0, hf => ⟨fun s r h => by simp at h; obtain ⟨rfl, rfl⟩ := h; exact ⟨q, by simp [YC, YO], hf.1⟩, fun _ => ⟨size, rows, by simp⟩⟩
 | [], .sl size rows :: ds, 0, hf => ⟨fun s r h => by simp at h; obtain ⟨rfl, rfl⟩ := h; exact ⟨true, by simp [YC, YO], fun h => by cases h⟩, fun _ => ⟨size, rows, by simp⟩⟩
 | qs, .int k n :: ds, 0, hf => ⟨fun s r h => by simp at h, fun h => by cases qs <;> simp [YC, YO] at h⟩
 | qs, .bool b :: ds, 0, hf => ⟨fun s r h => by simp at h, fun h => by cases qs <;> simp [YC, YO] at h⟩
 | qs, .str s :: ds, 0, hf => ⟨fun s r h => by simp at h, fun h => by cases qs <;> simp [YC, YO] at h⟩
 | qs, .unk :: ds, 0, hf => ⟨fun s r h => by simp at h, fun h => by cases qs <;> simp [YC, YO] at h⟩
 | q :: qs, .sl size rows :: ds, k + 1, hf => by
  have := YV qs ds k hf.2
  simpa [YC, YO] using this
 | [], .sl size rows :: ds, k + 1, hf => by
  have := YV [] ds k hf
  simpa [YC, YO] using this
 | qs, .int _ _ :: ds, k + 1, hf => by
  have := YV qs.tail ds k (by cases qs <;> exact hf)
  cases qs <;> simpa [YC, YO] using this
 | qs, .bool _ :: ds, k + 1, hf => by
  have := YV qs.tail ds k (by cases qs <;> exact hf)
  cases qs <;> simpa [YC, YO] using this
 | qs, .str _ :: ds, k + 1, hf => by
  have := YV qs.tail ds k (by cases qs <;> exact hf)
  cases qs <;> simpa [YC, YO] using this
 | qs, .unk :: ds, k + 1, hf => by
  have := YV qs.tail ds k (by cases qs <;> exact hf)
  cases qs <;> simpa [YC, YO] using this
section
variable {P : Program} {T0 : CS} {B : Nat -> Prop} {σ : St} {a : Act} {w w' : World} {X X' : Nat -> Prop} {h : Nat -> Nat -> Hd}
theorem HQ (r : Rel T0 B σ a w X h) {o : Oper} {c : Call} {f : FuncId} {d : Nat} {rows res : List (List D)} (qs : List Bool) (wA : o.op = .call c) (hc : c.callee = .value (.func f)) (hd : o.dst = some d) (w8 : σ.fresh d = true)
  (wI : Xg P σ c.args.toList c.argTypes.toList rows) (hs : YN P f rows res) (hq : Ke qs res.flatten)
  {K : Act -> World -> Prop} {Q : Exit -> Act -> World -> Prop} (hK : ∀ a' w', QX T0 B (σ.new d (yh d res) (YC qs res.flatten)) a' w' -> Yw B w w' -> K a' w') : o.wp P a w K Q := by
 have wO := St.JT w8
 unfold Oper.wp
 rw [ju wA hc hs.1, Oper.upon_enter]
 have pG := r.Xg false wI (fun hh => by cases hh)
 simp only [Bool.false_eq_true, if_false] at pG
 refine (hs.2 (Tk T0 X h σ) w _ (fun b k hb => r.Ix hb) pG).mono ?_
 rintro e w' ⟨vs, wi, rfl, vt, wo, hlen, ⟨_, Sk, h1, h2, h3⟩⟩
 rw [hd]
 have hex : ∀ j, ∃ hd : Hd, (∀ c, wi.flatten[j]? = some c -> hd.v = c) /\ (∀ size rows, res.flatten[j]? = some (.sl size rows) -> (∀ b, hd.u b -> Sk j b) /\ (∀ b, blk hd.v = some b -> hd.u b) /\ ∀ T h ob, QP T h ob w' hd (.arr true size rows) /\ ((∀ r ∈ rows, ∀ x ∈ r, x.scalar = true) -> QP T h ob w' hd (.arr false size rows))) := by
  intro j
  have ve : wi.flatten.length = res.flatten.length := by
   have := yE (R := fun _ _ => True) hlen (fun _ _ _ _ _ => trivial)
   exact (zb this).length
  cases hj : res.flatten[j]? with
  | none => exact ⟨Hd.of ((wi.flatten[j]?).getD undef), fun c wv => by simp [Hd.of, wv], fun size rows hh => by cases hh⟩
  | some dd =>
   have re : j < wi.flatten.length := by rw [ve]; exact (List.getElem?_eq_some_iff.1 hj).1
   have rG : wi.flatten[j]? = some wi.flatten[j] := List.getElem?_eq_getElem re
   cases dd with
   | int k n => exact ⟨Hd.of wi.flatten[j], fun c wv => by rw [rG] at wv; cases wv; rfl, fun size rows hh => by cases hh⟩
   | bool k => exact ⟨Hd.of wi.flatten[j], fun c wv => by rw [rG] at wv; cases wv; rfl, fun size rows hh => by cases hh⟩
   | str k => exact ⟨Hd.of wi.flatten[j], fun c wv => by rw [rG] at wv; cases wv; rfl, fun size rows hh => by cases hh⟩
   | unk => exact ⟨Hd.of wi.flatten[j], fun c wv => by rw [rG] at wv; cases wv; rfl, fun size rows hh => by cases hh⟩
   | sl size rows =>
    have ho := h1 j _ _ rG hj
    generalize hv : wi.flatten[j] = v at ho
    cases ho with
    | sl v size rows S e xs pN ho hz hb hl hk pX wR =>
     refine ⟨⟨v, fun k => (xs[k]?).getD undef, Sk j⟩, fun c wv => by rw [rG, hv] at wv; cases wv; rfl, fun wX wS hh => ?_⟩
     cases hh
     refine ⟨fun b hb => hb, hb, fun T h ob => ⟨⟨e, xs, ho, hz, ⟨hl, pN, hk, fun k b hb => pX k b hb, wR⟩, fun k x d hx _ _ => by simp [hx]⟩, fun v5 => ⟨e, xs, ho, hz, Z2.Ku hl (fun k x d hx hd => ?_)⟩⟩⟩
     obtain ⟨r0, tG, hdr⟩ := List.mem_flatten.1 (List.mem_of_getElem? hd)
     have vf := v5 r0 tG d hdr
     have := hk k x d hx hd
     cases this with
     | int k n => exact .int _ _
     | bool b => exact .bool _
     | str s => exact .str _
     | unk v h => exact .unk _ h
     | sl => cases vf
 obtain ⟨hf, rU⟩ := Classical.axiomOfChoice hex
 refine hK _ _ ⟨X, fun t j => if t = d then hf j else h t j, ?_⟩ (Yw.Sh vt r.hB)
 have wV : ∀ j, (σ.new d (yh d res) (YC qs res.flatten)).ob d j = YO (YC qs res.flatten) j := fun j => by rw [St.QE]; simp [wO]
 have uF : Z2 (fun cs row => Z2 (qA (Tof T0 X) w') cs row) wi res := by
  refine yE hlen (fun k x d hx hd => ?_)
  have ho := h1 k x d hx hd
  cases ho with
  | int k n => exact Rd.int _ _
  | bool b => exact Rd.bool _
  | str s => exact Rd.str _
  | unk v h => exact Rd.unk _ h
  | sl v size rows S e xs pN ho hz hb hl hk pX wR => exact ⟨e, xs, ho⟩
 refine r.new w8 (Below.grownBy vt) (fun b hb => hb) (fun b hb => .inl hb) (yh d res) (V7 vs) (YC qs res.flatten) hf ?_ (fun j => ?_) (fun j b wE hb => ?_) (fun j b wE hb => ?_) (fun j j' b wE w6 hb wU => ?_)
 ·exact NV (h := fun t j => if t = d then hf j else h t j) (ob := (σ.new d (yh d res) (YC qs res.flatten)).ob) (t := d) wo uF (fun i size rows hi => by
   obtain ⟨q, tA, _⟩ := (YV qs res.flatten i hq).1 size rows hi
   exact ⟨q, by rw [wV]; exact tA⟩) (fun i c hi => by simp only [if_true]; exact (rU i).1 c hi)
 ·by_cases wE : YO (YC qs res.flatten) j = .none
  ·rw [wE]; trivial
  ·obtain ⟨size, rows, hj⟩ := (YV qs res.flatten j hq).2 wE
   obtain ⟨q, tA, mB⟩ := (YV qs res.flatten j hq).1 size rows hj
   rw [tA]
   have := ((rU j).2 size rows hj).2.2 (Tof T0 X) (fun t j => if t = d then hf j else h t j) (σ.new d (yh d res) (YC qs res.flatten)).ob
   cases q with
   | true => exact this.1
   | false => exact this.2 (mB rfl)
 ·obtain ⟨size, rows, hj⟩ := (YV qs res.flatten j hq).2 wE
  exact ((rU j).2 size rows hj).2.1 b hb
 ·obtain ⟨size, rows, hj⟩ := (YV qs res.flatten j hq).2 wE
  have := h2 j b (((rU j).2 size rows hj).1 b hb)
  exact ⟨this.1, fun hx => by have := (r.hX b hx).2; omega, this.2⟩
 ·obtain ⟨size, rows, hj⟩ := (YV qs res.flatten j hq).2 wE
  obtain ⟨wX, wS, uu⟩ := (YV qs res.flatten j' hq).2 w6
  exact h3 j j' b (((rU j).2 size rows hj).1 b hb) (((rU j').2 wX wS uu).1 b wU)
end
end Go.Vm
