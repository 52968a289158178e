/- An abstract machine RH the model of Go, by value, and that it is sound: part Vb. No condition. -/
import Derived.Test.YthjkhlcbpfnobaaGreatVa
set_option linter.unusedVariables false
set_option linter.unusedSimpArgs false
namespace Go.Vm
open Go.RowKit
section
variable {P : Program} {T0 : CS} {B : Nat -> Prop} {σ : St} {a : Act} {w w' : World} {X X' : Nat -> Prop} {h : Nat -> Nat -> Hd}
theorem Zm.GR {T T' : CS} {h h' : Nat -> Nat -> Hd} {ob uE : Nat -> Nat -> Ob} (hT : ∀ b k v, T b k -> w.cell? ⟨b, k, none⟩ = some v -> w'.cell? ⟨b, k, none⟩ = some v /\ T' b k) (hc : ∀ t j, Cpt h h' ob uE t j)
  {x : At} {v : Value} (r : Zm T h ob w x v) : Zm T' h' uE w' x v := by
 obtain ⟨d, hd⟩ : ∃ d, x.ref d = false := by
  cases x with
  | sref t j lo len => exact ⟨t + 1, by simp [At.ref]⟩
  | ptr t j i c => exact ⟨t + 1, by simp [At.ref]⟩
  | bptr t c => exact ⟨t + 1, by simp [At.ref]⟩
  | fn f t => exact ⟨t + 1, by simp [At.ref]⟩
  | tref t j i c o => exact ⟨t + 1, by simp [At.ref]⟩
  | any => exact ⟨0, rfl⟩
  | d x => exact ⟨0, rfl⟩
  | nil s => exact ⟨0, rfl⟩
  | rptr r c => exact ⟨0, rfl⟩
 exact Zm.carry hT (d := d) (fun t j _ => hc t j) hd r
def qW (p : At -> Bool) : List At -> Bool
 | [] => false
 | x :: xs => p x || qW p xs
def V.Nc (p : At -> Bool) : V -> Bool
 | .one x => p x
 | .agg xs => qW p xs
 | _ => false
def Pl (p : At -> Bool) : List V -> Bool
 | [] => false
 | x :: xs => x.Nc p || Pl p xs
def V.Jh (p : At -> Bool) : V -> Bool
 | .tup xs => Pl p xs
 | .cnd _ x => x.Nc p
 | .fix _ x => x.Nc p
 | .one x => p x
 | .agg xs => qW p xs
 | .any => false
def Jx (p : At -> Bool) : List Ob -> Bool
 | [] => false
 | .box cells :: os => qW p cells || Jx p os
 | .lit _ rows :: os => qW p rows.flatten || Jx p os
 | _ :: os => Jx p os
def St.Jh (p : At -> Bool) : St -> Bool
 | [] => false
 | e :: σ => e.1.Jh p || Jx p e.2 || St.Jh p σ
def At.isT (t : Nat) : At -> Bool
 | .tref u _ _ _ _ => u == t
 | _ => false
theorem zN : ∀ (xs : List At), qW (fun _ => false) xs = false
 | [] => rfl
 | _ :: xs => by simp [qW, zN xs]
theorem U6 : ∀ (xs : List V), Pl (fun _ => false) xs = false
 | [] => rfl
 | x :: xs => by cases x <;> simp [Pl, V.Nc, zN, U6 xs]
theorem MY (x : V) : x.Nc (fun _ => false) = false := by cases x <;> simp [V.Nc, zN]
theorem KP (x : V) : x.Jh (fun _ => false) = false := by cases x <;> simp [V.Jh, zN, U6, MY]
theorem yl : ∀ (os : List Ob), Jx (fun _ => false) os = false
 | [] => rfl
 | o :: os => by cases o <;> simp [Jx, zN, yl os]
theorem St.KP : ∀ (σ : St), St.Jh (fun _ => false) σ = false
 | [] => rfl
 | e :: σ => by simp [St.Jh, Go.Vm.KP, Go.Vm.yl, St.KP σ]
theorem St.VD {p : At -> Bool} : ∀ {σ : St}, σ.Jh p = false -> ∀ t, (σ.get t).Jh p = false
 | [], _, t => by simp [St.get, V.Jh]
 | e :: σ, h, 0 => by simp only [St.Jh, Bool.or_eq_false_iff] at h; exact h.1.1
 | e :: σ, h, t + 1 => by
  simp only [St.Jh, Bool.or_eq_false_iff] at h
  have := St.VD h.2 t
  simpa [St.get] using this
theorem Pr {p : At -> Bool} : ∀ {os : List Ob}, Jx p os = false -> ∀ j, Jx p [Zw os j] = false
 | [], _, j => by simp [Zw, Jx]
 | o :: os, h, 0 => by cases o <;> simp_all [Zw, Jx]
 | o :: os, h, j + 1 => by
  have h2 : Jx p os = false := by cases o <;> simp_all [Jx]
  have := Pr h2 j
  simpa [Zw] using this
theorem St.Tz {p : At -> Bool} : ∀ {σ : St}, σ.Jh p = false -> ∀ t j, Jx p [σ.ob t j] = false
 | [], _, t, j => by simp [St.ob, Jx]
 | e :: σ, h, 0, j => by simp only [St.Jh, Bool.or_eq_false_iff] at h; exact Pr h.1.2 j
 | e :: σ, h, t + 1, j => by
  simp only [St.Jh, Bool.or_eq_false_iff] at h
  have := St.Tz h.2 t j
  simpa [St.ob] using this
theorem Ty {T T' : CS} {h h' : Nat -> Nat -> Hd} {ob uE : Nat -> Nat -> Ob} {p : At -> Bool} (f : ∀ {x : At} {v : Value}, p x = false -> Zm T h ob w x v -> Zm T' h' uE w' x v) {xs : List At} {vs : List Value} (hx : qW p xs = false)
  (r : Zg (Zm T h ob w) xs vs) : Zg (Zm T' h' uE w') xs vs := by
 induction r with
 | nil => exact .nil
 | cons r _ ih =>
  simp only [qW, Bool.or_eq_false_iff] at hx
  exact .cons (f hx.1 r) (ih hx.2)
theorem Qs.map {T T' : CS} {h h' : Nat -> Nat -> Hd} {ob uE : Nat -> Nat -> Ob} {p : At -> Bool} (f : ∀ {x : At} {v : Value}, p x = false -> Zm T h ob w x v -> Zm T' h' uE w' x v) {x : V} {v : Value} (hx : x.Nc p = false)
  (r : Qs T h ob w x v) : Qs T' h' uE w' x v := by
 cases x with
 | any => exact r
 | one x => exact f hx r
 | agg xs => obtain ⟨cs, e, r⟩ := r; exact ⟨cs, e, Ty f hx r⟩
 | tup xs => exact r.elim
 | cnd g x => exact r.elim
 | fix u x => exact r.elim
theorem Xe.map {T T' : CS} {h h' : Nat -> Nat -> Hd} {ob uE : Nat -> Nat -> Ob} {p : At -> Bool} (f : ∀ {x : At} {v : Value}, p x = false -> Zm T h ob w x v -> Zm T' h' uE w' x v) {x : V} {v : Value} (hx : x.Jh p = false)
  (r : Xe T h ob w x v) : Xe T' h' uE w' x v := by
 cases x with
 | any => exact r
 | one x => exact f hx r
 | agg xs => obtain ⟨cs, e, r⟩ := r; exact ⟨cs, e, Ty f hx r⟩
 | tup xs =>
  obtain ⟨vs, e, r⟩ := r
  refine ⟨vs, e, ?_⟩
  clear e
  generalize vs.toList = vl at r
  simp only [V.Jh] at hx
  induction r with
  | nil => exact .nil
  | cons r _ ih =>
   simp only [Pl, Bool.or_eq_false_iff] at hx
   exact .cons (Qs.map f hx.1 r) (ih hx.2)
 | cnd g x => exact ⟨fun hg => Qs.map f hx (r.1 hg), r.2⟩
 | fix u x => exact ⟨r.1, Qs.map f hx r.2⟩
theorem Xs.map {T T' : CS} {h h' : Nat -> Nat -> Hd} {ob uE : Nat -> Nat -> Ob} {p : At -> Bool} (f : ∀ {x : At} {v : Value}, p x = false -> Zm T h ob w x v -> Zm T' h' uE w' x v)
  (hT : ∀ b k v, T b k -> w.cell? ⟨b, k, none⟩ = some v -> w'.cell? ⟨b, k, none⟩ = some v /\ T' b k) {hd : Hd} {o : Ob}
  (vS : o ≠ .none -> ∀ b, blk hd.v = some b -> hd.u b) (hb : o ≠ .none -> ∀ b, hd.u b -> w'.heap[b]? = w.heap[b]?) (hx : Jx p [o] = false) (r : Xs T h ob w hd o) : Xs T' h' uE w' hd o := by
 cases o with
 | none => trivial
 | box cells =>
  obtain ⟨b, cs, e, hv, hh, wD⟩ := r
  simp only [Jx, Bool.or_false] at hx
  exact ⟨b, cs, e, hv, by rw [hb (by simp) b (vS (by simp) b (by rw [hv]; rfl))]; exact hh, Ty f hx wD⟩
 | arr q size rows =>
  have hk : ∀ {e : TypeId} {n : Nat} {xs : List Value}, w.ownsRow 0 e size hd.v n xs -> w'.ownsRow 0 e size hd.v n xs := fun ho => Kf (fun b h => hb (by simp) b (vS (by simp) b h)) ho
  cases q with
  | false =>
   obtain ⟨e, xs, ho, hz, wD⟩ := r
   exact ⟨e, xs, hk ho, hz, wD.imp fun _ _ => Rd.mono hT⟩
  | true =>
   obtain ⟨e, xs, ho, hz, wD, hn⟩ := r
   exact ⟨e, xs, hk ho, hz, wD.jn (fun b h => hb (by simp) b h.1), hn⟩
 | lit size rows =>
  obtain ⟨e, xs, ho, hz, wD⟩ := r
  simp only [Jx, Bool.or_false] at hx
  exact ⟨e, xs, Kf (fun b h => hb (by simp) b (vS (by simp) b h)) ho, hz, Ty f hx wD⟩
def Ob.Hh : Ob -> Ob -> Prop
 | .arr q s r, .arr q' s' r' => q = q' /\ s = s' /\ r.length = r'.length
 | .lit s r, .lit s' r' => s = s' /\ r.length = r'.length
 | .box _, .box _ => True
 | _, _ => False
theorem Rel.change (r : Rel T0 B σ a w X h) {t j : Nat} (wU : σ.ob t j ≠ .none) (vK : w'.heap.size = w.heap.size) (hw : ∀ k, ¬ (h t j).u k -> w'.heap[k]? = w.heap[k]?) (M : Nat -> Prop)
  (hM : ∀ b, M b -> ¬ B b /\ ¬ X b /\ b < w.heap.size /\ ∀ u i, σ.ob u i ≠ .none -> ¬ (h u i).u b) (o' : Ob) (uz : (σ.ob t j).Hh o') (wP : Hd) (hv : wP.v = (h t j).v) (hu : ∀ b, wP.u b -> (h t j).u b \/ M b) (vS : ∀ b, blk wP.v = some b -> wP.u b)
  (p : At -> Bool) (hp : σ.Jh p = false) (hn : (∀ u i c o, p (.tref t u i c o) = true) \/ wP.n = (h t j).n)
  (sK : Xs (Tof T0 X) (fun u i => if u = t /\ i = j then wP else h u i) (σ.ZT t j o').ob w' wP o') : Rel T0 B (σ.ZT t j o') a w' X (fun u i => if u = t /\ i = j then wP else h u i) := by
 have vW : ∀ u i, ¬ (u = t /\ i = j) -> (σ.ZT t j o').ob u i = σ.ob u i := by
  intro u i wB
  rw [St.Yj σ t j o' u i wU, if_neg wB]
 have vR : (σ.ZT t j o').ob t j = o' := by rw [St.Yj σ t j o' t j wU]; simp
 have hT : ∀ b k v, Tof T0 X b k -> w.cell? ⟨b, k, none⟩ = some v -> w'.cell? ⟨b, k, none⟩ = some v /\ Tof T0 X b k := by
  intro b' k v wM wG
  refine ⟨?_, wM⟩
  have wB : ¬ (h t j).u b' := by
   intro uF
   have wF := r.own t j b' wU uF
   rcases wM with wM | wM
   ·exact wF.1 (r.hT _ _ wM)
   ·exact wF.2.1 wM
  rw [World.cell?_of_block (hw b' wB)]; exact wG
 have mg : ∀ u i, ((fun u i => if u = t /\ i = j then wP else h u i) u i).v = (h u i).v := by
  intro u i
  by_cases hc : u = t /\ i = j
  ·simp only [hc, and_self, if_true]; exact hv
  ·simp only [hc, if_false]
 have ox : ∀ u i q size rows, (σ.ZT t j o').ob u i = .arr q size rows -> ∃ wS, σ.ob u i = .arr q size wS /\ wS.length = rows.length := by
  intro u i q size rows ho
  by_cases hc : u = t /\ i = j
  ·obtain ⟨rfl, rfl⟩ := hc
   rw [vR] at ho; subst ho
   cases vL : σ.ob u i with
   | arr q0 s0 r0 => rw [vL] at uz; obtain ⟨rfl, rfl, hl⟩ := uz; exact ⟨r0, rfl, hl⟩
   | none => rw [vL] at uz; exact uz.elim
   | box c => rw [vL] at uz; exact uz.elim
   | lit s r => rw [vL] at uz; exact uz.elim
  ·rw [vW u i hc] at ho; exact ⟨rows, ho, rfl⟩
 have fq : ∀ u i size rows, (σ.ZT t j o').ob u i = .lit size rows -> ∃ wS, σ.ob u i = .lit size wS /\ wS.length = rows.length := by
  intro u i size rows ho
  by_cases hc : u = t /\ i = j
  ·obtain ⟨rfl, rfl⟩ := hc
   rw [vR] at ho; subst ho
   cases vL : σ.ob u i with
   | arr q0 s0 r0 => rw [vL] at uz; exact uz.elim
   | none => rw [vL] at uz; exact uz.elim
   | box c => rw [vL] at uz; exact uz.elim
   | lit s r => rw [vL] at uz; obtain ⟨rfl, hl⟩ := uz; exact ⟨r, rfl, hl⟩
  ·rw [vW u i hc] at ho; exact ⟨rows, ho, rfl⟩
 have pz : ∀ u i cells, (σ.ZT t j o').ob u i = .box cells -> ∃ vf, σ.ob u i = .box vf := by
  intro u i cells ho
  by_cases hc : u = t /\ i = j
  ·obtain ⟨rfl, rfl⟩ := hc
   rw [vR] at ho; subst ho
   cases vL : σ.ob u i with
   | arr q0 s0 r0 => rw [vL] at uz; exact uz.elim
   | none => rw [vL] at uz; exact uz.elim
   | box c => exact ⟨c, rfl⟩
   | lit s r => rw [vL] at uz; exact uz.elim
  ·rw [vW u i hc] at ho; exact ⟨cells, ho⟩
 have at_ : ∀ {x : At} {v : Value}, p x = false -> Zm (Tof T0 X) h σ.ob w x v -> Zm (Tof T0 X) (fun u i => if u = t /\ i = j then wP else h u i) (σ.ZT t j o').ob w' x v := by
  intro x v py rx
  cases x with
  | any => exact rx
  | d x => exact Rd.mono hT rx
  | nil s => exact rx
  | sref u i lo len =>
   refine ⟨rx.1, fun q size rows ho => ?_, fun size rows ho => ?_⟩
   ·obtain ⟨wS, vL, hl⟩ := ox u i q size rows ho
    rw [mg, <- hl]; exact rx.2.1 q size wS vL
   ·obtain ⟨wS, vL, hl⟩ := fq u i size rows ho
    rw [mg, <- hl]; exact rx.2.2 size wS vL
  | ptr u i k c =>
   refine ⟨rx.1, fun q size rows ho => ?_⟩
   obtain ⟨wS, vL, hl⟩ := ox u i q size rows ho
   rw [mg]; exact rx.2 q size wS vL
  | bptr u c =>
   refine ⟨rx.1, fun cells ho => ?_⟩
   obtain ⟨vf, vL⟩ := pz u 0 cells ho
   rw [mg]; exact rx.2 vf vL
  | fn f u =>
   refine ⟨rx.1, fun cells ho => ?_⟩
   obtain ⟨vf, vL⟩ := pz u 0 cells ho
   rw [mg]; exact rx.2 vf vL
  | tref u i k c o =>
   refine ⟨rx.1, fun size rows ho => ?_⟩
   obtain ⟨wS, vL, hl⟩ := ox u i true size rows ho
   have h1 := rx.2 size wS vL
   by_cases hc : u = t /\ i = j
   ·obtain ⟨rfl, rfl⟩ := hc
    rcases hn with hn | hn
    ·rw [hn] at py; cases py
    ·simp only [and_self, if_true, hn]; exact h1
   ·simp only [hc, if_false]; exact h1
  | rptr rr c =>
   obtain ⟨b, off, g, e, hk⟩ := rx
   exact ⟨b, off, g, e, fun k d hd => ⟨(hT _ _ _ (hk k d hd).2.1 (hk k d hd).1).1, (hk k d hd).2.1, Rd.mono hT (hk k d hd).2.2⟩⟩
 have vX : ∀ u i, (σ.ZT t j o').ob u i ≠ .none -> σ.ob u i ≠ .none := by
  intro u i wz
  by_cases uF : u = t /\ i = j
  ·obtain ⟨rfl, rfl⟩ := uF; exact wU
  ·rw [vW u i uF] at wz; exact wz
 refine ⟨by rw [r.size, St.YR], r.defers, by rw [vK]; exact r.hB, fun b hb => by rw [vK]; exact r.hX b hb, r.hT, fun u uF => ?_, fun u i => ?_, fun u i b' wB wM => ?_, fun u i b' wB wM => ?_, fun u i u' i' b' wB wv vP wk => ?_⟩
 ·rw [St.YR] at uF
  rw [St.Y2]; exact Xe.map at_ (St.VD hp u) (r.slot u uF)
 ·by_cases hc : u = t /\ i = j
  ·obtain ⟨rfl, rfl⟩ := hc; rw [vR]; simp only [and_self, if_true]; exact sK
  ·rw [vW u i hc]
   simp only [hc, if_false]
   exact Xs.map at_ hT (fun ho b => r.ub u i b ho) (fun ho b hb => hw b (fun l0 => hc (r.inj u i t j b ho wU hb l0))) (St.Tz hp u i) (r.obj u i)
 ·by_cases hc : u = t /\ i = j
  ·simp only [hc, and_self, if_true] at wM ⊢; exact vS b' wM
  ·simp only [hc, if_false] at wM ⊢; exact r.ub u i b' (vX u i wB) wM
 ·rw [vK]
  by_cases hc : u = t /\ i = j
  ·simp only [hc, and_self, if_true] at wM
   rcases hu b' wM with h1 | h1
   ·exact r.own t j b' wU h1
   ·have := hM b' h1; exact ⟨this.1, this.2.1, this.2.2.1⟩
  ·simp only [hc, if_false] at wM; exact r.own u i b' (vX u i wB) wM
 ·by_cases hc : u = t /\ i = j
  ·by_cases wu : u' = t /\ i' = j
   ·exact ⟨by rw [hc.1, wu.1], by rw [hc.2, wu.2]⟩
   ·simp only [hc, and_self, if_true] at vP
    simp only [wu, if_false] at wk
    rcases hu b' vP with h1 | h1
    ·have := r.inj t j u' i' b' wU (vX u' i' wv) h1 wk
     rw [hc.1, hc.2]; exact this
    ·exact absurd wk ((hM b' h1).2.2.2 u' i' (vX u' i' wv))
  ·by_cases wu : u' = t /\ i' = j
   ·simp only [wu, and_self, if_true] at wk
    simp only [hc, if_false] at vP
    rcases hu b' wk with h1 | h1
    ·have := r.inj u i t j b' (vX u i wB) wU vP h1
     rw [wu.1, wu.2]; exact this
    ·exact absurd vP ((hM b' h1).2.2.2 u i (vX u i wB))
   ·simp only [hc, if_false] at vP
    simp only [wu, if_false] at wk
    exact r.inj u i u' i' b' (vX u i wB) (vX u' i' wv) vP wk
theorem Rel.LV (r : Rel T0 B σ a w X h) {t j : Nat} (wU : σ.ob t j ≠ .none) (vK : w'.heap.size = w.heap.size) (hw : ∀ k, ¬ (h t j).u k -> w'.heap[k]? = w.heap[k]?)
  (o' : Ob) (uz : (σ.ob t j).Hh o') (sK : Xs (Tof T0 X) h (σ.ZT t j o').ob w' (h t j) o') : Rel T0 B (σ.ZT t j o') a w' X h := by
 have hh : (fun u i => if u = t /\ i = j then h t j else h u i) = h := by
  funext u i
  by_cases hc : u = t /\ i = j
  ·simp [hc]
  ·simp [hc]
 have := r.change wU vK hw (fun _ => False) (fun _ hh => hh.elim) o' uz (h t j) rfl (fun b hb => .inl hb) (fun b hb => r.ub t j b wU hb) (fun _ => false) (St.KP σ) (.inr rfl) (by rw [hh]; exact sK)
 rw [hh] at this; exact this
theorem run_store {T : TypeId} {ti : TypeInfo} (hi : P.info? T = some ti) {g o : Nat} {e : TypeId} {cur : Array Value} {val : Value} (hg : w.heap[g]? = some (.cells cur e (0, 0))) (vK : val.cells.size = P.cellsOf T) (hle : o + P.cellsOf T <= cur.size) (h1 : ∀ u ∈ val.cells.toList, u.oneCell' = true) :
  (Instr.storeAt T (.pointer (some ⟨g, o, none⟩)) val).run P w = .ok () (w.setRow g (place cur.toList o val.cells.toList).toArray) := by
 have wb := run_storeCells_at P g o e val.cells.toList 0 cur w hg (by simp; omega) h1
 have wB : ¬ val.cells.size ≠ P.cellsOf T := by omega
 simp only [Instr.storeAt, Instr.sureAddr, storeVar, Sem.run_bind, Sem.run_pure, Result.andThen_ok, QO hi, if_neg wB]
 rw [wb]
 simp [place]
theorem YQ.setRow {B : Nat -> Prop} {g : Nat} (hg : ¬ B g) (cs : Array Value) : YQ B w (w.setRow g cs) :=
 ⟨rfl, rfl, rfl, by simp [World.setRow], fun k hk => setRow_other w g k cs (fun e => hg (e ▸ hk))⟩
theorem SY (r : Rel T0 B σ a w X h) {o : Oper} {T : TypeId} {x y : Operand} (wA : o.op = .store T x y) (hd : o.dst = none) (ht : Kg P T = true) (tW : gOf (look P σ 0 x) = true) (tX : gOf (look P σ T y) = true)
  {t c : Nat} (hx : unc (look P σ 0 x) = .one (.bptr t c)) {cells : List At} (ho : σ.ob t 0 = .box cells) (ve : (unc (look P σ T y)).flat = true) (hl : (unc (look P σ T y)).cells.length = P.cellsOf T) (hle : c + P.cellsOf T <= cells.length)
  {K : Act -> World -> Prop} {Q : Exit -> Act -> World -> Prop} (hK : ∀ a' w', X6 T0 B (σ.ZT t 0 (.box (place cells c (unc (look P σ T y)).cells))) a' w' -> YQ B w w' -> K a' w') : o.wp P a w K Q := by
 obtain ⟨_, ti, _, hi, _, _⟩ := zx ht
 have nB := r.arg (P := P) 0 x hx tW
 obtain ⟨b, cs, e, hb, he, hh, wD⟩ := r.box ho nB
 have hy := yO ve (r.arg (P := P) T y rfl tX)
 have v9 := hy.length
 have wg := wD.length
 have e1 : cs.toList.length = cs.size := Array.length_toList
 have e2 : (a.eval y).cells.toList.length = (a.eval y).cells.size := Array.length_toList
 have wV := run_store (P := P) (w := w) hi (o := c) (val := a.eval y) hh (by omega) (by omega) (fun u hu => by obtain ⟨x', _, tr⟩ := hy.mem hu; exact Zm.Y4 tr)
 have wU : σ.ob t 0 ≠ .none := by rw [ho]; simp
 have we : blk (h t 0).v = some b := by rw [hb]; rfl
 have hB := r.F6 wU we
 have vS := r.ub t 0 b wU we
 unfold Oper.wp
 simp only [execOp, wA, he, Sem.run_bind, wV, Result.andThen_ok, Sem.run_pure, Oper.upon_skip, hd]
 refine hK _ _ ⟨X, h, ?_⟩ (YQ.setRow hB.1 _)
 have vg := setRow_heap w b cs (place cs.toList c (a.eval y).cells.toList).toArray e (0, 0) hh
 refine r.LV wU (by simp [World.setRow]) (fun k hk => setRow_other w b k _ (fun e => hk (e ▸ vS))) _ (by rw [ho]; trivial) ?_
 have r2 : Rel T0 B (σ.ZT t 0 (.box (place cells c (unc (look P σ T y)).cells))) a (w.setRow b (place cs.toList c (a.eval y).cells.toList).toArray) X h -> True := fun _ => trivial
 have hT : ∀ b' k v, Tof T0 X b' k -> w.cell? ⟨b', k, none⟩ = some v -> (w.setRow b (place cs.toList c (a.eval y).cells.toList).toArray).cell? ⟨b', k, none⟩ = some v /\ Tof T0 X b' k := by
  intro b' k v wM wG
  refine ⟨?_, wM⟩
  have wB : b' ≠ b := by
   rintro rfl
   rcases wM with wM | wM
   ·exact hB.1 (r.hT _ _ wM)
   ·exact hB.2.1 wM
  rw [World.cell?_of_block (setRow_other w b b' _ wB)]; exact wG
 have vW : ∀ u i, ¬ (u = t /\ i = 0) -> (σ.ZT t 0 (.box (place cells c (unc (look P σ T y)).cells))).ob u i = σ.ob u i := by
  intro u i wB
  rw [St.Yj σ t 0 _ u i wU, if_neg wB]
 have vR : (σ.ZT t 0 (.box (place cells c (unc (look P σ T y)).cells))).ob t 0 = .box (place cells c (unc (look P σ T y)).cells) := by rw [St.Yj σ t 0 _ t 0 wU]; simp
 have iW : ∀ u i, Cpt h h σ.ob (σ.ZT t 0 (.box (place cells c (unc (look P σ T y)).cells))).ob u i := by
  intro u i
  by_cases hu : u = t /\ i = 0
  ·obtain ⟨rfl, rfl⟩ := hu
   refine ⟨fun q size rows wZ => ?_, fun size rows wZ => ?_, fun wH wZ => ⟨rfl, cells, ho⟩⟩
   ·rw [vR] at wZ; cases wZ
   ·rw [vR] at wZ; cases wZ
  ·exact Cpt.same rfl (vW u i hu)
 have at_ : ∀ {x : At} {v : Value}, Zm (Tof T0 X) h σ.ob w x v -> Zm (Tof T0 X) h (σ.ZT t 0 (.box (place cells c (unc (look P σ T y)).cells))).ob (w.setRow b (place cs.toList c (a.eval y).cells.toList).toArray) x v := fun rx => Zm.GR hT iW rx
 refine ⟨b, _, e, hb, vg, ?_⟩
 have := (wD.place c hy).imp (fun _ _ => at_)
 simpa using this
end
end Go.Vm
namespace Go.Vm
open Go.RowKit
section
variable {P : Program} {T0 : CS} {B : Nat -> Prop} {σ : St} {a : Act} {w w' : World} {X X' : Nat -> Prop} {h : Nat -> Nat -> Hd}
theorem J7 {α : Type} (size c : Nat) (ds : List α) (hc : c + ds.length <= size) : ∀ (rows : List (List α)) (i : Nat) (row : List α), rows[i]? = some row -> (∀ r ∈ rows, r.length = size) ->
  (rows.set i (place row c ds)).flatten = place rows.flatten (i * size + c) ds
 | [], i, row, hr, _ => by simp at hr
 | r0 :: rows, 0, row, hr, hz => by
  simp at hr; subst hr
  have h0 : r0.length = size := hz r0 (by simp)
  simp only [List.set_cons_zero, List.flatten_cons, place, Nat.zero_mul, Nat.zero_add]
  rw [List.take_append_of_le_length (by omega), List.drop_append_of_le_length (by omega)]
  simp
 | r0 :: rows, i + 1, row, hr, hz => by
  have h0 : r0.length = size := hz r0 (by simp)
  have ih := J7 size c ds hc rows i row (by simpa using hr) (fun r hr => hz r (by simp [hr]))
  rw [List.set_cons_succ, List.flatten_cons, ih, List.flatten_cons]
  unfold place
  have e1 : (i + 1) * size + c = r0.length + (i * size + c) := by rw [h0, Nat.add_mul]; omega
  have e2 : (i + 1) * size + c + ds.length = r0.length + (i * size + c + ds.length) := by rw [h0, Nat.add_mul]; omega
  rw [e2, e1, List.take_length_add_append, List.drop_length_add_append]
  simp
theorem Wv {α : Type} (l : List α) (n off : Nat) (xs : List α) (hl : off + xs.length <= n) (hn : n <= l.length) : (place l off xs).take n = place (l.take n) off xs := by
 unfold place
 rw [List.take_take, Nat.min_eq_left (by omega), List.drop_take]
 rw [List.take_append, List.take_append]
 simp only [List.length_append, List.length_take]
 rw [Nat.min_eq_left (by omega), List.take_of_length_le (l := List.take off l) (by simp; omega), List.take_of_length_le (l := xs) (by omega)]
theorem z6 {α : Type} (l : List α) (o : Nat) (xs : List α) (hl : o + xs.length <= l.length) (k : Nat) (v : α) (hv : (place l o xs)[k]? = some v) :
  (o <= k /\ k < o + xs.length /\ xs[k - o]? = some v) \/ (¬ (o <= k /\ k < o + xs.length) /\ l[k]? = some v) := by
 unfold place at hv
 have h1 : (l.take o).length = o := by simp; omega
 rcases Nat.lt_or_ge k o with hk | hk
 ·rw [List.append_assoc, List.getElem?_append_left (by omega), List.getElem?_take, if_pos hk] at hv
  exact .inr ⟨by omega, hv⟩
 ·rw [List.append_assoc, List.getElem?_append_right (by omega), h1] at hv
  rcases Nat.lt_or_ge (k - o) xs.length with rl | rl
  ·rw [List.getElem?_append_left rl] at hv
   exact .inl ⟨hk, by omega, hv⟩
  ·rw [List.getElem?_append_right rl, List.getElem?_drop] at hv
   refine .inr ⟨by omega, ?_⟩
   rw [show o + xs.length + (k - o - xs.length) = k by omega] at hv; exact hv
theorem Sw (r : Rel T0 B σ a w X h) {o : Oper} {T : TypeId} {x y : Operand} (wA : o.op = .store T x y) (hd : o.dst = none) (ht : Kg P T = true) (tW : gOf (look P σ 0 x) = true) (tX : gOf (look P σ T y) = true)
  {t j i c : Nat} (hx : unc (look P σ 0 x) = .one (.ptr t j i c)) {q : Bool} {size : Nat} {rows : List (List D)} (ho : σ.ob t j = .arr q size rows) (hi : i < rows.length) {ds : List D} (ve : (unc (look P σ T y)).flat = true) (s3 : rowOf σ (unc (look P σ T y)).cells = some ds) (wb : Q0 (unc (look P σ T y)).cells = true)
  (hl : ds.length = P.cellsOf T) (hle : c + P.cellsOf T <= size) (hq : q = true -> (∀ d ∈ ds, d.scalar = true) /\ ∀ k d, k < P.cellsOf T -> (rows.getD i [])[c + k]? = some d -> d.scalar = true)
  {K : Act -> World -> Prop} {Q : Exit -> Act -> World -> Prop} (hK : ∀ a' w', X6 T0 B (σ.ZT t j (.arr q size (rows.set i (place (rows.getD i []) c ds)))) a' w' -> YQ B w w' -> K a' w') : o.wp P a w K Q := by
 obtain ⟨_, ti, _, mW, _, _⟩ := zx ht
 have nB := r.arg (P := P) 0 x hx tW
 obtain ⟨b, cap, cur, e, xs, hb, he, hh, vj, uP, uO, ug, hz, sM, wD, wF⟩ := r.arr ho nB
 have hy := yO ve (r.arg (P := P) T y rfl tX)
 have oM := r.rowOf true s3 hy (fun _ => wb)
 simp only [if_true] at oM
 have v9 := oM.length
 have e2 : (a.eval y).cells.toList.length = (a.eval y).cells.size := Array.length_toList
 have e3 : cur.toList.length = cur.size := Array.length_toList
 have wi : rows[i]? = some (rows.getD i []) := by simp [List.getD_eq_getElem?_getD, List.getElem?_eq_getElem hi]
 have hmul : i * size + size <= rows.length * size := by rw [<- Nat.succ_mul]; exact Nat.mul_le_mul_right _ hi
 have oN : rows.length * size <= cap * size := Nat.mul_le_mul_right _ vj
 have wV := run_store (P := P) (w := w) mW (o := i * size + c) (val := a.eval y) hh (by omega) (by omega) (fun u hu => by obtain ⟨x', _, tr⟩ := hy.mem hu; exact Zm.Y4 tr)
 have wU : σ.ob t j ≠ .none := by rw [ho]; simp
 have we : blk (h t j).v = some b := by rw [hb]; rfl
 have hB := r.F6 wU we
 have vS := r.ub t j b wU we
 unfold Oper.wp
 simp only [execOp, wA, he, Sem.run_bind, wV, Result.andThen_ok, Sem.run_pure, Oper.upon_skip, hd]
 refine hK _ _ ⟨X, h, ?_⟩ (YQ.setRow hB.1 _)
 refine r.LV wU (by simp [World.setRow]) (fun k hk => setRow_other w b k _ (fun e => hk (e ▸ vS))) _ (by rw [ho]; simp [Ob.Hh]) ?_
 have vg := setRow_heap w b cur (place cur.toList (i * size + c) (a.eval y).cells.toList).toArray e (0, 0) hh
 have hT : ∀ b' k v, Tof T0 X b' k -> w.cell? ⟨b', k, none⟩ = some v -> (w.setRow b (place cur.toList (i * size + c) (a.eval y).cells.toList).toArray).cell? ⟨b', k, none⟩ = some v /\ Tof T0 X b' k := by
  intro b' k v wM wG
  refine ⟨?_, wM⟩
  have wB : b' ≠ b := by
   rintro rfl
   rcases wM with wM | wM
   ·exact hB.1 (r.hT _ _ wM)
   ·exact hB.2.1 wM
  rw [World.cell?_of_block (setRow_other w b b' _ wB)]; exact wG
 have rM : xs.length = rows.length * size := by rw [sM, Zo rows size hz]
 have sI : (rows.getD i []).length = size := hz _ (List.mem_of_getElem? wi)
 have w8 : (w.setRow b (place cur.toList (i * size + c) (a.eval y).cells.toList).toArray).ownsRow 0 e size (h t j).v (rows.set i (place (rows.getD i []) c ds)).length (place xs (i * size + c) (a.eval y).cells.toList) := by
  refine ⟨?_, .inr ⟨b, cap, _, by simpa using hb, Nat.zero_le _, vg, by simpa using vj, uP, ?_, ?_⟩⟩
  ·rw [Yw _ _ _ (by omega), rM]; simp
  ·simp only [List.size_toArray]
   rw [Yw _ _ _ (by omega), e3, uO]
  ·simp only [List.length_set]
   rw [Wv _ _ _ _ (by omega) (by omega), ug]
 have ui : ∀ r ∈ rows.set i (place (rows.getD i []) c ds), r.length = size := by
  intro r' vU
  rcases List.mem_or_eq_of_mem_set vU with vU | vU
  ·exact hz r' vU
  ·rw [vU, Yw _ _ _ (by omega), sI]
 cases q with
 | false =>
  refine ⟨e, _, w8, ui, ?_⟩
  rw [J7 size c ds (by omega) rows i _ wi hz]
  exact ((wD rfl).imp fun _ _ => Rd.mono hT).place _ (oM.imp fun _ _ => Rd.mono hT)
 | true =>
  obtain ⟨⟨_, Sk, h1, h2, h3⟩, hn⟩ := wF rfl
  obtain ⟨gL, eu⟩ := hq rfl
  have wG : ∀ k u, (place xs (i * size + c) (a.eval y).cells.toList)[k]? = some u -> (i * size + c <= k /\ k < i * size + c + ds.length /\ (a.eval y).cells.toList[k - (i * size + c)]? = some u) \/ (¬ (i * size + c <= k /\ k < i * size + c + ds.length) /\ xs[k]? = some u) := by
   intro k u hu
   exact z6 xs _ _ (by omega) k u hu |>.imp (fun hh => ⟨hh.1, by omega, hh.2.2⟩) (fun hh => ⟨by rw [<- v9]; exact hh.1, hh.2⟩)
  have sr : ∀ k d, (rows.set i (place (rows.getD i []) c ds)).flatten[k]? = some d -> (i * size + c <= k /\ k < i * size + c + ds.length /\ ds[k - (i * size + c)]? = some d) \/ (¬ (i * size + c <= k /\ k < i * size + c + ds.length) /\ rows.flatten[k]? = some d) := by
   intro k d uK
   rw [J7 size c ds (by omega) rows i _ wi hz] at uK
   exact z6 _ _ _ (by rw [Zo rows size hz]; omega) k d uK
  refine ⟨e, _, w8, ui, ⟨?_, Sk, fun k u d hu uK => ?_, h2, h3⟩, fun k u d hu uK vN => ?_⟩
  ·rw [Yw _ _ _ (by omega), sM, Zo rows size hz, Zo _ size ui]; simp
  ·rcases wG k u hu with ⟨p1, p2, p3⟩ | ⟨p1, p3⟩
   ·rcases sr k d uK with ⟨_, _, p4⟩ | ⟨p4, _⟩
    ·obtain ⟨d', wP, vU⟩ := oM.get _ _ p3
     rw [p4] at wP; cases wP
     have hs := gL d (List.mem_of_getElem? p4)
     cases vU with
     | int k n => exact .int _ _ _
     | bool b => exact .bool _ _
     | str s => exact .str _ _
     | unk v h => exact .unk _ h _
     | nil => simp [D.scalar] at hs
     | sl => simp [D.scalar] at hs
    ·exact absurd ⟨p1, p2⟩ p4
   ·rcases sr k d uK with ⟨p4, p5, _⟩ | ⟨_, p4⟩
    ·exact absurd ⟨p4, p5⟩ p1
    ·refine (h1 k u d p3 p4).jn (fun b' wM => setRow_other w b b' _ ?_)
     rintro rfl
     exact (h2 k b' wM).2 we
  ·rcases sr k d uK with ⟨p4, p5, p6⟩ | ⟨p4, p6⟩
   ·have := gL d (List.mem_of_getElem? p6)
    rw [vN] at this; cases this
   ·rcases wG k u hu with ⟨p1, p2, _⟩ | ⟨_, p3⟩
    ·exact absurd ⟨p1, p2⟩ p4
    ·exact hn k u d p3 p6 vN
end
end Go.Vm
namespace Go.Vm
open Go.RowKit
section
variable {P : Program} {T0 : CS} {B : Nat -> Prop} {σ : St} {a : Act} {w w' : World} {X X' : Nat -> Prop} {h : Nat -> Nat -> Hd}
theorem US (t ty e e0 : TypeId) (i : TypeInfo) (ht : P.underlying t = some (.slice e)) (hi : P.info? e = some i)
  (g ss o0 : Nat) (cur : Array Value) (hg : w.heap[g]? = some (.cells cur e0 (0, 0)))
  (a : Addr) (m c : Nat) (news : List Value) (hl : news.length = m * i.size) (vZ : ∀ j u, news[j]? = some u -> w.cell? (a.add j) = some u) (h1 : ∀ u ∈ news, u.oneCell' = true)
  (sL : ss + m <= o0) (o5 : ss * i.size + news.length <= cur.size) :
  (Builtin.append_ #[t, t] ty #[.slice (some ⟨g, 0, none⟩) ss o0, .slice (some a) m c]).run P w =
   .ok (.slice (some ⟨g, 0, none⟩) (ss + m) o0) (w.setRow g (cur.toList.take (ss * i.size) ++ news ++ cur.toList.drop (ss * i.size + news.length)).toArray) := by
 have hf := run_firstCells_some (P := P) w i.size m a m c news hl vZ
 have wb := run_storeCells_at P g (ss * i.size) e0 news 0 cur w hg (by simpa using o5) h1
 simp only [Nat.add_zero] at wb
 simp [Builtin.append_, run_underlying ht, sizeOf, typeInfo, hi, Builtin.lenOf, sL, hf, Addr.add_lit, wb]
theorem za (t ty e e0 : TypeId) (i : TypeInfo) (z : Value) (ht : P.underlying t = some (.slice e)) (hi : P.info? e = some i) (hz : i.zero = some z)
  (tu : z.cells.size = i.size) (vK : 0 < i.size) (v : Value) (n : Nat) (xs : List Value) (wF : w.ownsRow 0 e0 i.size v n xs)
  (a : Addr) (m c : Nat) (news : List Value) (hl : news.length = m * i.size) (vZ : ∀ j u, news[j]? = some u -> w.cell? (a.add j) = some u) (h1 : ∀ u ∈ news, u.oneCell' = true)
  (iQ : n + m <= maxLen) (vJ : (n + m) * i.bytes <= 140737488355328) :
  ∃ v' w' e1, (Builtin.append_ #[t, t] ty #[v, .slice (some a) m c]).run P w = .ok v' w' /\ w'.ownsRow 0 e1 i.size v' (n + m) (xs ++ news) /\ w.grownBy w' (blk v) /\
   (∀ b, blk v' = some b -> (w.heap.size <= b /\ b < w'.heap.size) \/ blk v = some b) := by
 have hlen : (xs ++ news).length = (n + m) * i.size := by rw [List.length_append, wF.1, hl, Nat.add_mul]
 rcases wF.2 with ⟨rfl, rfl⟩ | ⟨g, cap, cur, rfl, _, hg, vz, pb, uO, mc⟩
 ·have hx : xs = [] := List.eq_nil_of_length_eq_zero (by simpa using wF.1)
  subst hx
  obtain ⟨v', w', hr, ho, vT, _⟩ := run_append_own (P := P) w w.heap.size t ty e i z i.size i.bytes ht hi hz rfl rfl tu vK (.slice none 0 0) 0 [] (World.ownsRow_nil w _ e i.size) a m c news hl vZ h1 iQ vJ (Nat.le_refl _)
  refine ⟨v', w', e, hr, ?_, vT, fun b hb => .inl ?_⟩
  ·refine ⟨ho.1, ho.2.imp id ?_⟩
   rintro ⟨g, cap, cur, hv, _, rest⟩
   exact ⟨g, cap, cur, hv, Nat.zero_le _, rest⟩
  ·have wM : v'.ownBlock = some b := by
    cases v' with
    | slice o l c => cases o with
     | none => simp [blk] at hb
     | some ad => simpa [blk, Value.ownBlock] using hb
    | pointer o => rcases ho.2 with ⟨hv, _⟩ | ⟨g, cap, cur, hv, _⟩ <;> cases hv
    | _ => simp [blk] at hb
   exact ho.lt b wM
 ·by_cases sL : n + m <= cap
  ·have o5 : n * i.size + news.length <= cur.size := by rw [hl, uO, <- Nat.add_mul]; exact Nat.mul_le_mul_right _ sL
   have hr := US (P := P) (w := w) t ty e e0 i ht hi g n cap cur hg a m c news hl vZ h1 sL o5
   refine ⟨_, _, e0, hr, ⟨hlen, .inr ⟨g, cap, _, rfl, Nat.zero_le _, setRow_heap w g cur _ e0 _ hg, sL, pb, ?_, ?_⟩⟩, ⟨rfl, rfl, rfl, by simp [World.setRow], fun k _ hk => setRow_other w g k _ (fun e => hk (by simp [blk, e]))⟩, fun b hb => .inr (by simpa [blk] using hb)⟩
   ·simp only [List.size_toArray, List.length_append, List.length_take, List.length_drop, Array.length_toList]
    omega
   ·rw [mc, <- hlen]
    exact List.take_left
  ·have holds : ∀ j u, xs[j]? = some u -> w.cell? ((⟨g, 0, none⟩ : Addr).add j) = some u := wF.cells (g := g) rfl
   have iX : n + m <= 9223372036854775807 := by simp only [maxLen] at iQ; omega
   have hr := run_append_grow (P := P) w t ty e i z ht hi hz ⟨g, 0, none⟩ n cap xs wF.1 holds a m c news hl vZ (by omega) (by omega) (growslice_fits (by omega) vJ)
   have tD := grownCap_ge w (n + m) cap e
   have iY : grownCap w (n + m) cap e <= maxLen := grownCap_le_maxLen w (n + m) cap e iQ
   refine ⟨_, _, e, hr, ⟨hlen, .inr ⟨w.heap.size, _, _, rfl, Nat.zero_le _, heap_alloc_new w.drew _, tD, iY, ?_, ?_⟩⟩, ⟨rfl, rfl, rfl, by simp, fun k hk _ => (World.grownBy_alloc w.drew _ none).block k hk (by simp)⟩, fun b hb => .inl ?_⟩
   ·simp only [Array.size_append, List.size_toArray, size_zeroCells, tu, wF.1, hl, <- Nat.add_mul]
    congr 1
    omega
   ·simp only [Array.toList_append, List.append_assoc]
    rw [<- List.append_assoc, <- hlen]
    exact List.take_left
   ·simp [blk] at hb; subst hb; simp
theorem Jp (t ty e : TypeId) (i : TypeInfo) (ht : P.underlying t = some (.slice e)) (hi : P.info? e = some i) (base : Option Addr) (n cap : Nat) (vz : n <= cap) (hb : base = none -> cap = 0) :
  (Builtin.append_ #[t, t] ty #[.slice base n cap, .slice none 0 0]).run P w = .ok (.slice base n cap) w := by
 cases base with
 | none =>
  have := hb rfl; subst this
  have : n = 0 := by omega
  subst this
  simp [Builtin.append_, run_underlying ht, sizeOf, typeInfo, hi, Builtin.lenOf, Builtin.firstCells]
 | some ad => simp [Builtin.append_, run_underlying ht, sizeOf, typeInfo, hi, Builtin.lenOf, Builtin.firstCells, vz, storeCells]
theorem Rel.less (r : Rel T0 B σ a w X h) {σ' : St} (hl : σ'.length = σ.length) (vO : ∀ t, σ'.get t = σ.get t) (hk : ∀ t j, σ'.ob t j ≠ .none -> σ'.ob t j = σ.ob t j) : Rel T0 B σ' a w X h := by
 have back : ∀ t j o, σ'.ob t j = o -> o ≠ .none -> σ.ob t j = o := by
  intro t j o ho wB
  rw [<- hk t j (by rw [ho]; exact wB)]; exact ho
 have at_ : ∀ {x : At} {v : Value}, (fun _ : At => false) x = false -> Zm (Tof T0 X) h σ.ob w x v -> Zm (Tof T0 X) h σ'.ob w x v := by
  intro x v _ rx
  cases x with
  | any => exact rx
  | d x => exact rx
  | nil s => exact rx
  | sref u i lo len => exact ⟨rx.1, fun q size rows ho => rx.2.1 q size rows (back u i _ ho (by simp)), fun size rows ho => rx.2.2 size rows (back u i _ ho (by simp))⟩
  | ptr u i k c => exact ⟨rx.1, fun q size rows ho => rx.2 q size rows (back u i _ ho (by simp))⟩
  | bptr u c => exact ⟨rx.1, fun cells ho => rx.2 cells (back u 0 _ ho (by simp))⟩
  | fn f u => exact ⟨rx.1, fun cells ho => rx.2 cells (back u 0 _ ho (by simp))⟩
  | tref u i k c o => exact ⟨rx.1, fun size rows ho => rx.2 size rows (back u i _ ho (by simp))⟩
  | rptr rr c => exact rx
 have vX : ∀ u i, σ'.ob u i ≠ .none -> σ.ob u i ≠ .none := fun u i hn => by rw [<- hk u i hn]; exact hn
 refine ⟨by rw [r.size, hl], r.defers, r.hB, r.hX, r.hT, fun u hu => ?_, fun u i => ?_, fun u i b hn => r.ub u i b (vX u i hn), fun u i b hn => r.own u i b (vX u i hn), fun u i u' i' b hn wz => r.inj u i u' i' b (vX u i hn) (vX u' i' wz)⟩
 ·rw [vO u]; exact Xe.map at_ (KP _) (r.slot u (by omega))
 ·by_cases hn : σ'.ob u i = .none
  ·rw [hn]; trivial
  ·rw [hk u i hn]
   exact Xs.map at_ (fun b k v hb hc => ⟨hc, hb⟩) (fun ho b => r.ub u i b ho) (fun _ _ _ => rfl) (yl _) (r.obj u i)
theorem St.qN (σ : St) (t j u i : Nat) : (σ.ZT t j .none).ob u i = if u = t /\ i = j then .none else σ.ob u i := by
 by_cases wU : σ.ob t j = .none
 ·have key : ∀ (σ : St) (t u : Nat), σ.ob t j = .none -> (σ.ZT t j .none).ob u i = σ.ob u i := by
   intro σ
   induction σ with
   | nil => intro t u _; simp [St.ZT]
   | cons e σ ih =>
    intro t u ho
    cases t with
    | zero => cases u with
     | zero =>
      simp only [St.ZT, St.ob, List.getElem?_cons_zero, Nv] at ho ⊢
      split
      ·rename_i hh; rw [hh.1, ho]
      ·rfl
     | succ u => simp [St.ZT, St.ob]
    | succ t => cases u with
     | zero => simp [St.ZT, St.ob]
     | succ u =>
      have := ih t u (by simpa [St.ob] using ho)
      simp only [St.ob, St.ZT] at this ⊢; simpa using this
  rw [key σ t u wU]
  split
  ·rename_i hh; rw [hh.1, hh.2]; exact wU
  ·rfl
 ·exact St.Yj σ t j _ u i wU
theorem Rel.drop (r : Rel T0 B σ a w X h) (t j : Nat) : Rel T0 B (σ.ZT t j .none) a w X h := by
 refine r.less (St.YR _ _ _ _) (fun u => St.Y2 _ _ _ _ u) (fun u i hn => ?_)
 rw [St.qN] at hn ⊢
 split
 ·rename_i hh; rw [if_pos hh] at hn; exact absurd rfl hn
 ·rfl
def St.ZX : St -> List (Nat × Nat) -> St
 | σ, [] => σ
 | σ, p :: l => St.ZX (σ.ZT p.1 p.2 .none) l
theorem St.QM : ∀ (l : List (Nat × Nat)) (σ : St), (σ.ZX l).length = σ.length
 | [], σ => rfl
 | p :: l, σ => by rw [St.ZX, St.QM l, St.YR]
theorem St.Jk : ∀ (l : List (Nat × Nat)) (σ : St) (t : Nat), (σ.ZX l).get t = σ.get t
 | [], σ, t => rfl
 | p :: l, σ, t => by rw [St.ZX, St.Jk l, St.Y2]
theorem St.QU : ∀ (l : List (Nat × Nat)) (σ : St) (t j : Nat), (σ.ZX l).ob t j = if (t, j) ∈ l then .none else σ.ob t j
 | [], σ, t, j => by simp [St.ZX]
 | p :: l, σ, t, j => by
  rw [St.ZX, St.QU l, St.qN]
  by_cases h1 : (t, j) ∈ l
  ·simp [h1]
  ·by_cases h2 : t = p.1 /\ j = p.2
   ·have : (t, j) = p := by rw [h2.1, h2.2]
    rw [if_neg h1, if_pos h2, if_pos (by rw [this]; simp)]
   ·have : ¬ (t, j) = p := fun e => h2 (by rw [<- e]; exact ⟨rfl, rfl⟩)
    simp [h1, h2, this]
theorem Rel.ZX (r : Rel T0 B σ a w X h) (l : List (Nat × Nat)) : Rel T0 B (σ.ZX l) a w X h := by
 refine r.less (St.QM l σ) (St.Jk l σ) (fun u i hn => ?_)
 rw [St.QU] at hn ⊢
 split
 ·rename_i hh; rw [if_pos hh] at hn; exact absurd rfl hn
 ·rfl
end
end Go.Vm
namespace Go.Vm
open Go.RowKit
section
variable {P : Program} {T0 : CS} {B : Nat -> Prop} {σ : St} {a : Act} {w w' : World} {X X' : Nat -> Prop} {h : Nat -> Nat -> Hd}
theorem Jv {T : TypeId} (hz : XD P T = true) : ∃ i z row, P.info? T = some i /\ i.zero = some z /\ yM P 12 T = some row /\ i.size = row.length /\ z.cells.size = i.size /\ i.size = P.cellsOf T /\ (∀ T' h ob w, Zg (Zm T' h ob w) row z.cells.toList) := by
 have uc : ∃ row, yM P 12 T = some row := by
  unfold XD at hz
  split at hz
  ·rename_i row i hr hi; exact ⟨row, hr⟩
  ·cases hz
 obtain ⟨row, hr⟩ := uc
 obtain ⟨i, z, hi, tO, vK, wD⟩ := T2 hz hr
 refine ⟨i, z, row, hi, tO, hr, vK, ?_, by simp [Program.cellsOf, hi], wD⟩
 have := (wD (fun _ _ => True) (fun _ _ => Hd.of undef) (fun _ _ => .none) default).length
 have e1 : z.cells.toList.length = z.cells.size := Array.length_toList
 omega
def yI (σ : St) (x : V) (size : Nat) (news : List (List D)) : Prop :=
 match x with
 | .one (.d (.sl s rows)) => s = size /\ news = rows
 | .one (.nil _) => news = []
 | .one (.sref t j lo len) => ∃ rows, σ.ob t j = .arr false size rows /\ lo + len <= rows.length /\ news = cut rows lo len
 | _ => False
def jS (σ : St) (x : V) (size : Nat) (wC : List (List D)) (σ1 : St) : Prop :=
 match x with
 | .one (.nil _) => wC = [] /\ σ1 = σ
 | .one (.sref t j lo len) => ∃ rows, σ.ob t j = .arr false size rows /\ lo = 0 /\ len <= rows.length /\ wC = rows.take len /\ σ1 = σ.ZT t j .none
 | _ => False
theorem y7 (v : Value) (n : Nat) : blk (VU v n) = blk v := by
 cases v with
 | slice o _ _ => cases o <;> rfl
 | _ => rfl
theorem Qc (rows : List (List D)) (size : Nat) (hz : ∀ r ∈ rows, r.length = size) (len : Nat) (hle : len <= rows.length) : (rows.take len).flatten = rows.flatten.take (len * size) := by
 induction rows generalizing len with
 | nil => simp
 | cons r rows ih =>
  cases len with
  | zero => simp
  | succ len =>
   have h1 := hz r (by simp)
   have h2 := ih (fun q hq => hz q (by simp [hq])) len (by simpa using hle)
   have h3 : (len + 1) * size = r.length + len * size := by rw [Nat.add_mul, h1]; omega
   rw [List.take_succ_cons, List.flatten_cons, List.flatten_cons, h2, h3, List.take_length_add_append]
theorem zP {e : TypeId} {size : Nat} {v : Value} {n len : Nat} {xs : List Value} (ho : w.ownsRow 0 e size v n xs) (hle : len <= n) : w.ownsRow 0 e size (VU v len) len (xs.take (len * size)) := by
 have hm : len * size <= n * size := Nat.mul_le_mul_right _ hle
 refine ⟨by rw [List.length_take, ho.1]; omega, ?_⟩
 rcases ho.2 with ⟨rfl, rfl⟩ | ⟨g, cap, cur, rfl, hx, hg, vz, pb, uO, ug⟩
 ·have : len = 0 := by omega
  subst this
  exact .inl ⟨rfl, rfl⟩
 ·refine .inr ⟨g, cap, cur, rfl, hx, hg, by omega, pb, uO, ?_⟩
  rw [<- ug, List.take_take]
  congr 1
  omega
theorem Pv (r : Rel T0 B σ a w X h) {x : V} {v : Value} {size : Nat} {news : List (List D)} (hs : yI σ x size news) (hv : Xe (Tof T0 X) h σ.ob w x v) :
  (∀ n ∈ news, n.length = size) /\ ((v = .slice none 0 0 /\ news = []) \/ ∃ ad c xs, v = .slice (some ad) news.length c /\ (∀ j u, xs[j]? = some u -> w.cell? (ad.add j) = some u) /\ Zg (Rd (Tof T0 X) w) xs news.flatten) := by
 unfold yI at hs
 split at hs
 ·rename_i s rows
  obtain ⟨rfl, rfl⟩ := hs
  refine ⟨PE (show Rd _ _ _ _ from hv), ?_⟩
  cases (show Rd _ _ _ _ from hv) with
  | nil => exact .inl ⟨rfl, rfl⟩
  | sl ad len cap s rows g hl hc hm hz rF hg hr =>
   refine .inr ⟨ad, cap, (List.range news.flatten.length).map g, by rw [hl], fun j u hu => ?_, ?_⟩
   ·rw [List.getElem?_map] at hu
    rcases Nat.lt_or_ge j news.flatten.length with hj | hj
    ·rw [List.getElem?_range hj] at hu
     cases hu
     have wB : news.flatten ≠ [] := by intro he; rw [he] at hj; simp at hj
     have := (hg j _ (List.getElem?_eq_getElem hj)).1
     obtain ⟨b, off, sp⟩ := ad
     have := rF wB
     simp at this; subst this
     rw [KI]; assumption
    ·rw [List.getElem?_eq_none (by simpa using hj)] at hu; cases hu
   ·refine Zg.KD (by simp) (fun k u d hu hd => ?_)
    rw [List.getElem?_map] at hu
    have hk := (List.getElem?_eq_some_iff.1 hd).1
    rw [List.getElem?_range hk] at hu
    cases hu
    exact hr k d hd
 ·subst hs
  exact ⟨(by intro n hn; cases hn), .inl ⟨hv, rfl⟩⟩
 ·rename_i t j lo len
  obtain ⟨rows, ho, hle, rfl⟩ := hs
  have h0 := r.obj t j
  rw [ho] at h0
  obtain ⟨e, xs, ⟨hl, wF⟩, hz, wD⟩ := h0
  refine ⟨fun x hx => hz x (List.mem_of_mem_drop (List.mem_of_mem_take hx)), ?_⟩
  have uo : Zm (Tof T0 X) h σ.ob w (.sref t j lo len) v := hv
  obtain ⟨_, _, _, base, cap, rfl, vj, _, s4, hb⟩ := uo.2.1 _ size rows ho
  have wg : (cut rows lo len).length = len := YK _ _ _ hle
  by_cases vM : 0 < len
  ·obtain ⟨b, tP, hh, rfl⟩ := hb vM
   rcases wF with ⟨hn, _⟩ | ⟨g, rZ, cur, uo, _, ov, vz, uP, uO, ug⟩
   ·rw [hh] at hn; cases hn
   ·rw [hh] at uo; cases uo
    refine .inr ⟨_, cap, cut xs (lo * size) (len * size), by rw [wg], fun j u hu => ?_, ?_⟩
    ·have h1 := JD _ _ _ _ _ hu
     rw [KI]
     refine Q6 ov _ _ ?_
     rw [<- ug, List.getElem?_take] at h1
     split at h1
     ·exact h1
     ·cases h1
    ·have rM : xs.length = rows.length * size := by rw [wD.length, Zo rows size hz]
     have hmul : lo * size + len * size <= rows.length * size := by rw [<- Nat.add_mul]; exact Nat.mul_le_mul_right _ hle
     refine Zg.KD ?_ (fun k u d hu hd => ?_)
     ·rw [YK _ _ _ (by omega), Zo (cut rows lo len) size (fun x hx => hz x (List.mem_of_mem_drop (List.mem_of_mem_take hx))), wg]
     ·have h1 := JD _ _ _ _ _ hu
      have h2 := K5 rows size lo len hz k d hd
      obtain ⟨d', wP, hr⟩ := wD.get _ _ h1
      rw [h2] at wP; cases wP
      exact hr
  ·have : len = 0 := by omega
   subst this
   have tJ : cut rows lo 0 = [] := by simp [cut]
   rw [tJ]
   cases base with
   | none => have := s4 rfl; subst this; exact .inl ⟨rfl, rfl⟩
   | some ad => exact .inr ⟨ad, cap, [], rfl, by simp, .nil⟩
 ·exact hs.elim
theorem OQ (r : Rel T0 B σ a w X h) {o : Oper} {t : TypeId} {x y : Operand} {d : Nat} {wC news : List (List D)} {σ1 : St} (wA : o.op = .call ⟨.builtin .append, #[x, y], #[t, t]⟩) (hd : o.dst = some d)
  (tW : gOf (look P σ t x) = true) (tX : gOf (look P σ t y) = true) (ht : YS P t = true) (hz : XD P (ZH P t) = true) (vM : 0 < P.cellsOf (ZH P t))
  (vr : jS σ (unc (look P σ t x)) (P.cellsOf (ZH P t)) wC σ1) (tQ : yI σ (unc (look P σ t y)) (P.cellsOf (ZH P t)) news) (w7 : σ1.fresh d = true)
  (vJ : (wC.length + news.length) * P.bytesOf (ZH P t) <= 140737488355328) (pM : wC.length + news.length <= 9223372036854775807)
  {K : Act -> World -> Prop} {Q : Exit -> Act -> World -> Prop} (hK : ∀ a' w', X6 T0 B (σ1.new d (.one (.sref d 0 0 (wC.length + news.length))) [.arr false (P.cellsOf (ZH P t)) (wC ++ news)]) a' w' -> YQ B w w' -> K a' w') : o.wp P a w K Q := by
 obtain ⟨ti, hu, hi, uq⟩ := Yv ht
 obtain ⟨i, z, row, vc, tO, uc, ur, tu, v7, uY⟩ := Jv hz
 rw [hi] at vc; cases vc
 have pN : P.bytesOf (ZH P t) = ti.bytes := by simp [Program.bytesOf, hi]
 rw [pN] at vJ
 rw [<- v7] at vr tQ vM hK
 have sO := r.arg (P := P) t x rfl tW
 have pd := r.arg (P := P) t y rfl tX
 obtain ⟨o6, vN⟩ := Pv r tQ pd
 have vy : ∃ e0 xs, w.ownsRow 0 e0 ti.size (a.eval x) wC.length xs /\ (∀ q ∈ wC, q.length = ti.size) /\ Zg (Rd (Tof T0 X) w) xs wC.flatten /\ Rel T0 B σ1 a w X h /\
   (∀ b, blk (a.eval x) = some b -> ¬ B b /\ ¬ X b /\ b < w.heap.size /\ ∀ u j, σ1.ob u j ≠ .none -> ¬ (h u j).u b) := by
  unfold jS at vr
  split at vr
  ·rename_i s heq
   obtain ⟨rfl, rfl⟩ := vr
   rw [heq] at sO
   have he : a.eval x = .slice none 0 0 := sO
   rw [he]
   exact ⟨0, [], World.ownsRow_nil w 0 0 _, (by intro q hq; cases hq), .nil, r, (fun b hb => by cases hb)⟩
  ·rename_i u j lo len heq
   obtain ⟨rows, ho, rfl, hle, rfl, rfl⟩ := vr
   rw [heq] at sO
   have sP : Zm (Tof T0 X) h σ.ob w (.sref u j 0 len) (a.eval x) := sO
   obtain ⟨_, _, uA, _⟩ := sP.2.1 _ _ _ ho
   have he : a.eval x = VU (h u j).v len := uA rfl
   have h0 := r.obj u j
   rw [ho] at h0
   obtain ⟨e, xs, wF, vi, wD⟩ := h0
   have wU : σ.ob u j ≠ .none := by rw [ho]; simp
   have rj : (rows.take len).length = len := by rw [List.length_take]; omega
   have ve : (rows.take len).flatten = rows.flatten.take (len * ti.size) := Qc rows ti.size vi len hle
   refine ⟨e, xs.take (len * ti.size), by rw [he, rj]; exact zP wF hle, fun q hq => vi q (List.mem_of_mem_take hq), by rw [ve]; exact wD.take _, r.drop u j, fun b hb => ?_⟩
   rw [he, y7] at hb
   have rq := r.ub u j b wU hb
   have w8 := r.own u j b wU rq
   refine ⟨w8.1, w8.2.1, w8.2.2, fun u' j' wB wM => ?_⟩
   have sc : σ.ob u' j' ≠ .none := by
    intro hh
    rw [St.Yj σ u j _ u' j' wU] at wB
    split at wB
    ·exact wB rfl
    ·exact wB hh
   have := r.inj u j u' j' b wU sc rq wM
   obtain ⟨rfl, rfl⟩ := this
   rw [St.Yj σ u j _ u j wU] at wB
   simp at wB
  ·exact vr.elim
 obtain ⟨e0, xs, wF, mX, pP, r1, we⟩ := vy
 have su : ∀ q ∈ wC ++ news, q.length = ti.size := by
  intro q hq
  rcases List.mem_append.1 hq with hq | hq
  ·exact mX q hq
  ·exact o6 q hq
 have key : ∀ (v' : Value) (w' : World) (e1 : TypeId) (ys : List Value), (Builtin.append_ #[t, t] o.type #[a.eval x, a.eval y]).run P w = .ok v' w' -> w'.ownsRow 0 e1 ti.size v' (wC.length + news.length) (xs ++ ys) ->
   Zg (Rd (Tof T0 X) w) ys news.flatten -> w.grownBy w' (blk (a.eval x)) -> (∀ b, blk v' = some b -> (w.heap.size <= b /\ b < w'.heap.size) \/ blk (a.eval x) = some b) -> o.wp P a w K Q := by
  intro v' w' e1 ys wV wZ pO vT tx
  have wO := St.QN w7
  have hT : ∀ b k v, Tof T0 X b k -> w.cell? ⟨b, k, none⟩ = some v -> w'.cell? ⟨b, k, none⟩ = some v /\ Tof T0 X b k := by
   intro b k v hb wG
   refine ⟨?_, hb⟩
   have wB : some b ≠ blk (a.eval x) := by
    intro e
    have h1 := we b e.symm
    rcases hb with hb | hb
    ·exact h1.1 (r.hT b k hb)
    ·exact h1.2.1 hb
   rw [World.cell?_of_block (vT.block b (r.Tlt hb) wB)]; exact wG
  unfold Oper.wp
  have tB : (execOp a.eval o).run P w = .ok (.value v') w' := by
   simp only [execOp, wA, resolve, invoke, builtin, Sem.run_bind, Sem.run_pure, Result.andThen_ok, List.map_toArray, List.map_cons, List.map_nil, wV]
  rw [tB, Oper.upon_value, hd]
  refine hK _ _ ⟨X, fun u j => if u = d then Hd.of v' else h u j, ?_⟩ ⟨vT.os, vT.tape, vT.output, vT.size, fun k hk => vT.block k (r.hB k hk) (fun e => (we k e.symm).1 hk)⟩
  have w6 : (σ1.new d (.one (.sref d 0 0 (wC.length + news.length))) [.arr false ti.size (wC ++ news)]).ob d 0 = .arr false ti.size (wC ++ news) := by rw [St.Xm]; simp [wO, Zw]
  have w5 : w'.ownsRow 0 e1 ti.size v' (wC ++ news).length (xs ++ ys) := by rw [List.length_append]; exact wZ
  have sN : Zg (Rd (Tof T0 X) w') (xs ++ ys) (wC ++ news).flatten := by
   rw [List.flatten_append]
   exact (pP.imp fun _ _ => Rd.mono hT).append (pO.imp fun _ _ => Rd.mono hT)
  refine r1.OT w7 (fun b => blk (a.eval x) = some b) vT.size (fun k hk wB => vT.block k hk (fun e => wB e.symm)) (fun b hb => ⟨(we b hb).1, (we b hb).2.1, fun u j _ wB => (we b hb).2.2.2 u j wB⟩) (fun _ hb => hb) (fun _ hb => .inl hb) _ _ [.arr false ti.size (wC ++ news)] (fun _ => Hd.of v') ?_ (fun j => ?_) (fun j b _ hb => hb) (fun j b wB wM => ?_) (fun j j' b wB wv _ _ => ?_)
  ·refine ⟨Xj wZ, fun q' wW wK hh => ?_, fun wW wK hh => by rw [w6] at hh; cases hh⟩
   rw [w6] at hh; cases hh
   simp only [if_true, List.length_append]
   have := zS w5
   rwa [List.length_append] at this
  ·cases j with
   | zero => exact ⟨e1, xs ++ ys, w5, su, sN⟩
   | succ j => simp [Zw, Xs]
  ·rcases tx b wM with h1 | h1
   ·exact ⟨.inl h1.1, fun hx => by have := (r.hX b hx).2; omega, h1.2⟩
   ·have h2 := we b h1
    exact ⟨.inr h1, h2.2.1, by have := vT.size; omega⟩
  ·have : ∀ j, Zw [Ob.arr false ti.size (wC ++ news)] j ≠ .none -> j = 0 := by
    intro j hj
    cases j with
    | zero => rfl
    | succ j => simp [Zw] at hj
   rw [this j wB, this j' wv]
 rcases vN with ⟨pR, rfl⟩ | ⟨ad, c, ys, pR, wG, pO⟩
 ·have wc : ∃ base cap, a.eval x = .slice base wC.length cap /\ wC.length <= cap /\ (base = none -> cap = 0) := by
   rcases wF.2 with ⟨h1, h2⟩ | ⟨g, cap, cur, h1, _, _, vz, _⟩
   ·exact ⟨none, 0, by rw [h1, h2], by omega, fun _ => rfl⟩
   ·exact ⟨_, cap, h1, vz, (fun hh => by cases hh)⟩
  obtain ⟨base, cap, hex, vz, pv⟩ := wc
  refine key (a.eval x) w e0 [] ?_ (by simpa using wF) .nil ⟨rfl, rfl, rfl, Nat.le_refl _, fun _ _ _ => rfl⟩ (fun b hb => .inr hb)
  rw [hex, pR]
  exact Jp t o.type _ ti hu hi base wC.length cap vz pv
 ·have v9 : ys.length = news.length * ti.size := by rw [pO.length, Zo news ti.size o6]
  obtain ⟨v', w', e1, wV, wZ, vT, tx⟩ := za (P := P) (w := w) t o.type _ e0 ti z hu hi tO tu (by omega) (a.eval x) wC.length xs wF ad news.length c ys v9 wG
   (fun u uF => by
    obtain ⟨k, hk⟩ := List.mem_iff_getElem?.1 uF
    obtain ⟨d', _, vU⟩ := pO.get k u hk
    exact Rd.Y4 vU) (by simp only [maxLen]; omega) vJ
  refine key v' w' e1 ys ?_ wZ pO vT tx
  rw [pR]; exact wV
end
end Go.Vm
namespace Go.Vm
open Go.RowKit
section
variable {P : Program} {T0 : CS} {B : Nat -> Prop} {σ : St} {a : Act} {w w' : World} {X X' : Nat -> Prop} {h : Nat -> Nat -> Hd}
def VH (P : Program) (σ : St) (T : TypeId) (size : Nat) : List (Nat × Operand) -> Nat -> List (List D) -> Prop
 | [], _, rs => rs = []
 | (i, x) :: ps, k, rs => i = k /\ gOf (look P σ T x) = true /\ (unc (look P σ T x)).flat = true /\ Q0 (unc (look P σ T x)).cells = true /\
   ∃ r rest, rowOf σ (unc (look P σ T x)).cells = some r /\ r.length = size /\ VH P σ T size ps (k + 1) rest /\ rs = r :: rest
theorem Uy {α : Type} (l : List α) (o : Nat) (xs ys : List α) (hl : o + (xs ++ ys).length <= l.length) : place (place l o xs) (o + xs.length) ys = place l o (xs ++ ys) := by
 simp only [List.length_append] at hl
 unfold place
 have h1 : (l.take o ++ xs).length = o + xs.length := by simp; omega
 have h2 : (l.take o ++ xs ++ l.drop (o + xs.length)).take (o + xs.length) = l.take o ++ xs := by
  rw [List.take_append_of_le_length (by omega), List.take_of_length_le (by omega)]
 have h3 : (l.take o ++ xs ++ l.drop (o + xs.length)).drop (o + xs.length + ys.length) = l.drop (o + (xs ++ ys).length) := by
  rw [show o + xs.length + ys.length = (l.take o ++ xs).length + ys.length by omega, List.drop_length_add_append, List.drop_drop]
  congr 1; simp; omega
 rw [h2, h3]; simp
theorem V8 (r : Rel T0 B σ a w X h) (T : TypeId) (size : Nat) : ∀ (ps : List (Nat × Operand)) (k : Nat) (rs : List (List D)) (cells : Array Value), VH P σ T size ps k rs -> (k + ps.length) * size <= cells.size ->
   ∃ wH ys, Instr.fill (fun i => some (i * size, size)) cells (ps.map fun x => (x.1, a.eval x.2)) = some wH /\ wH.toList = place cells.toList (k * size) ys /\ Zg (Rd (Tof T0 X) w) ys rs.flatten /\ (∀ q ∈ rs, q.length = size) /\ rs.length = ps.length
 | [], k, rs, cells, hb, _ => by cases hb; exact ⟨cells, [], rfl, by simp [place], .nil, (by intro q hq; cases hq), rfl⟩
 | (i, x) :: ps, k, rs, cells, hb, hl => by
  obtain ⟨rfl, hg, hf, wb, r0, rest, tG, hlen, hb, rfl⟩ := hb
  have hx := yO hf (r.arg (P := P) T x rfl hg)
  have oM := r.rowOf true tG hx (fun _ => wb)
  simp only [if_true] at oM
  have pw := oM.length
  have e1 : cells.toList.length = cells.size := Array.length_toList
  have e2 : (a.eval x).cells.toList.length = (a.eval x).cells.size := Array.length_toList
  have hmul : (i + (ps.length + 1)) * size = i * size + size + ps.length * size := by rw [Nat.add_mul, Nat.add_mul]; omega
  simp only [List.length_cons] at hl
  have heq := jQ (i * size) (a.eval x).cells cells (by omega)
  have ur : ((a.eval x).cells.zipIdx.foldl (fun cs x => cs.setIfInBounds (i * size + x.2) x.1) cells).size = cells.size := by
   rw [<- Array.length_toList, heq, Yw _ _ _ (by omega), e1]
  have mh : (i + 1 + ps.length) * size = i * size + size + ps.length * size := by rw [Nat.add_mul, Nat.add_mul]; omega
  obtain ⟨wH, ys, h1, h2, h3, h4, h5⟩ := V8 r T size ps (i + 1) rest _ hb (by rw [ur]; omega)
  have v9 : ys.length = ps.length * size := by rw [h3.length, Zo rest size h4, h5]
  refine ⟨wH, (a.eval x).cells.toList ++ ys, ?_, ?_, ?_, ?_, by simp [h5]⟩
  ·simp only [List.map_cons, Instr.fill]
   rw [if_neg (by simp; omega)]
   exact h1
  ·rw [h2, heq]
   rw [show (i + 1) * size = i * size + (a.eval x).cells.toList.length by rw [Nat.add_mul]; omega]
   exact Uy _ _ _ _ (by simp; omega)
  ·rw [List.flatten_cons]; exact oM.append h3
  ·intro q hq
   rcases List.mem_cons.1 hq with rfl | hq
   ·exact hlen
   ·exact h4 q hq
theorem Ua (r : Rel T0 B σ a w X h) {o : Oper} {T : TypeId} {n : Nat} {parts : Array (Nat × Operand)} {d : Nat} {rows : List (List D)} (wA : o.op = .buildSlice T n parts) (hd : o.dst = some d) (w7 : σ.fresh d = true)
  (ht : YS P T = true) (hz : XD P (ZH P T) = true) (vM : 0 < P.cellsOf (ZH P T)) (hn : parts.toList.length = n) (gJ : n * P.cellsOf (ZH P T) <= 16777216) (hb : VH P σ (ZH P T) (P.cellsOf (ZH P T)) parts.toList 0 rows)
  {K : Act -> World -> Prop} {Q : Exit -> Act -> World -> Prop} (hK : ∀ a' w', X6 T0 B (σ.new d (.one (.sref d 0 0 rows.length)) [.arr false (P.cellsOf (ZH P T)) rows]) a' w' -> YQ B w w' -> K a' w') : o.wp P a w K Q := by
 obtain ⟨ti, hu, hi, uq⟩ := Yv ht
 obtain ⟨i, z, row, vc, tO, uc, ur, tu, v7, uY⟩ := Jv hz
 rw [hi] at vc; cases vc
 have uj : (zeroValue (ZH P T)).run P w = .ok z w := by simp [zeroValue, typeInfo, hi, tO]
 obtain ⟨zero, hzero⟩ : ∃ zero : Array Value, (n * P.cellsOf (ZH P T) = 0 -> zero = #[]) /\ (¬ n * P.cellsOf (ZH P T) = 0 -> zero = z.cells) := by
  by_cases h0 : n * P.cellsOf (ZH P T) = 0
  ·exact ⟨#[], fun _ => rfl, fun hh => absurd h0 hh⟩
  ·exact ⟨z.cells, fun hh => absurd hh h0, fun _ => rfl⟩
 obtain ⟨wH, ys, h1, h2, h3, h4, h5⟩ := V8 r (ZH P T) (P.cellsOf (ZH P T)) parts.toList 0 rows ((Array.range (n * P.cellsOf (ZH P T))).map (zero[· % zero.size]!)) hb (by simp [hn])
 have v9 : ys.length = n * P.cellsOf (ZH P T) := by rw [h3.length, Zo rows _ h4, h5, hn]
 have wg : wH.toList = ys := by
  rw [h2]
  unfold place
  simp [v9]
 have tA : (parts.map fun (x : Nat × Operand) => (x.1, a.eval x.2)).toList = parts.toList.map fun x => (x.1, a.eval x.2) := by simp
 have wV : (execOp a.eval o).run P w = .ok (.value (.slice (some ⟨w.heap.size, 0, none⟩) n n)) (w.alloc (.cells wH (ZH P T))) := by
  have tI : ¬ (n * P.cellsOf (ZH P T) > 2 ^ 24) := by omega
  by_cases h0 : n * P.cellsOf (ZH P T) = 0
  ·have sX := hzero.1 h0
   subst sX
   simp only [execOp, wA, Instr.buildSlice, Sem.run_bind, run_underlying hu, Result.andThen_ok, QO hi, if_neg tI, if_pos h0, tA, h1, newRow, Sem.run_pure, run_newObj_alloc]
  ·have sX := hzero.2 h0
   subst sX
   simp only [execOp, wA, Instr.buildSlice, Sem.run_bind, run_underlying hu, Result.andThen_ok, QO hi, if_neg tI, if_neg h0, uj, tA, h1, newRow, Sem.run_pure, run_newObj_alloc]
 unfold Oper.wp
 rw [wV, Oper.upon_value, hd]
 have hlen : rows.length = n := by rw [h5, hn]
 have hT : ∀ b k v, Tof T0 X b k -> w.cell? ⟨b, k, none⟩ = some v -> (w.alloc (.cells wH (ZH P T))).cell? ⟨b, k, none⟩ = some v /\ Tof T0 X b k := by
  intro b k v hb wG
  refine ⟨?_, hb⟩
  rw [World.cell?_of_block ((World.grownBy_alloc w (.cells wH (ZH P T)) none).block b (r.Tlt hb) (by simp))]; exact wG
 have pS : wH.size = n * P.cellsOf (ZH P T) := by rw [<- Array.length_toList, wg, v9]
 have uP : n <= maxLen := by
  have : n <= n * P.cellsOf (ZH P T) := Nat.le_mul_of_pos_right _ vM
  simp only [maxLen]; omega
 have := r.Hg w7 (World.grownBy_alloc w (.cells wH (ZH P T)) none) (.slice (some ⟨w.heap.size, 0, none⟩) n n) (size := P.cellsOf (ZH P T)) (rows := rows)
  ⟨ZH P T, ys, ⟨by rw [v9, hlen], .inr ⟨w.heap.size, n, wH, by rw [hlen], Nat.zero_le _, heap_alloc_new w _, by omega, uP, pS, by rw [wg, hlen, List.take_of_length_le (by omega)]⟩⟩, h4, h3.imp fun _ _ => Rd.mono hT⟩
  (fun b hb => by simp [blk] at hb; subst hb; exact ⟨Nat.le_refl _, by simp⟩)
 exact hK _ _ this.1 this.2
theorem O7 (r : Rel T0 B σ a w X h) {o : Oper} {T : TypeId} {n : Nat} {parts : Array (Nat × Operand)} {d : Nat} {rows : List (List D)} (wA : o.op = .buildSlice T n parts) (hd : o.dst = some d)
  (ht : YS P T = true) (hz : XD P (ZH P T) = true) (vM : 0 < P.cellsOf (ZH P T)) (hn : parts.toList.length = n) (gJ : n * P.cellsOf (ZH P T) <= 16777216) (hb : VH P σ (ZH P T) (P.cellsOf (ZH P T)) parts.toList 0 rows)
  {K : Act -> World -> Prop} {Q : Exit -> Act -> World -> Prop} (hK : ∀ a' w', X6 T0 B (σ.put d (.one (.d (.sl (P.cellsOf (ZH P T)) rows)))) a' w' -> YQ B w w' -> K a' w') : o.wp P a w K Q := by
 obtain ⟨ti, hu, hi, uq⟩ := Yv ht
 obtain ⟨i, z, row, vc, tO, uc, ur, tu, v7, uY⟩ := Jv hz
 rw [hi] at vc; cases vc
 have uj : (zeroValue (ZH P T)).run P w = .ok z w := by simp [zeroValue, typeInfo, hi, tO]
 obtain ⟨zero, hzero⟩ : ∃ zero : Array Value, (n * P.cellsOf (ZH P T) = 0 -> zero = #[]) /\ (¬ n * P.cellsOf (ZH P T) = 0 -> zero = z.cells) := by
  by_cases h0 : n * P.cellsOf (ZH P T) = 0
  ·exact ⟨#[], fun _ => rfl, fun hh => absurd h0 hh⟩
  ·exact ⟨z.cells, fun hh => absurd hh h0, fun _ => rfl⟩
 obtain ⟨wH, ys, h1, h2, h3, h4, h5⟩ := V8 r (ZH P T) (P.cellsOf (ZH P T)) parts.toList 0 rows ((Array.range (n * P.cellsOf (ZH P T))).map (zero[· % zero.size]!)) hb (by simp [hn])
 have v9 : ys.length = n * P.cellsOf (ZH P T) := by rw [h3.length, Zo rows _ h4, h5, hn]
 have wg : wH.toList = ys := by
  rw [h2]
  unfold place
  simp [v9]
 have tA : (parts.map fun (x : Nat × Operand) => (x.1, a.eval x.2)).toList = parts.toList.map fun x => (x.1, a.eval x.2) := by simp
 have wV : (execOp a.eval o).run P w = .ok (.value (.slice (some ⟨w.heap.size, 0, none⟩) n n)) (w.alloc (.cells wH (ZH P T))) := by
  have tI : ¬ (n * P.cellsOf (ZH P T) > 2 ^ 24) := by omega
  by_cases h0 : n * P.cellsOf (ZH P T) = 0
  ·have sX := hzero.1 h0
   subst sX
   simp only [execOp, wA, Instr.buildSlice, Sem.run_bind, run_underlying hu, Result.andThen_ok, QO hi, if_neg tI, if_pos h0, tA, h1, newRow, Sem.run_pure, run_newObj_alloc]
  ·have sX := hzero.2 h0
   subst sX
   simp only [execOp, wA, Instr.buildSlice, Sem.run_bind, run_underlying hu, Result.andThen_ok, QO hi, if_neg tI, if_neg h0, uj, tA, h1, newRow, Sem.run_pure, run_newObj_alloc]
 unfold Oper.wp
 rw [wV, Oper.upon_value, hd]
 have hlen : rows.length = n := by rw [h5, hn]
 have rm := World.grownBy_alloc w (.cells wH (ZH P T)) none
 have r2 := r.grow (X' := fun b => X b \/ b = w.heap.size) rm (fun b hb => .inl hb) (fun b hb => hb.imp id (fun hh => by subst hh; exact ⟨Nat.le_refl _, by simp⟩))
 have hT : ∀ b k v, Tof T0 X b k -> w.cell? ⟨b, k, none⟩ = some v -> (w.alloc (.cells wH (ZH P T))).cell? ⟨b, k, none⟩ = some v /\ Tof T0 (fun b => X b \/ b = w.heap.size) b k := by
  intro b k v hb wG
  refine ⟨?_, hb.imp id .inl⟩
  rw [World.cell?_of_block (rm.block b (r.Tlt hb) (by simp))]; exact wG
 have pS : wH.size = n * P.cellsOf (ZH P T) := by rw [<- Array.length_toList, wg, v9]
 have uP : n <= maxLen := by
  have : n <= n * P.cellsOf (ZH P T) := Nat.le_mul_of_pos_right _ vM
  simp only [maxLen]; omega
 refine hK _ _ ⟨_, _, r2.put d _ _ ?_⟩ (YQ.qj rm r.hB)
 exact Ln (e := ZH P T) (xs := ys) ⟨by rw [v9, hlen], .inr ⟨w.heap.size, n, wH, by rw [hlen], Nat.zero_le _, heap_alloc_new w _, by omega, uP, pS, by rw [wg, hlen, List.take_of_length_le (by omega)]⟩⟩ h4 (fun b k hb => by simp [blk] at hb; subst hb; exact .inr (.inr rfl)) (h3.imp fun _ _ => Rd.mono hT)
def zD : List At -> Option (List D)
 | [] => some []
 | .d x :: xs => (zD xs).map (x :: ·)
 | .nil s :: xs => (zD xs).map (.sl s [] :: ·)
 | _ => none
theorem OU {T : CS} {ob : Nat -> Nat -> Ob} : ∀ {xs : List At} {ds : List D} {vs : List Value}, zD xs = some ds -> Zg (Zm T h ob w) xs vs -> Zg (Rd T w) vs ds
 | [], ds, vs, hz, wD => by cases wD; simp [zD] at hz; subst hz; exact .nil
 | x :: xs, ds, vs, hz, wD => by
  cases wD with
  | cons hx wD =>
   cases x with
   | d x =>
    simp only [zD, Option.map_eq_some_iff] at hz
    obtain ⟨rJ, ui, rfl⟩ := hz
    exact .cons hx (OU ui wD)
   | nil s =>
    simp only [zD, Option.map_eq_some_iff] at hz
    obtain ⟨rJ, ui, rfl⟩ := hz
    cases hx
    exact .cons (.nil _) (OU ui wD)
   | any => simp [zD] at hz
   | sref => simp [zD] at hz
   | ptr => simp [zD] at hz
   | bptr => simp [zD] at hz
   | fn => simp [zD] at hz
   | rptr => simp [zD] at hz
   | tref => simp [zD] at hz
theorem zl {α : Type} (z : List α) (n k : Nat) (hk : k < n * z.length) : (List.replicate n z).flatten[k]? = z[k % z.length]? := by
 induction n generalizing k with
 | zero => simp at hk
 | succ n ih =>
  rw [List.replicate_succ, List.flatten_cons]
  rcases Nat.lt_or_ge k z.length with wO | tD
  ·rw [List.getElem?_append_left wO, Nat.mod_eq_of_lt wO]
  ·rw [List.getElem?_append_right tD, ih (k - z.length) (by rw [Nat.add_mul] at hk; omega)]
   congr 1
   rw [Nat.mod_eq_sub_mod tD]
theorem Td (r : Rel T0 B σ a w X h) {o : Oper} {T : TypeId} {x : Operand} {d : Nat} {k : IntKind} {n : Nat} {z : List At} {zr : List D} (wA : o.op = .makeSlice T x x) (hd : o.dst = some d) (w7 : σ.fresh d = true)
  (ht : YS P T = true) (hz : XD P (ZH P T) = true) (uc : yM P 12 (ZH P T) = some z) (lI : zD z = some zr) (vM : 0 < P.cellsOf (ZH P T)) (hx : y8 P σ x k (n : Int)) (pN : P.bytesOf (ZH P T) * n <= 281474976710656) (pM : n <= 9223372036854775807)
  {K : Act -> World -> Prop} {Q : Exit -> Act -> World -> Prop} (hK : ∀ a' w', X6 T0 B (σ.new d (.one (.sref d 0 0 n)) [.arr false (P.cellsOf (ZH P T)) (List.replicate n zr)]) a' w' -> YQ B w w' -> K a' w') : o.wp P a w K Q := by
 obtain ⟨ti, hu, hi, uq⟩ := Yv ht
 obtain ⟨i, zv, row, vc, tO, pQ, ur, tu, v7, uY⟩ := Jv hz
 rw [hi] at vc; cases vc
 rw [uc] at pQ; cases pQ
 have hex := KJ r hx
 have nC : (ti.bytes : Int) * (n : Int) <= 281474976710656 := by
  have : P.bytesOf (ZH P T) = ti.bytes := by simp [Program.bytesOf, hi]
  rw [this] at pN
  have h : ((ti.bytes * n : Nat) : Int) <= 281474976710656 := by omega
  rwa [Int.natCast_mul] at h
 have wV := run_make (P := P) w T (ZH P T) ti zv hu hi tO k k n n (by omega) (Int.le_refl _) nC (by omega)
 simp only [Int.toNat_natCast] at wV
 unfold Oper.wp
 simp only [execOp, wA, hex, Sem.run_bind, wV, Result.andThen_ok, Sem.run_pure, Oper.upon_value, hd]
 have p7 := OU lI (uY (Tof T0 X) h σ.ob w)
 have mi := p7.length
 have e1 : zv.cells.toList.length = zv.cells.size := Array.length_toList
 have sv : zr.length = ti.size := by omega
 have hT : ∀ b k v, Tof T0 X b k -> w.cell? ⟨b, k, none⟩ = some v -> (w.alloc (.cells (madeCells zv.cells (n * ti.size)) (ZH P T))).cell? ⟨b, k, none⟩ = some v /\ Tof T0 X b k := by
  intro b k v hb wG
  refine ⟨?_, hb⟩
  rw [World.cell?_of_block ((World.grownBy_alloc w (.cells (madeCells zv.cells (n * ti.size)) (ZH P T)) none).block b (r.Tlt hb) (by simp))]; exact wG
 have tC : (madeCells zv.cells (n * ti.size)).toList.length = n * ti.size := by rw [Array.length_toList, size_madeCells]
 have pT : ∀ q u, (madeCells zv.cells (n * ti.size)).toList[q]? = some u -> zv.cells.toList[q % ti.size]? = some u := by
  intro q u hq
  have wO : q < n * ti.size := by have := (List.getElem?_eq_some_iff.1 hq).1; omega
  have nD : q % ti.size < zv.cells.size := by rw [tu]; exact Nat.mod_lt _ (by omega)
  have : (madeCells zv.cells (n * ti.size)).toList[q]? = some (zv.cells[q % zv.cells.size]!) := by
   simp [madeCells, wO]
  rw [this] at hq
  cases hq
  rw [tu]
  simp [nD]
 have sN : Zg (Rd (Tof T0 X) w) (madeCells zv.cells (n * ti.size)).toList (List.replicate n zr).flatten := by
  refine Zg.KD (by rw [tC, Zo _ ti.size (by intro q hq; rw [List.eq_of_mem_replicate hq]; exact sv)]; simp) (fun q u dd hq uK => ?_)
  have wO : q < n * ti.size := by have := (List.getElem?_eq_some_iff.1 hq).1; omega
  rw [zl zr n q (by rw [sv]; exact wO), sv] at uK
  obtain ⟨d', wP, vU⟩ := p7.get _ _ (pT q u hq)
  rw [uK] at wP; cases wP
  exact vU
 have := r.Hg w7 (World.grownBy_alloc w (.cells (madeCells zv.cells (n * ti.size)) (ZH P T)) none) (.slice (some ⟨w.heap.size, 0, none⟩) n n) (size := P.cellsOf (ZH P T)) (rows := List.replicate n zr)
  ⟨ZH P T, (madeCells zv.cells (n * ti.size)).toList, ⟨by rw [tC, v7]; simp, .inr ⟨w.heap.size, n, _, by simp, Nat.zero_le _, heap_alloc_new w _, by simp, by simp only [maxLen]; omega, by rw [size_madeCells, v7], by rw [List.take_of_length_le (by rw [tC, v7]; simp)]⟩⟩,
   (by intro q hq; rw [List.eq_of_mem_replicate hq]; omega), sN.imp fun _ _ => Rd.mono hT⟩
  (fun b hb => by simp [blk] at hb; subst hb; exact ⟨Nat.le_refl _, by simp⟩)
 rw [List.length_replicate] at this
 exact hK _ _ this.1 this.2
end
end Go.Vm
namespace Go.Vm
open Go.RowKit
def JB (l : List UInt8) : List (List D) := l.map fun b => [D.int .u8 (b.toNat : Int)]
def VX (P : Program) (t : TypeId) : Bool := match P.underlying t with
 | some (.slice e) => (match P.underlying e with | some (.int .u8) => true | _ => false)
 | _ => false
theorem Uz {P : Program} {t : TypeId} (ht : VX P t = true) : ∃ e, P.underlying t = some (.slice e) /\ P.underlying e = some (.int .u8) := by
 unfold VX at ht
 split at ht
 ·rename_i e he
  split at ht
  ·rename_i h2; exact ⟨e, he, h2⟩
  ·cases ht
 ·cases ht
theorem qt (l : List UInt8) : (JB l).flatten = l.map fun b => D.int .u8 (b.toNat : Int) := by
 induction l with
 | nil => rfl
 | cons b l ih => simp only [JB, List.map_cons, List.flatten_cons] at ih ⊢; rw [ih]; rfl
section
variable {P : Program} {T0 : CS} {B : Nat -> Prop} {σ : St} {a : Act} {w w' : World} {X X' : Nat -> Prop} {h : Nat -> Nat -> Hd}
theorem WG (r : Rel T0 B σ a w X h) {o : Oper} {S T : TypeId} {x : Operand} {l : List UInt8} (wA : o.op = .convert S T x) (hg : gOf (look P σ S x) = true) (hS : VX P S = true) (hT : jT P T = true)
  (tQ : yI σ (unc (look P σ S x)) 1 (JB l)) : ∃ val, (execOp a.eval o).run P w = .ok (.value val) w /\ Xe (Tof T0 X) h σ.ob w (.one (.d (.str ⟨l.toArray⟩))) val := by
 obtain ⟨e, hs, he⟩ := Uz hS
 have hv := r.arg (P := P) S x rfl hg
 obtain ⟨_, vN⟩ := Pv r tQ hv
 refine ⟨.string ⟨l.toArray⟩, ?_, .str _⟩
 rcases vN with ⟨hex, tJ⟩ | ⟨ad, c, xs, hex, wG, wD⟩
 ·have hl : l = [] := by cases l with
   | nil => rfl
   | cons b l => simp [JB] at tJ
  subst hl
  have hr : (convert S T (.slice none 0 0)).run P w = .ok (.string ⟨#[]⟩) w := by
   rw [run_convert_bytes_string w S T e none 0 0 hs he (K1 hT)]
   rfl
  simp only [execOp, wA, hex, Sem.run_bind, hr, Result.andThen_ok, Sem.run_pure, List.toArray]
 ·have hlen : (JB l).length = l.length := by simp [JB]
  rw [hlen] at hex
  have hr := run_convert_bytes_back (P := P) w S T e ad c l hs he (K1 hT) (fun j hj => by
   rw [qt] at wD
   obtain ⟨u, hu, hr⟩ := wD.get' j (D.int .u8 (l[j].toNat : Int)) (by simp [hj])
   have := jR hr
   subst this
   exact wG j _ hu)
  simp only [execOp, wA, hex, Sem.run_bind, hr, Result.andThen_ok, Sem.run_pure]
theorem WJ (r : Rel T0 B σ a w X h) {o : Oper} {S T : TypeId} {x : Operand} {d : Nat} {s : ByteArray} (wA : o.op = .convert S T x) (hd : o.dst = some d) (hg : gOf (look P σ S x) = true) (hS : jT P S = true) (hT : VX P T = true)
  (hx : unc (look P σ S x) = .one (.d (.str s))) (vK : s.size <= 9223372036854775807)
  {K : Act -> World -> Prop} {Q : Exit -> Act -> World -> Prop} (hK : ∀ a' w', X6 T0 B (σ.put d (.one (.d (.sl 1 (JB s.data.toList))))) a' w' -> YQ B w w' -> K a' w') : o.wp P a w K Q := by
 obtain ⟨e, uK, he⟩ := Uz hT
 have hex := kP (r.arg (P := P) S x hx hg)
 have wV := run_bytes_of_string (P := P) w S T e s (K1 hS) uK he
 unfold Oper.wp
 simp only [execOp, wA, hex, Sem.run_bind, wV, Result.andThen_ok, Sem.run_pure, Oper.upon_value, hd]
 generalize vj : grownCap w s.size 0 e = cap at *
 have tD : s.size <= cap := by rw [<- vj]; exact grownCap_ge w s.size 0 e
 have uP : cap <= maxLen := by rw [<- vj]; exact grownCap_le_maxLen w s.size 0 e (by simp only [maxLen]; omega)
 generalize hw' : w.drew.alloc (.cells (bytesRow s cap) e ((bytesRow s cap).size, (bytesRow s cap).size + 1)) = w'
 have rm : w.grownBy w' none := by
  rw [<- hw']
  exact ⟨rfl, rfl, rfl, by simp, fun k hk _ => (World.grownBy_alloc w.drew _ none).block k hk (by simp)⟩
 have sK : w'.heap[w.heap.size]? = some (.cells (bytesRow s cap) e ((bytesRow s cap).size, (bytesRow s cap).size + 1)) := by rw [<- hw']; exact heap_alloc_new w.drew _
 have mj : w.heap.size < w'.heap.size := (Array.getElem?_eq_some_iff.1 sK).1
 have r2 := r.grow (X' := fun b => X b \/ b = w.heap.size) rm (fun b hb => .inl hb) (fun b hb => hb.imp id (fun hh => by subst hh; exact ⟨Nat.le_refl _, mj⟩))
 refine hK _ _ ⟨_, _, r2.put d _ _ ?_⟩ (YQ.qj rm r.hB)
 have ve := qt s.data.toList
 refine Rd.sl ⟨w.heap.size, 0, none⟩ s.size cap 1 _ (fun k => .int .u8 ((s.data.toList.getD k 0).toNat : Int)) (by simp [JB]) tD uP (by intro q hq; simp [JB] at hq; obtain ⟨b, _, rfl⟩ := hq; rfl) (fun _ => rfl) (fun k dd hk => ?_) (fun k dd hk => ?_)
 ·rw [ve, List.getElem?_map] at hk
  cases hb : s.data.toList[k]? with
  | none => rw [hb] at hk; cases hk
  | some b =>
   refine ⟨?_, .inr (.inr rfl)⟩
   simp only [Nat.zero_add]
   refine Q6 sK _ _ ?_
   have iZ : k < s.data.size := by have := (List.getElem?_eq_some_iff.1 hb).1; simpa using this
   simp only [bytesRow]
   rw [Array.toList_append, List.getElem?_append_left (by simpa using iZ)]
   simp [hb]
 ·rw [ve, List.getElem?_map] at hk
  cases hb : s.data.toList[k]? with
  | none => rw [hb] at hk; cases hk
  | some b =>
   rw [hb] at hk; cases hk
   rw [List.getD_eq_getElem?_getD, hb]
   exact .int _ _
end
end Go.Vm
namespace Go.Vm
open Go.RowKit
def Z7 : List At -> List (Nat × Nat)
 | [] => []
 | .sref t j _ _ :: xs => (t, j) :: Z7 xs
 | _ :: xs => Z7 xs
def mvD (σ : St) : At -> Option D
 | .d (.sl _ _) => none
 | .d x => some x
 | .nil s => some (.sl s [])
 | .sref t j lo len => (match σ.ob t j with | .arr _ size rows => if lo = 0 /\ len = rows.length then some (.sl size rows) else none | _ => none)
 | _ => none
def Rx (σ : St) : At -> Prop
 | .sref t j _ _ => (match σ.ob t j with | .arr false _ rows => ∀ r ∈ rows, ∀ x ∈ r, x.scalar = true | _ => True)
 | _ => True
def X7 (σ : St) : List At -> Option (List D)
 | [] => some []
 | x :: xs => (match mvD σ x, X7 σ xs with | some d, some ds => some (d :: ds) | _, _ => none)
def XF (σ : St) : List At -> Prop
 | [] => True
 | x :: xs => Rx σ x /\ XF σ xs
def Qb (σ : St) : List (List At) -> Option (List (List D))
 | [] => some []
 | xs :: rest => (match X7 σ xs, Qb σ rest with | some r, some rs => some (r :: rs) | _, _ => none)
def QK (σ : St) : List (List At) -> Prop
 | [] => True
 | x :: xs => XF σ x /\ QK σ xs
theorem TE : ∀ (xs : List At) (i j : Nat) (t u lo len rG tN : Nat), (Z7 xs).Nodup -> xs[i]? = some (.sref t u lo len) -> xs[j]? = some (.sref t u rG tN) -> i = j := by
 intro xs
 induction xs with
 | nil => intro i j t u lo len rG tN _ hi; simp at hi
 | cons x xs ih =>
  intro i j t u lo len rG tN vF hi hj
  have mem : ∀ (k lo len : Nat), xs[k]? = some (At.sref t u lo len) -> (t, u) ∈ Z7 xs := by
   intro k lo len hk
   clear ih vF hi hj
   induction xs generalizing k with
   | nil => simp at hk
   | cons y ys pg =>
    cases k with
    | zero => simp at hk; subst hk; simp [Z7]
    | succ k =>
     have := pg k (by simpa using hk)
     cases y <;> simp [Z7, this]
  have ft : (Z7 xs).Nodup := by
   cases x <;> simp only [Z7] at vF <;> first | exact vF | exact (List.nodup_cons.1 vF).2
  cases i with
  | zero =>
   simp at hi; subst hi
   cases j with
   | zero => rfl
   | succ j =>
    simp only [Z7] at vF
    exact absurd (mem j rG tN (by simpa using hj)) (List.nodup_cons.1 vF).1
  | succ i =>
   cases j with
   | zero =>
    simp at hj; subst hj
    simp only [Z7] at vF
    exact absurd (mem i lo len (by simpa using hi)) (List.nodup_cons.1 vF).1
   | succ j => rw [ih i j t u lo len rG tN ft (by simpa using hi) (by simpa using hj)]
theorem OB : ∀ {xs : List At} {k t j lo len : Nat}, xs[k]? = some (At.sref t j lo len) -> (t, j) ∈ Z7 xs
 | [], k, t, j, lo, len, h => by simp at h
 | x :: xs, 0, t, j, lo, len, h => by simp at h; subst h; simp [Z7]
 | x :: xs, k + 1, t, j, lo, len, h => by
  have := OB (xs := xs) (k := k) (by simpa using h)
  cases x <;> simp [Z7, this]
theorem Ko {σ : St} : ∀ {xs : List At} {ds : List D}, X7 σ xs = some ds -> xs.length = ds.length /\ ∀ (k : Nat) (x : At) (d : D), xs[k]? = some x -> ds[k]? = some d -> mvD σ x = some d
 | [], ds, h => by simp [X7] at h; subst h; exact ⟨rfl, fun k x d hx => by simp at hx⟩
 | x :: xs, ds, h => by
  simp only [X7] at h
  split at h
  ·rename_i d rJ h1 h2
   cases h
   obtain ⟨hl, ih⟩ := Ko h2
   refine ⟨by simp [hl], fun k y e hy he => ?_⟩
   cases k with
   | zero => simp at hy he; subst hy; subst he; exact h1
   | succ k => exact ih k y e (by simpa using hy) (by simpa using he)
  ·cases h
theorem Vg {σ : St} : ∀ {xs ys : List At} {ds es : List D}, X7 σ xs = some ds -> X7 σ ys = some es -> X7 σ (xs ++ ys) = some (ds ++ es)
 | [], ys, ds, es, h1, h2 => by simp [X7] at h1; subst h1; simpa using h2
 | x :: xs, ys, ds, es, h1, h2 => by
  simp only [X7] at h1
  split at h1
  ·rename_i d rJ h3 h4
   cases h1
   simp [X7, h3, Vg h4 h2]
  ·cases h1
theorem KK {σ : St} : ∀ {vY : List (List At)} {rs : List (List D)}, Qb σ vY = some rs -> X7 σ vY.flatten = some rs.flatten /\ vY.length = rs.length /\ ∀ n, (∀ x ∈ vY, x.length = n) -> ∀ r ∈ rs, r.length = n
 | [], rs, h => by simp [Qb] at h; subst h; exact ⟨rfl, rfl, fun n _ r hr => by cases hr⟩
 | xs :: vY, rs, h => by
  simp only [Qb] at h
  split at h
  ·rename_i r nL h1 h2
   cases h
   obtain ⟨i1, i2, i3⟩ := KK h2
   refine ⟨by rw [List.flatten_cons, List.flatten_cons]; exact Vg h1 i1, by simp [i2], fun n hn q hq => ?_⟩
   rcases List.mem_cons.1 hq with rfl | hq
   ·rw [<- (Ko h1).1]; exact hn xs (by simp)
   ·exact i3 n (fun x hx => hn x (by simp [hx])) q hq
  ·cases h
theorem kc {σ : St} : ∀ {xs : List At}, XF σ xs -> ∀ (k : Nat) (x : At), xs[k]? = some x -> Rx σ x
 | [], _, k, x, hx => by simp at hx
 | y :: xs, h, 0, x, hx => by simp at hx; subst hx; exact h.1
 | y :: xs, h, k + 1, x, hx => kc h.2 k x (by simpa using hx)
theorem jy {σ : St} : ∀ {xs ys : List At}, XF σ xs -> XF σ ys -> XF σ (xs ++ ys)
 | [], _, _, h => h
 | _ :: _, _, h1, h2 => ⟨h1.1, jy h1.2 h2⟩
theorem KA {σ : St} : ∀ {vY : List (List At)}, QK σ vY -> XF σ vY.flatten
 | [], _ => trivial
 | xs :: vY, h => by rw [List.flatten_cons]; exact jy h.1 (KA h.2)
section
variable {P : Program} {T0 : CS} {B : Nat -> Prop} {σ : St} {a : Act} {w w' : World} {X X' : Nat -> Prop} {h : Nat -> Nat -> Hd}
theorem Rd.own {T : CS} {v : Value} {d : D} {S : Nat -> Prop} (hs : d.scalar = true) (hr : Rd T w v d) : Own w v d S := by
 cases hr with
 | int k n => exact .int _ _ _
 | bool b => exact .bool _ _
 | str s => exact .str _ _
 | unk v h => exact .unk _ h _
 | nil => cases hs
 | sl => cases hs
theorem Rel.Eo (r : Rel T0 B σ a w X h) {t j : Nat} {q : Bool} {size : Nat} {rows : List (List D)} (ho : σ.ob t j = .arr q size rows) (hq : q = false -> ∀ r ∈ rows, ∀ x ∈ r, x.scalar = true) : Own w (h t j).v (.sl size rows) (h t j).u := by
 have h0 := r.obj t j
 have vS := r.ub t j
 rw [ho] at h0 vS
 cases q with
 | false =>
  obtain ⟨e, xs, uR, hz, wD⟩ := h0
  refine .sl _ size rows _ e xs (fun _ _ => False) uR hz (fun b hb => vS b (by simp) hb) wD.length (fun k x d hx hd => ?_) (fun k b hb => hb.elim) (fun i j b hb => hb.elim)
  obtain ⟨d', wP, hr⟩ := wD.get k x hx
  rw [hd] at wP; cases wP
  obtain ⟨r0, tG, hdr⟩ := List.mem_flatten.1 (List.mem_of_getElem? hd)
  exact Rd.own (hq rfl r0 tG d hdr) hr
 | true =>
  obtain ⟨e, xs, uR, hz, ⟨hl, Sk, h1, h2, h3⟩, hn⟩ := h0
  exact .sl _ size rows _ e xs Sk uR hz (fun b hb => vS b (by simp) hb) hl h1 (fun k b hb => h2 k b hb) h3
def Xd (σ : St) (h : Nat -> Nat -> Hd) (l : List (Nat × Nat)) (b : Nat) : Prop := ∃ p ∈ l, σ.ob p.1 p.2 ≠ .none /\ (h p.1 p.2).u b
theorem kA (r : Rel T0 B σ a w X h) {xs : List At} {vs : List Value} {ds : List D} (wD : Zg (Zm (Tof T0 X) h σ.ob w) xs vs) (uG : X7 σ xs = some ds) (wa : XF σ xs) (vF : (Z7 xs).Nodup) : Xz w vs ds (Xd σ h (Z7 xs)) := by
 obtain ⟨hl, uG⟩ := Ko uG
 refine ⟨by rw [<- wD.length, hl], fun k b => ∃ t j lo len, xs[k]? = some (.sref t j lo len) /\ σ.ob t j ≠ .none /\ (h t j).u b, fun k v d hv hd => ?_, ?_, ?_⟩
 ·obtain ⟨x, hx, hr⟩ := wD.get' k v hv
  have hm := uG k x d hx hd
  have ho := kc wa k x hx
  cases x with
  | d x =>
   cases x with
   | sl s rows => simp [mvD] at hm
   | int k n => simp [mvD] at hm; subst hm; exact Rd.own rfl hr
   | bool b => simp [mvD] at hm; subst hm; exact Rd.own rfl hr
   | str s => simp [mvD] at hm; subst hm; exact Rd.own rfl hr
   | unk => simp [mvD] at hm; subst hm; exact Rd.own rfl hr
  | nil s =>
   simp [mvD] at hm; subst hm
   cases hr
   exact .sl _ s [] _ 0 [] (fun _ _ => False) (World.ownsRow_nil w 0 0 s) (by intro q hq; cases hq) (fun b hb => by cases hb) rfl (fun k x d hx => by simp at hx) (fun k b hb => hb.elim) (fun i j b hb => hb.elim)
  | sref t j lo len =>
   simp only [mvD] at hm
   split at hm
   ·rename_i q size rows wU
    split at hm
    ·rename_i hc
     obtain ⟨rfl, rfl⟩ := hc
     cases hm
     obtain ⟨_, vm, _⟩ := hr.2.1 q size rows wU
     rw [vm rfl rfl]
     refine (r.Eo wU (fun hq => ?_)).mono (fun b hb => ⟨t, j, 0, rows.length, hx, by rw [wU]; simp, hb⟩)
     subst hq
     simp only [Rx, wU] at ho; exact ho
    ·cases hm
   ·cases hm
  | any => simp [mvD] at hm
  | ptr => simp [mvD] at hm
  | bptr => simp [mvD] at hm
  | fn => simp [mvD] at hm
  | rptr => simp [mvD] at hm
  | tref => simp [mvD] at hm
 ·rintro k b ⟨t, j, lo, len, hx, wB, hu⟩
  exact ⟨(t, j), OB hx, wB, hu⟩
 ·rintro i k b ⟨t, j, lo, len, hx, wB, hu⟩ ⟨t', j', rG, tN, tr, wv, uF⟩
  obtain ⟨rfl, rfl⟩ := r.inj t j t' j' b wB wv hu uF
  exact TE xs i k t j lo len rG tN vF hx tr
theorem Xz.append {xs ys : List Value} {ds es : List D} {S S' : Nat -> Prop} (h1 : Xz w xs ds S) (h2 : Xz w ys es S') (hd : ∀ b, S b -> S' b -> False) : Xz w (xs ++ ys) (ds ++ es) (fun b => S b \/ S' b) := by
 obtain ⟨l1, Sk, a1, a2, a3⟩ := h1
 obtain ⟨l2, pX, b1, b2, b3⟩ := h2
 refine ⟨by simp [l1, l2], fun k => if k < xs.length then Sk k else pX (k - xs.length), fun k x d hx wP => ?_, fun k b hb => ?_, fun i j b hi hj => ?_⟩
 ·by_cases hk : k < xs.length
  ·simp only [hk, if_true]
   rw [List.getElem?_append_left hk] at hx
   rw [List.getElem?_append_left (by omega)] at wP
   exact a1 k x d hx wP
  ·simp only [hk, if_false]
   rw [List.getElem?_append_right (by omega)] at hx
   rw [List.getElem?_append_right (by omega), <- l1] at wP
   exact b1 _ x d hx wP
 ·by_cases hk : k < xs.length
  ·simp only [hk, if_true] at hb; exact .inl (a2 k b hb)
  ·simp only [hk, if_false] at hb; exact .inr (b2 _ b hb)
 ·by_cases vc : i < xs.length
  ·simp only [vc, if_true] at hi
   by_cases ue : j < xs.length
   ·simp only [ue, if_true] at hj; exact a3 i j b hi hj
   ·simp only [ue, if_false] at hj; exact (hd b (a2 i b hi) (b2 _ b hj)).elim
  ·simp only [vc, if_false] at hi
   by_cases ue : j < xs.length
   ·simp only [ue, if_true] at hj; exact (hd b (a2 j b hj) (b2 _ b hi)).elim
   ·simp only [ue, if_false] at hj
    have := b3 _ _ b hi hj; omega
theorem Xz.mono {xs : List Value} {ds : List D} {S S' : Nat -> Prop} (hS : ∀ b, S b -> S' b) (h1 : Xz w xs ds S) : Xz w xs ds S' := by
 obtain ⟨l1, Sk, a1, a2, a3⟩ := h1
 exact ⟨l1, Sk, a1, fun k b hb => hS b (a2 k b hb), a3⟩
theorem Xz.nil (S : Nat -> Prop) : Xz w [] [] S := ⟨rfl, fun _ _ => False, fun k x d hx => by simp at hx, fun _ _ hb => hb.elim, fun _ _ _ hb => hb.elim⟩
theorem Rel.JN (r : Rel T0 B σ a w X h) (l : List (Nat × Nat)) (b : Nat) (hb : Xd σ h l b) : ¬ B b /\ ¬ X b /\ b < w.heap.size /\ ∀ u i, (σ.ZX l).ob u i ≠ .none -> ¬ (h u i).u b := by
 obtain ⟨p, hp, wB, hu⟩ := hb
 have ho := r.own p.1 p.2 b wB hu
 refine ⟨ho.1, ho.2.1, ho.2.2, fun u i hn uF => ?_⟩
 rw [St.QU] at hn
 split at hn
 ·exact hn rfl
 ·rename_i pe
  obtain ⟨h1, h2⟩ := r.inj p.1 p.2 u i b wB hn hu uF
  exact pe (by rw [<- h1, <- h2]; exact hp)
end
end Go.Vm
namespace Go.Vm
open Go.RowKit
section
variable {P : Program} {T0 : CS} {B : Nat -> Prop} {σ : St} {a : Act} {w w' : World} {X X' : Nat -> Prop} {h : Nat -> Nat -> Hd}
def Vu (P : Program) (σ : St) (T : TypeId) (size : Nat) : List (Nat × Operand) -> Nat -> List (List At) -> Prop
 | [], _, rs => rs = []
 | (i, x) :: ps, k, rs => i = k /\ gOf (look P σ T x) = true /\ (unc (look P σ T x)).flat = true /\ (unc (look P σ T x)).cells.length = size /\
   ∃ rest, Vu P σ T size ps (k + 1) rest /\ rs = (unc (look P σ T x)).cells :: rest
theorem Nf (r : Rel T0 B σ a w X h) (T : TypeId) (size : Nat) : ∀ (ps : List (Nat × Operand)) (k : Nat) (rs : List (List At)) (cells : Array Value), Vu P σ T size ps k rs -> (k + ps.length) * size <= cells.size ->
   ∃ wH ys, Instr.fill (fun i => some (i * size, size)) cells (ps.map fun x => (x.1, a.eval x.2)) = some wH /\ wH.toList = place cells.toList (k * size) ys /\ Zg (Zm (Tof T0 X) h σ.ob w) rs.flatten ys /\ (∀ q ∈ rs, q.length = size) /\ rs.length = ps.length
 | [], k, rs, cells, hb, _ => by cases hb; exact ⟨cells, [], rfl, by simp [place], .nil, (by intro q hq; cases hq), rfl⟩
 | (i, x) :: ps, k, rs, cells, hb, hl => by
  obtain ⟨rfl, hg, hf, hlen, rest, hb, rfl⟩ := hb
  have hx := yO hf (r.arg (P := P) T x rfl hg)
  have pw := hx.length
  have e1 : cells.toList.length = cells.size := Array.length_toList
  have e2 : (a.eval x).cells.toList.length = (a.eval x).cells.size := Array.length_toList
  have hmul : (i + (ps.length + 1)) * size = i * size + size + ps.length * size := by rw [Nat.add_mul, Nat.add_mul]; omega
  simp only [List.length_cons] at hl
  have heq := jQ (i * size) (a.eval x).cells cells (by omega)
  have ur : ((a.eval x).cells.zipIdx.foldl (fun cs x => cs.setIfInBounds (i * size + x.2) x.1) cells).size = cells.size := by
   rw [<- Array.length_toList, heq, Yw _ _ _ (by omega), e1]
  have mh : (i + 1 + ps.length) * size = i * size + size + ps.length * size := by rw [Nat.add_mul, Nat.add_mul]; omega
  obtain ⟨wH, ys, h1, h2, h3, h4, h5⟩ := Nf r T size ps (i + 1) rest _ hb (by rw [ur]; omega)
  have v9 : ys.length = ps.length * size := by rw [<- h3.length, Zo rest size h4, h5]
  refine ⟨wH, (a.eval x).cells.toList ++ ys, ?_, ?_, ?_, ?_, by simp [h5]⟩
  ·simp only [List.map_cons, Instr.fill]
   rw [if_neg (by simp; omega)]
   exact h1
  ·rw [h2, heq]
   rw [show (i + 1) * size = i * size + (a.eval x).cells.toList.length by rw [Nat.add_mul]; omega]
   exact Uy _ _ _ _ (by simp; omega)
  ·rw [List.flatten_cons]; exact hx.append h3
  ·intro q hq
   rcases List.mem_cons.1 hq with rfl | hq
   ·exact hlen
   ·exact h4 q hq
theorem kE (r : Rel T0 B σ a w X h) {o : Oper} {T : TypeId} {n : Nat} {parts : Array (Nat × Operand)} {d : Nat} {rows : List (List At)} (wA : o.op = .buildSlice T n parts) (hd : o.dst = some d) (w7 : σ.fresh d = true)
  (ht : YS P T = true) (hz : XD P (ZH P T) = true) (vM : 0 < P.cellsOf (ZH P T)) (hn : parts.toList.length = n) (gJ : n * P.cellsOf (ZH P T) <= 16777216) (hb : Vu P σ (ZH P T) (P.cellsOf (ZH P T)) parts.toList 0 rows) (fb : Zs d rows.flatten = false)
  {K : Act -> World -> Prop} {Q : Exit -> Act -> World -> Prop} (hK : ∀ a' w', X6 T0 B (σ.new d (.one (.sref d 0 0 rows.length)) [.lit (P.cellsOf (ZH P T)) rows]) a' w' -> YQ B w w' -> K a' w') : o.wp P a w K Q := by
 obtain ⟨ti, hu, hi, uq⟩ := Yv ht
 obtain ⟨i, z, row, vc, tO, uc, ur, tu, v7, uY⟩ := Jv hz
 rw [hi] at vc; cases vc
 have uj : (zeroValue (ZH P T)).run P w = .ok z w := by simp [zeroValue, typeInfo, hi, tO]
 obtain ⟨zero, hzero⟩ : ∃ zero : Array Value, (n * P.cellsOf (ZH P T) = 0 -> zero = #[]) /\ (¬ n * P.cellsOf (ZH P T) = 0 -> zero = z.cells) := by
  by_cases h0 : n * P.cellsOf (ZH P T) = 0
  ·exact ⟨#[], fun _ => rfl, fun hh => absurd h0 hh⟩
  ·exact ⟨z.cells, fun hh => absurd hh h0, fun _ => rfl⟩
 obtain ⟨wH, ys, h1, h2, h3, h4, h5⟩ := Nf r (ZH P T) (P.cellsOf (ZH P T)) parts.toList 0 rows ((Array.range (n * P.cellsOf (ZH P T))).map (zero[· % zero.size]!)) hb (by simp [hn])
 have v9 : ys.length = n * P.cellsOf (ZH P T) := by rw [<- h3.length, Zo rows _ h4, h5, hn]
 have wg : wH.toList = ys := by
  rw [h2]
  unfold place
  simp [v9]
 have tA : (parts.map fun (x : Nat × Operand) => (x.1, a.eval x.2)).toList = parts.toList.map fun x => (x.1, a.eval x.2) := by simp
 have wV : (execOp a.eval o).run P w = .ok (.value (.slice (some ⟨w.heap.size, 0, none⟩) n n)) (w.alloc (.cells wH (ZH P T))) := by
  have tI : ¬ (n * P.cellsOf (ZH P T) > 2 ^ 24) := by omega
  by_cases h0 : n * P.cellsOf (ZH P T) = 0
  ·have sX := hzero.1 h0
   subst sX
   simp only [execOp, wA, Instr.buildSlice, Sem.run_bind, run_underlying hu, Result.andThen_ok, QO hi, if_neg tI, if_pos h0, tA, h1, newRow, Sem.run_pure, run_newObj_alloc]
  ·have sX := hzero.2 h0
   subst sX
   simp only [execOp, wA, Instr.buildSlice, Sem.run_bind, run_underlying hu, Result.andThen_ok, QO hi, if_neg tI, if_neg h0, uj, tA, h1, newRow, Sem.run_pure, run_newObj_alloc]
 unfold Oper.wp
 rw [wV, Oper.upon_value, hd]
 have hlen : rows.length = n := by rw [h5, hn]
 have hg := World.grownBy_alloc w (.cells wH (ZH P T)) none
 have wO := St.QN w7
 have hT : ∀ b k v, Tof T0 X b k -> w.cell? ⟨b, k, none⟩ = some v -> (w.alloc (.cells wH (ZH P T))).cell? ⟨b, k, none⟩ = some v /\ Tof T0 X b k := by
  intro b k v hb wG
  refine ⟨?_, hb⟩
  rw [World.cell?_of_block (hg.block b (r.Tlt hb) (by simp))]; exact wG
 have pS : wH.size = n * P.cellsOf (ZH P T) := by rw [<- Array.length_toList, wg, v9]
 have uP : n <= maxLen := by
  have : n <= n * P.cellsOf (ZH P T) := Nat.le_mul_of_pos_right _ vM
  simp only [maxLen]; omega
 have wF : (w.alloc (.cells wH (ZH P T))).ownsRow 0 (ZH P T) (P.cellsOf (ZH P T)) (.slice (some ⟨w.heap.size, 0, none⟩) n n) rows.length ys :=
  ⟨by rw [v9, hlen], .inr ⟨w.heap.size, n, wH, by rw [hlen], Nat.zero_le _, heap_alloc_new w _, by omega, uP, pS, by rw [wg, hlen, List.take_of_length_le (by omega)]⟩⟩
 refine hK _ _ ⟨X, fun t j => if t = d then Hd.of (.slice (some ⟨w.heap.size, 0, none⟩) n n) else h t j, ?_⟩ (YQ.qj hg r.hB)
 have w6 : (σ.new d (.one (.sref d 0 0 rows.length)) [.lit (P.cellsOf (ZH P T)) rows]).ob d 0 = .lit (P.cellsOf (ZH P T)) rows := by rw [St.Xm]; simp [wO, Zw]
 have hc : ∀ t j, t ≠ d -> Cpt h (fun t j => if t = d then Hd.of (.slice (some ⟨w.heap.size, 0, none⟩) n n) else h t j) σ.ob (σ.new d (.one (.sref d 0 0 rows.length)) [.lit (P.cellsOf (ZH P T)) rows]).ob t j := by
  intro t j wB
  have he : (σ.new d (.one (.sref d 0 0 rows.length)) [.lit (P.cellsOf (ZH P T)) rows]).ob t j = σ.ob t j := by rw [St.Xm, if_neg (fun hh => wB hh.1)]
  exact Cpt.same (by simp [wB]) he
 refine r.new w7 hg (fun _ hb => hb) (fun _ hb => .inl hb) _ _ [.lit (P.cellsOf (ZH P T)) rows] (fun _ => Hd.of (.slice (some ⟨w.heap.size, 0, none⟩) n n)) ?_ (fun j => ?_) (fun j b _ hb => hb) (fun j b _ wM => ?_) (fun j j' b wB wv _ _ => ?_)
 ·refine ⟨Xj wF, fun q' wW wK wZ => (by rw [w6] at wZ; cases wZ), fun wW wK wZ => ?_⟩
  rw [w6] at wZ; cases wZ
  simp only [if_true]
  exact zS wF
 ·cases j with
  | zero => exact ⟨ZH P T, ys, wF, h4, yx hT hc fb h3⟩
  | succ j => simp [Zw, Xs]
 ·simp [Hd.of, blk] at wM; subst wM
  refine ⟨Nat.le_refl _, fun tr => ?_, by simp⟩
  have := (r.hX _ tr).2; omega
 ·have : ∀ j, Zw [Ob.lit (P.cellsOf (ZH P T)) rows] j ≠ .none -> j = 0 := by
   intro j hj
   cases j with
   | zero => rfl
   | succ j => simp [Zw] at hj
  rw [this j wB, this j' wv]
theorem Ms {T : CS} {ob : Nat -> Nat -> Ob} : ∀ {xs : List At} {ds : List D} {vs : List Value}, zD xs = some ds -> Zg (Zm T h ob w) xs vs -> (∀ x ∈ xs, ∀ s r, x ≠ .d (.sl s r)) -> ∀ (w' : World) (S : Nat -> Prop) (k : Nat) (v : Value) (d : D), vs[k]? = some v -> ds[k]? = some d -> Own w' v d S
 | [], ds, vs, hz, wD, _, w', S, k, v, d, hv, _ => by cases wD; simp at hv
 | x :: xs, ds, vs, hz, wD, sS, w', S, k, v, d, hv, hd => by
  cases wD with
  | cons hx wD =>
   cases x with
   | d x =>
    simp only [zD, Option.map_eq_some_iff] at hz
    obtain ⟨rJ, ui, rfl⟩ := hz
    cases k with
    | zero =>
     simp at hv hd; subst hv; subst hd
     cases x with
     | sl s r => exact absurd rfl (sS _ (by simp) s r)
     | int k n => cases (show Rd _ _ _ _ from hx); exact .int _ _ _
     | bool b => cases (show Rd _ _ _ _ from hx); exact .bool _ _
     | str s => cases (show Rd _ _ _ _ from hx); exact .str _ _
     | unk => exact .unk _ (Rd.Y4 hx) _
    | succ k => exact Ms ui wD (fun x hx => sS x (by simp [hx])) w' S k v d (by simpa using hv) (by simpa using hd)
   | nil s =>
    simp only [zD, Option.map_eq_some_iff] at hz
    obtain ⟨rJ, ui, rfl⟩ := hz
    cases k with
    | zero =>
     simp at hv hd; subst hv; subst hd
     cases hx
     exact .sl _ s [] _ 0 [] (fun _ _ => False) (World.ownsRow_nil w' 0 0 s) (by intro q hq; cases hq) (fun b hb => by cases hb) rfl (fun k x d hx => by simp at hx) (fun k b hb => hb.elim) (fun i j b hb => hb.elim)
    | succ k => exact Ms ui wD (fun x hx => sS x (by simp [hx])) w' S k v d (by simpa using hv) (by simpa using hd)
   | any => simp [zD] at hz
   | sref => simp [zD] at hz
   | ptr => simp [zD] at hz
   | bptr => simp [zD] at hz
   | fn => simp [zD] at hz
   | rptr => simp [zD] at hz
   | tref => simp [zD] at hz
def Ii (σ : St) (x : V) (size : Nat) (wC : List (List D)) (l : List (Nat × Nat)) : Prop :=
 match x with
 | .one (.nil _) => wC = [] /\ l = []
 | .one (.sref t j lo len) => σ.ob t j = .arr true size wC /\ lo = 0 /\ len = wC.length /\ l = [(t, j)]
 | _ => False
def Ip (σ : St) (x : V) (size : Nat) (news : List (List D)) (l : List (Nat × Nat)) : Prop :=
 match x with
 | .one (.sref t j lo len) => ∃ rows, σ.ob t j = .lit size rows /\ lo = 0 /\ len = rows.length /\ Qb σ rows = some news /\ QK σ rows /\ l = Z7 rows.flatten
 | _ => False
theorem Rl (r : Rel T0 B σ a w X h) {o : Oper} {t : TypeId} {x y : Operand} {d : Nat} {wC news : List (List D)} {l1 l2 : List (Nat × Nat)} (wA : o.op = .call ⟨.builtin .append, #[x, y], #[t, t]⟩) (hd : o.dst = some d)
  (tW : gOf (look P σ t x) = true) (tX : gOf (look P σ t y) = true) (ht : YS P t = true) (hz : XD P (ZH P t) = true) (vM : 0 < P.cellsOf (ZH P t))
  (vr : Ii σ (unc (look P σ t x)) (P.cellsOf (ZH P t)) wC l1) (tQ : Ip σ (unc (look P σ t y)) (P.cellsOf (ZH P t)) news l2) (vF : (l1 ++ l2).Nodup) (w7 : (σ.ZX (l1 ++ l2)).fresh d = true)
  (vJ : (wC.length + news.length) * P.bytesOf (ZH P t) <= 140737488355328) (pM : wC.length + news.length <= 9223372036854775807)
  {K : Act -> World -> Prop} {Q : Exit -> Act -> World -> Prop} (hK : ∀ a' w', X6 T0 B ((σ.ZX (l1 ++ l2)).new d (.one (.sref d 0 0 (wC.length + news.length))) [.arr true (P.cellsOf (ZH P t)) (wC ++ news)]) a' w' -> YQ B w w' -> K a' w') : o.wp P a w K Q := by
 obtain ⟨ti, hu, hi, uq⟩ := Yv ht
 obtain ⟨i, z, row, vc, tO, uc, ur, tu, v7, uY⟩ := Jv hz
 rw [hi] at vc; cases vc
 have pN : P.bytesOf (ZH P t) = ti.bytes := by simp [Program.bytesOf, hi]
 rw [pN] at vJ
 rw [<- v7] at vr tQ vM hK
 have sO := r.arg (P := P) t x rfl tW
 have pd := r.arg (P := P) t y rfl tX
 obtain ⟨t2, j2, rows, ff, r7, uG, uU, pw⟩ : ∃ t2 j2 rows, unc (look P σ t y) = .one (.sref t2 j2 0 rows.length) /\ σ.ob t2 j2 = .lit ti.size rows /\ Qb σ rows = some news /\ QK σ rows /\ l2 = Z7 rows.flatten := by
  unfold Ip at tQ
  split at tQ
  ·rename_i t2 j2 lo len heq
   obtain ⟨rows, ho, rfl, rfl, hm, hk, rfl⟩ := tQ
   exact ⟨t2, j2, rows, heq, ho, hm, hk, rfl⟩
  ·exact tQ.elim
 subst pw
 obtain ⟨iS, mY, iT⟩ := KK uG
 have mm := KA uU
 rw [ff] at pd
 have h0 := r.obj t2 j2
 rw [r7] at h0
 obtain ⟨e2, ys, w5, o7, sN⟩ := h0
 obtain ⟨_, o8, _⟩ := pd.2.2 _ _ r7
 have mn : a.eval y = (h t2 j2).v := o8 rfl rfl
 have o6 : ∀ q ∈ news, q.length = ti.size := iT _ o7
 have uM := kA r sN iS mm (List.nodup_append.1 vF).2.1
 have vy : ∃ e0 xs, w.ownsRow 0 e0 ti.size (a.eval x) wC.length xs /\ (∀ q ∈ wC, q.length = ti.size) /\ Xz w xs wC.flatten (fun b => Xd σ h l1 b /\ blk (a.eval x) ≠ some b) /\ (∀ b, blk (a.eval x) = some b -> Xd σ h l1 b) := by
  unfold Ii at vr
  split at vr
  ·rename_i s heq
   obtain ⟨rfl, rfl⟩ := vr
   rw [heq] at sO
   have he : a.eval x = .slice none 0 0 := sO
   rw [he]
   exact ⟨0, [], World.ownsRow_nil w 0 0 _, (by intro q hq; cases hq), Xz.nil _, (fun b hb => by cases hb)⟩
  ·rename_i u j lo len heq
   obtain ⟨ho, rfl, rfl, rfl⟩ := vr
   rw [heq] at sO
   have sP : Zm (Tof T0 X) h σ.ob w (.sref u j 0 wC.length) (a.eval x) := sO
   obtain ⟨_, vm, _⟩ := sP.2.1 _ _ _ ho
   have he : a.eval x = (h u j).v := vm rfl rfl
   have h0 := r.obj u j
   rw [ho] at h0
   obtain ⟨e, xs, wF, vi, wD, hn⟩ := h0
   have wU : σ.ob u j ≠ .none := by rw [ho]; simp
   rw [he]
   exact ⟨e, xs, wF, vi, wD.mono (fun b hb => ⟨⟨(u, j), by simp, wU, hb.1⟩, hb.2⟩), fun b hb => ⟨(u, j), by simp, wU, r.ub u j b wU hb⟩⟩
  ·exact vr.elim
 obtain ⟨e0, xs, wF, mX, pP, vu⟩ := vy
 have su : ∀ q ∈ wC ++ news, q.length = ti.size := by
  intro q hq
  rcases List.mem_append.1 hq with hq | hq
  ·exact mX q hq
  ·exact o6 q hq
 have v9 : ys.length = news.length * ti.size := by rw [uM.1, Zo news ti.size o6]
 have uI : ∀ b, Xd σ h l1 b -> Xd σ h (Z7 rows.flatten) b -> False := by
  rintro b ⟨p, hp, wB, hu⟩ ⟨p', rf, wv, uF⟩
  obtain ⟨e1, e2⟩ := r.inj p.1 p.2 p'.1 p'.2 b wB wv hu uF
  have uf : p = p' := Prod.ext e1 e2
  subst uf
  exact (List.nodup_append.1 vF).2.2 p hp p rf rfl
 have tR : ∀ b, Xd σ h (l1 ++ Z7 rows.flatten) b ↔ Xd σ h l1 b \/ Xd σ h (Z7 rows.flatten) b := by
  intro b
  constructor
  ·rintro ⟨p, hp, hr⟩
   rcases List.mem_append.1 hp with hp | hp
   ·exact .inl ⟨p, hp, hr⟩
   ·exact .inr ⟨p, hp, hr⟩
  ·rintro (⟨p, hp, hr⟩ | ⟨p, hp, hr⟩)
   ·exact ⟨p, by simp [hp], hr⟩
   ·exact ⟨p, by simp [hp], hr⟩
 have r1 := r.ZX (l1 ++ Z7 rows.flatten)
 have wX := r.JN (l1 ++ Z7 rows.flatten)
 have wO := St.QN w7
 have key : ∀ (v' : Value) (w' : World) (e1 : TypeId), (Builtin.append_ #[t, t] o.type #[a.eval x, a.eval y]).run P w = .ok v' w' -> w'.ownsRow 0 e1 ti.size v' (wC.length + news.length) (xs ++ ys) ->
   w.grownBy w' (blk (a.eval x)) -> (∀ b, blk v' = some b -> (w.heap.size <= b /\ b < w'.heap.size) \/ blk (a.eval x) = some b) -> o.wp P a w K Q := by
  intro v' w' e1 wV wZ vT tx
  unfold Oper.wp
  have tB : (execOp a.eval o).run P w = .ok (.value v') w' := by
   simp only [execOp, wA, resolve, invoke, builtin, Sem.run_bind, Sem.run_pure, Result.andThen_ok, List.map_toArray, List.map_cons, List.map_nil, wV]
  rw [tB, Oper.upon_value, hd]
  refine hK _ _ ⟨X, fun u j => if u = d then ⟨v', fun k => ((xs ++ ys)[k]?).getD undef, fun b => blk v' = some b \/ (Xd σ h (l1 ++ Z7 rows.flatten) b /\ blk (a.eval x) ≠ some b)⟩ else h u j, ?_⟩
   ⟨vT.os, vT.tape, vT.output, vT.size, fun k hk => vT.block k (r.hB k hk) (fun e => (wX k ((tR k).2 (.inl (vu k e.symm)))).1 hk)⟩
  have w6 : ((σ.ZX (l1 ++ Z7 rows.flatten)).new d (.one (.sref d 0 0 (wC.length + news.length))) [.arr true ti.size (wC ++ news)]).ob d 0 = .arr true ti.size (wC ++ news) := by rw [St.Xm]; simp [wO, Zw]
  have w5 : w'.ownsRow 0 e1 ti.size v' (wC ++ news).length (xs ++ ys) := by rw [List.length_append]; exact wZ
  have wN : ∀ b, blk (a.eval x) ≠ some b -> b < w.heap.size -> w'.heap[b]? = w.heap[b]? := fun b hb hl => vT.block b hl (fun e => hb e.symm)
  have mo : Xz w' (xs ++ ys) (wC ++ news).flatten (fun b => (blk v' = some b \/ (Xd σ h (l1 ++ Z7 rows.flatten) b /\ blk (a.eval x) ≠ some b)) /\ blk v' ≠ some b) := by
   rw [List.flatten_append]
   have h1 : Xz w' xs wC.flatten (fun b => Xd σ h l1 b /\ blk (a.eval x) ≠ some b) := pP.jn (fun b hb => wN b hb.2 (wX b ((tR b).2 (.inl hb.1))).2.2.1)
   have sa : ∀ b, Xd σ h (Z7 rows.flatten) b -> blk (a.eval x) ≠ some b := fun b hb e => uI b (vu b e) hb
   have h2 : Xz w' ys news.flatten (Xd σ h (Z7 rows.flatten)) := uM.jn (fun b hb => wN b (sa b hb) (wX b ((tR b).2 (.inr hb))).2.2.1)
   refine (h1.append h2 (fun b vP wk => uI b vP.1 wk)).mono (fun b hb => ?_)
   have hg : Xd σ h (l1 ++ Z7 rows.flatten) b /\ blk (a.eval x) ≠ some b := by
    rcases hb with hb | hb
    ·exact ⟨(tR b).2 (.inl hb.1), hb.2⟩
    ·exact ⟨(tR b).2 (.inr hb), sa b hb⟩
   refine ⟨.inr hg, fun e => ?_⟩
   rcases tx b e with hl | hl
   ·have := (wX b hg.1).2.2.1; omega
   ·exact hg.2 hl
  refine r1.OT w7 (Xd σ h (l1 ++ Z7 rows.flatten)) vT.size (fun k hk wB => vT.block k hk (fun e => wB ((tR k).2 (.inl (vu k e.symm))))) (fun b hb => ⟨(wX b hb).1, (wX b hb).2.1, fun u j _ wB => (wX b hb).2.2.2 u j wB⟩) (fun _ hb => hb) (fun _ hb => .inl hb) _ _ [.arr true ti.size (wC ++ news)]
   (fun _ => ⟨v', fun k => ((xs ++ ys)[k]?).getD undef, fun b => blk v' = some b \/ (Xd σ h (l1 ++ Z7 rows.flatten) b /\ blk (a.eval x) ≠ some b)⟩) ?_ (fun j => ?_) (fun j b _ hb => .inl hb) (fun j b wB wM => ?_) (fun j j' b wB wv _ _ => ?_)
  ·refine ⟨Xj wZ, fun q' wW wK hh => ?_, fun wW wK hh => by rw [w6] at hh; cases hh⟩
   rw [w6] at hh; cases hh
   simp only [if_true, List.length_append]
   have := zS w5
   rwa [List.length_append] at this
  ·cases j with
   | zero => exact ⟨e1, xs ++ ys, w5, su, mo, fun k x d hx _ _ => by simp [hx]⟩
   | succ j => simp [Zw, Xs]
  ·rcases wM with wM | wM
   ·rcases tx b wM with h1 | h1
    ·exact ⟨.inl h1.1, fun hx => by have := (r.hX b hx).2; omega, h1.2⟩
    ·have h3 := (tR b).2 (.inl (vu b h1))
     have h2 := wX b h3
     exact ⟨.inr h3, h2.2.1, by have := vT.size; omega⟩
   ·have h2 := wX b wM.1
    exact ⟨.inr wM.1, h2.2.1, by have := vT.size; omega⟩
  ·have : ∀ j, Zw [Ob.arr true ti.size (wC ++ news)] j ≠ .none -> j = 0 := by
    intro j hj
    cases j with
    | zero => rfl
    | succ j => simp [Zw] at hj
   rw [this j wB, this j' wv]
 rcases w5.2 with ⟨nA, lF⟩ | ⟨g2, mf, fh, vG, _, ux, fj, fk, fp, iV⟩
 ·have wY : rows = [] := List.eq_nil_of_length_eq_zero lF
  have vZ : news = [] := List.eq_nil_of_length_eq_zero (by rw [<- mY, lF])
  have nE : ys = [] := List.eq_nil_of_length_eq_zero (by rw [v9, vZ]; simp)
  have wc : ∃ base cap, a.eval x = .slice base wC.length cap /\ wC.length <= cap /\ (base = none -> cap = 0) := by
   rcases wF.2 with ⟨h1, h2⟩ | ⟨g, cap, cur, h1, _, _, vz, _⟩
   ·exact ⟨none, 0, by rw [h1, h2], by omega, fun _ => rfl⟩
   ·exact ⟨_, cap, h1, vz, (fun hh => by cases hh)⟩
  obtain ⟨base, cap, hex, vz, pv⟩ := wc
  refine key (a.eval x) w e0 ?_ (by rw [nE, vZ]; simpa using wF) ⟨rfl, rfl, rfl, Nat.le_refl _, fun _ _ _ => rfl⟩ (fun b hb => .inr hb)
  rw [mn, nA]
  rw [hex]
  exact Jp t o.type _ ti hu hi base wC.length cap vz pv
 ·have pR : a.eval y = .slice (some ⟨g2, 0, none⟩) news.length mf := by rw [mn, vG, mY]
  have wG : ∀ j u, ys[j]? = some u -> w.cell? ((⟨g2, 0, none⟩ : Addr).add j) = some u := by
   intro j u uF
   rw [KI]
   refine Q6 ux _ _ ?_
   rw [<- iV, List.getElem?_take] at uF
   split at uF
   ·simpa using uF
   ·cases uF
  obtain ⟨v', w', e1, wV, wZ, vT, tx⟩ := za (P := P) (w := w) t o.type _ e0 ti z hu hi tO tu (by omega) (a.eval x) wC.length xs wF ⟨g2, 0, none⟩ news.length mf ys v9 wG
   (fun u uF => by
    obtain ⟨x', _, tr⟩ := sN.mem uF
    exact Zm.Y4 tr) (by simp only [maxLen]; omega) vJ
  refine key v' w' e1 ?_ wZ vT tx
  rw [pR]; exact wV
theorem Xz.pick {xs : List Value} {ds : List D} {S : Nat -> Prop} (h1 : Xz w xs ds S) {p q n : Nat} (hp : p <= q) (hq : q + n <= xs.length) : Xz w (xs.take p ++ cut xs q n) (ds.take p ++ cut ds q n) S := by
 obtain ⟨hl, Sk, hk, hs, hd⟩ := h1
 have si : (xs.take p).length = p := by rw [List.length_take]; omega
 have rX : (ds.take p).length = p := by rw [List.length_take]; omega
 refine ⟨by rw [List.length_append, List.length_append, si, rX, YK _ _ _ hq, YK _ _ _ (by omega)], fun k => if k < p then Sk k else Sk (q + (k - p)), fun k x d hx wP => ?_, fun k b hb => ?_, fun i j b hi hj => ?_⟩
 ·by_cases mu : k < p
  ·rw [List.getElem?_append_left (by omega)] at hx wP
   rw [List.getElem?_take, if_pos mu] at hx wP
   simp only [if_pos mu]
   exact hk k x d hx wP
  ·rw [List.getElem?_append_right (by omega), si] at hx
   rw [List.getElem?_append_right (by omega), rX] at wP
   simp only [if_neg mu]
   exact hk _ x d (JD _ _ _ _ _ hx) (JD _ _ _ _ _ wP)
 ·dsimp only at hb
  split at hb <;> exact hs _ b hb
 ·dsimp only at hi hj
  split at hi <;> split at hj
  ·exact hd _ _ b hi hj
  ·have := hd _ _ b hi hj; omega
  ·have := hd _ _ b hi hj; omega
  ·have := hd _ _ b hi hj; omega
theorem kR (rows : List (List D)) (size : Nat) (hz : ∀ r ∈ rows, r.length = size) (lo n : Nat) (hle : lo + n <= rows.length) : (cut rows lo n).flatten = cut rows.flatten (lo * size) (n * size) := by
 have fu : ∀ r ∈ rows.drop lo, r.length = size := fun r hr => hz r (List.mem_of_mem_drop hr)
 have e1 : (rows.drop lo).flatten = rows.flatten.drop (lo * size) := by
  have h1 := Qc rows size hz lo (by omega)
  have h2 : (rows.take lo).flatten ++ (rows.drop lo).flatten = rows.flatten := by rw [<- List.flatten_append, List.take_append_drop]
  have h3 : (rows.take lo).flatten.length = lo * size := by rw [Zo _ size (fun r hr => hz r (List.mem_of_mem_take hr)), List.length_take]; congr 1; omega
  rw [<- h2, <- h3, List.drop_left]
 unfold cut
 rw [Qc (rows.drop lo) size fu n (by rw [List.length_drop]; omega), e1]
theorem Rk (r : Rel T0 B σ a w X h) {o : Oper} {t : TypeId} {x y : Operand} {d u j len lo n : Nat} {rows : List (List D)} (wA : o.op = .call ⟨.builtin .append, #[x, y], #[t, t]⟩) (hd : o.dst = some d)
  (tW : gOf (look P σ t x) = true) (tX : gOf (look P σ t y) = true) (ht : YS P t = true) (hz : XD P (ZH P t) = true) (vM : 0 < P.cellsOf (ZH P t))
  (hx : unc (look P σ t x) = .one (.sref u j 0 len)) (hy : unc (look P σ t y) = .one (.sref u j lo n)) (ho : σ.ob u j = .arr true (P.cellsOf (ZH P t)) rows) (hle : len <= lo) (te : lo + n <= rows.length) (w7 : (σ.ZX [(u, j)]).fresh d = true)
  (vJ : (len + n) * P.bytesOf (ZH P t) <= 140737488355328) (pM : len + n <= 9223372036854775807)
  {K : Act -> World -> Prop} {Q : Exit -> Act -> World -> Prop} (hK : ∀ a' w', X6 T0 B ((σ.ZX [(u, j)]).new d (.one (.sref d 0 0 (len + n))) [.arr true (P.cellsOf (ZH P t)) (rows.take len ++ cut rows lo n)]) a' w' -> YQ B w w' -> K a' w') : o.wp P a w K Q := by
 obtain ⟨ti, hu, hi, uq⟩ := Yv ht
 obtain ⟨i, z, row, vc, tO, uc, ur, tu, v7, uY⟩ := Jv hz
 rw [hi] at vc; cases vc
 have pN : P.bytesOf (ZH P t) = ti.bytes := by simp [Program.bytesOf, hi]
 rw [pN] at vJ
 rw [<- v7] at ho vM hK
 have sO := r.arg (P := P) t x rfl tW
 have pd := r.arg (P := P) t y rfl tX
 rw [hx] at sO
 rw [hy] at pd
 have sP : Zm (Tof T0 X) h σ.ob w (.sref u j 0 len) (a.eval x) := sO
 have nF : Zm (Tof T0 X) h σ.ob w (.sref u j lo n) (a.eval y) := pd
 obtain ⟨_, _, uA, _⟩ := sP.2.1 _ _ _ ho
 have he : a.eval x = VU (h u j).v len := uA rfl
 obtain ⟨_, _, _, base, cap, pR, vj, pb, s4, hb⟩ := nF.2.1 _ _ _ ho
 have h0 := r.obj u j
 rw [ho] at h0
 obtain ⟨e0, zs, tc, vi, wD, hn⟩ := h0
 have wU : σ.ob u j ≠ .none := by rw [ho]; simp
 have mi : zs.length = rows.length * ti.size := tc.1
 have ia : len * ti.size <= lo * ti.size := Nat.mul_le_mul_right _ hle
 have nG : lo * ti.size + n * ti.size <= zs.length := by rw [mi, <- Nat.add_mul]; exact Nat.mul_le_mul_right _ te
 let xs := zs.take (len * ti.size)
 let ys := cut zs (lo * ti.size) (n * ti.size)
 have wF : w.ownsRow 0 e0 ti.size (a.eval x) len xs := by rw [he]; exact zP tc (by omega)
 have v9 : ys.length = n * ti.size := YK _ _ _ nG
 have mq : blk (a.eval x) = blk (h u j).v := by rw [he, y7]
 have vd : (rows.take len ++ cut rows lo n).flatten = rows.flatten.take (len * ti.size) ++ cut rows.flatten (lo * ti.size) (n * ti.size) := by
  rw [List.flatten_append, Qc rows ti.size vi len (by omega), kR rows ti.size vi lo n te]
 have su : ∀ q ∈ rows.take len ++ cut rows lo n, q.length = ti.size := by
  intro q hq
  rcases List.mem_append.1 hq with hq | hq
  ·exact vi q (List.mem_of_mem_take hq)
  ·exact vi q (List.mem_of_mem_drop (List.mem_of_mem_take hq))
 have hlen : (rows.take len ++ cut rows lo n).length = len + n := by rw [List.length_append, List.length_take, YK _ _ _ te]; omega
 have p9 : ∀ b, (h u j).u b -> Xd σ h [(u, j)] b := fun b hb => ⟨(u, j), by simp, wU, hb⟩
 have vu : ∀ b, blk (a.eval x) = some b -> Xd σ h [(u, j)] b := fun b hb => p9 b (r.ub u j b wU (by rw [<- mq]; exact hb))
 have r1 := r.ZX [(u, j)]
 have wX := r.JN [(u, j)]
 have wO := St.QN w7
 have key : ∀ (v' : Value) (w' : World) (e1 : TypeId), (Builtin.append_ #[t, t] o.type #[a.eval x, a.eval y]).run P w = .ok v' w' -> w'.ownsRow 0 e1 ti.size v' (len + n) (xs ++ ys) ->
   w.grownBy w' (blk (a.eval x)) -> (∀ b, blk v' = some b -> (w.heap.size <= b /\ b < w'.heap.size) \/ blk (a.eval x) = some b) -> o.wp P a w K Q := by
  intro v' w' e1 wV wZ vT tx
  unfold Oper.wp
  have tB : (execOp a.eval o).run P w = .ok (.value v') w' := by
   simp only [execOp, wA, resolve, invoke, builtin, Sem.run_bind, Sem.run_pure, Result.andThen_ok, List.map_toArray, List.map_cons, List.map_nil, wV]
  rw [tB, Oper.upon_value, hd]
  refine hK _ _ ⟨X, fun u' j' => if u' = d then ⟨v', fun k => ((xs ++ ys)[k]?).getD undef, fun b => blk v' = some b \/ (Xd σ h [(u, j)] b /\ blk (a.eval x) ≠ some b)⟩ else h u' j', ?_⟩
   ⟨vT.os, vT.tape, vT.output, vT.size, fun k hk => vT.block k (r.hB k hk) (fun e => (wX k (vu k e.symm)).1 hk)⟩
  have w6 : ((σ.ZX [(u, j)]).new d (.one (.sref d 0 0 (len + n))) [.arr true ti.size (rows.take len ++ cut rows lo n)]).ob d 0 = .arr true ti.size (rows.take len ++ cut rows lo n) := by rw [St.Xm]; simp [wO, Zw]
  have w5 : w'.ownsRow 0 e1 ti.size v' (rows.take len ++ cut rows lo n).length (xs ++ ys) := by rw [hlen]; exact wZ
  have wN : ∀ b, blk (a.eval x) ≠ some b -> b < w.heap.size -> w'.heap[b]? = w.heap[b]? := fun b hb hl => vT.block b hl (fun e => hb e.symm)
  have mo : Xz w' (xs ++ ys) (rows.take len ++ cut rows lo n).flatten (fun b => (blk v' = some b \/ (Xd σ h [(u, j)] b /\ blk (a.eval x) ≠ some b)) /\ blk v' ≠ some b) := by
   rw [vd]
   have h1 : Xz w (xs ++ ys) (rows.flatten.take (len * ti.size) ++ cut rows.flatten (lo * ti.size) (n * ti.size)) (fun b => Xd σ h [(u, j)] b /\ blk (a.eval x) ≠ some b) :=
    (wD.pick ia nG).mono (fun b hb => ⟨p9 b hb.1, by rw [mq]; exact hb.2⟩)
   refine (h1.jn (fun b hb => wN b hb.2 (wX b hb.1).2.2.1)).mono (fun b hb => ⟨.inr hb, fun e => ?_⟩)
   rcases tx b e with hl | hl
   ·have := (wX b hb.1).2.2.1; omega
   ·exact hb.2 hl
  refine r1.OT w7 (Xd σ h [(u, j)]) vT.size (fun k hk wB => vT.block k hk (fun e => wB (vu k e.symm))) (fun b hb => ⟨(wX b hb).1, (wX b hb).2.1, fun u' j' _ wB => (wX b hb).2.2.2 u' j' wB⟩) (fun _ hb => hb) (fun _ hb => .inl hb) _ _ [.arr true ti.size (rows.take len ++ cut rows lo n)]
   (fun _ => ⟨v', fun k => ((xs ++ ys)[k]?).getD undef, fun b => blk v' = some b \/ (Xd σ h [(u, j)] b /\ blk (a.eval x) ≠ some b)⟩) ?_ (fun j' => ?_) (fun j' b _ hb => .inl hb) (fun j' b wB wM => ?_) (fun j1 j2 b wB wv _ _ => ?_)
  ·refine ⟨Xj wZ, fun q' wW wK hh => ?_, fun wW wK hh => by rw [w6] at hh; cases hh⟩
   rw [w6] at hh; cases hh
   simp only [if_true]
   have := zS w5
   rw [hlen] at this ⊢
   exact this
  ·cases j' with
   | zero => exact ⟨e1, xs ++ ys, w5, su, mo, fun k x d hx _ _ => by simp [hx]⟩
   | succ j' => simp [Zw, Xs]
  ·rcases wM with wM | wM
   ·rcases tx b wM with h1 | h1
    ·exact ⟨.inl h1.1, fun hx => by have := (r.hX b hx).2; omega, h1.2⟩
    ·have h3 := vu b h1
     have h2 := wX b h3
     exact ⟨.inr h3, h2.2.1, by have := vT.size; omega⟩
   ·have h2 := wX b wM.1
    exact ⟨.inr wM.1, h2.2.1, by have := vT.size; omega⟩
  ·have : ∀ j, Zw [Ob.arr true ti.size (rows.take len ++ cut rows lo n)] j ≠ .none -> j = 0 := by
    intro j hj
    cases j with
    | zero => rfl
    | succ j => simp [Zw] at hj
   rw [this j1 wB, this j2 wv]
 cases base with
 | none =>
  have nT := s4 rfl
  subst nT
  have ib : n = 0 := by omega
  subst ib
  have nE : ys = [] := List.eq_nil_of_length_eq_zero (by rw [v9]; simp)
  have wc : ∃ base cap, a.eval x = .slice base len cap /\ len <= cap /\ (base = none -> cap = 0) := by
   rcases wF.2 with ⟨h1, h2⟩ | ⟨g, cap, cur, h1, _, _, vz, _⟩
   ·exact ⟨none, 0, by rw [h1, h2], by omega, fun _ => rfl⟩
   ·exact ⟨_, cap, h1, vz, (fun hh => by cases hh)⟩
  obtain ⟨base, cap, hex, vz, pv⟩ := wc
  refine key (a.eval x) w e0 ?_ (by rw [nE]; simpa using wF) ⟨rfl, rfl, rfl, Nat.le_refl _, fun _ _ _ => rfl⟩ (fun b hb => .inr hb)
  rw [pR, hex]
  exact Jp t o.type _ ti hu hi base len cap vz pv
 | some ad =>
  have wG : ∀ k v, ys[k]? = some v -> w.cell? (ad.add k) = some v := by
   intro k v hv
   have uH : 0 < n := by
    rcases Nat.eq_zero_or_pos n with h0 | h0
    ·have hk := (List.getElem?_eq_some_iff.1 hv).1
     rw [v9, h0] at hk
     simp at hk
    ·exact h0
   obtain ⟨b, tP, hh, u9⟩ := hb uH
   cases u9
   rcases tc.2 with ⟨nA, _⟩ | ⟨g, rZ, cur, uo, _, ov, vz, uP, uO, ug⟩
   ·rw [hh] at nA; cases nA
   ·rw [hh] at uo; cases uo
    have h1 := JD _ _ _ _ _ hv
    rw [KI]
    refine Q6 ov _ _ ?_
    rw [<- ug, List.getElem?_take] at h1
    split at h1
    ·exact h1
    ·cases h1
  have iU : ∀ v ∈ ys, v.oneCell' = true := by
   intro v hv
   have vG : v ∈ zs := List.mem_of_mem_drop (List.mem_of_mem_take hv)
   obtain ⟨hl, Sk, hk, _⟩ := wD
   obtain ⟨k, vt⟩ := List.mem_iff_getElem?.1 vG
   have se : k < rows.flatten.length := by rw [<- hl]; exact (List.getElem?_eq_some_iff.1 vt).1
   exact (hk k v _ vt (List.getElem?_eq_getElem se)).Y4
  obtain ⟨v', w', e1, wV, wZ, vT, tx⟩ := za (P := P) (w := w) t o.type _ e0 ti z hu hi tO tu (by omega) (a.eval x) len xs wF ad n cap ys v9 wG iU (by simp only [maxLen]; omega) vJ
  refine key v' w' e1 ?_ wZ vT tx
  rw [pR]; exact wV
end
end Go.Vm
namespace Go.Vm
open Go.RowKit
def Ps : List At -> Bool
 | [] => true
 | .d (.sl _ _) :: _ => false
 | _ :: xs => Ps xs
theorem Na : ∀ {xs : List At}, Ps xs = true -> ∀ x ∈ xs, ∀ s r, x ≠ .d (.sl s r)
 | [], _, x, hx, _, _ => by cases hx
 | y :: xs, h, x, hx, s, r => by
  have h2 : Ps xs = true /\ ∀ s r, y ≠ .d (.sl s r) := by
   cases y with
   | d z => cases z with
    | sl s r => cases h
    | _ => exact ⟨h, fun s r e => by cases e⟩
   | _ => exact ⟨h, fun s r e => by cases e⟩
  rcases List.mem_cons.1 hx with rfl | hx
  ·exact h2.2 s r
  ·exact Na h2.1 x hx s r
section
variable {P : Program} {T0 : CS} {B : Nat -> Prop} {σ : St} {a : Act} {w w' : World} {X X' : Nat -> Prop} {h : Nat -> Nat -> Hd}
theorem RU (r : Rel T0 B σ a w X h) {o : Oper} {T : TypeId} {x : Operand} {d : Nat} {k : IntKind} {n : Nat} {z : List At} {zr : List D} (wA : o.op = .makeSlice T x x) (hd : o.dst = some d) (w7 : σ.fresh d = true)
  (ht : YS P T = true) (hz : XD P (ZH P T) = true) (uc : yM P 12 (ZH P T) = some z) (lI : zD z = some zr) (fc : Ps z = true) (vM : 0 < P.cellsOf (ZH P T)) (hx : y8 P σ x k (n : Int)) (pN : P.bytesOf (ZH P T) * n <= 281474976710656) (pM : n <= 9223372036854775807)
  {K : Act -> World -> Prop} {Q : Exit -> Act -> World -> Prop} (hK : ∀ a' w', X6 T0 B (σ.new d (.one (.sref d 0 0 n)) [.arr true (P.cellsOf (ZH P T)) (List.replicate n zr)]) a' w' -> YQ B w w' -> K a' w') : o.wp P a w K Q := by
 obtain ⟨ti, hu, hi, uq⟩ := Yv ht
 obtain ⟨i, zv, row, vc, tO, pQ, ur, tu, v7, uY⟩ := Jv hz
 rw [hi] at vc; cases vc
 rw [uc] at pQ; cases pQ
 have hex := KJ r hx
 have nC : (ti.bytes : Int) * (n : Int) <= 281474976710656 := by
  have : P.bytesOf (ZH P T) = ti.bytes := by simp [Program.bytesOf, hi]
  rw [this] at pN
  have h : ((ti.bytes * n : Nat) : Int) <= 281474976710656 := by omega
  rwa [Int.natCast_mul] at h
 have wV := run_make (P := P) w T (ZH P T) ti zv hu hi tO k k n n (by omega) (Int.le_refl _) nC (by omega)
 simp only [Int.toNat_natCast] at wV
 unfold Oper.wp
 simp only [execOp, wA, hex, Sem.run_bind, wV, Result.andThen_ok, Sem.run_pure, Oper.upon_value, hd]
 have p7 := OU lI (uY (Tof T0 X) h σ.ob w)
 have mi := p7.length
 have e1 : zv.cells.toList.length = zv.cells.size := Array.length_toList
 have sv : zr.length = ti.size := by omega
 have tC : (madeCells zv.cells (n * ti.size)).toList.length = n * ti.size := by rw [Array.length_toList, size_madeCells]
 have pT : ∀ q u, (madeCells zv.cells (n * ti.size)).toList[q]? = some u -> zv.cells.toList[q % ti.size]? = some u := by
  intro q u hq
  have wO : q < n * ti.size := by have := (List.getElem?_eq_some_iff.1 hq).1; omega
  have nD : q % ti.size < zv.cells.size := by rw [tu]; exact Nat.mod_lt _ (by omega)
  have : (madeCells zv.cells (n * ti.size)).toList[q]? = some (zv.cells[q % zv.cells.size]!) := by
   simp [madeCells, wO]
  rw [this] at hq
  cases hq
  rw [tu]
  simp [nD]
 have sN : Xz (w.alloc (.cells (madeCells zv.cells (n * ti.size)) (ZH P T))) (madeCells zv.cells (n * ti.size)).toList (List.replicate n zr).flatten (fun _ => False) := by
  refine ⟨by rw [tC, Zo _ ti.size (by intro q hq; rw [List.eq_of_mem_replicate hq]; exact sv)]; simp, fun _ _ => False, fun q u dd hq uK => ?_, fun _ _ hb => hb, fun _ _ _ hb => hb.elim⟩
  have wO : q < n * ti.size := by have := (List.getElem?_eq_some_iff.1 hq).1; omega
  rw [zl zr n q (by rw [sv]; exact wO), sv] at uK
  exact Ms lI (uY (Tof T0 X) h σ.ob w) (Na fc) _ _ _ u dd (pT q u hq) uK
 have := r.G4 w7 (World.grownBy_alloc w (.cells (madeCells zv.cells (n * ti.size)) (ZH P T)) none) (.slice (some ⟨w.heap.size, 0, none⟩) n n) (e := ZH P T) (size := P.cellsOf (ZH P T)) (rows := List.replicate n zr) (xs := (madeCells zv.cells (n * ti.size)).toList)
  ⟨by rw [tC, v7]; simp, .inr ⟨w.heap.size, n, _, by simp, Nat.zero_le _, heap_alloc_new w _, by simp, by simp only [maxLen]; omega, by rw [size_madeCells, v7], by rw [List.take_of_length_le (by rw [tC, v7]; simp)]⟩⟩
  (by intro q hq; rw [List.eq_of_mem_replicate hq]; omega) sN
  (fun b hb => by simp [blk] at hb; subst hb; exact ⟨Nat.le_refl _, by simp⟩)
 rw [List.length_replicate] at this
 exact hK _ _ this.1 this.2
theorem Xz.place {xs ys : List Value} {ds es : List D} {S S' : Nat -> Prop} (h1 : Xz w xs ds S) (h2 : Xz w ys es S') (hd : ∀ b, S b -> S' b -> False) (o : Nat) (ho : o + ys.length <= xs.length) : Xz w (Vm.place xs o ys) (Vm.place ds o es) (fun b => S b \/ S' b) := by
 obtain ⟨l1, Sk, a1, a2, a3⟩ := h1
 obtain ⟨l2, pX, b1, b2, b3⟩ := h2
 refine ⟨by rw [Yw _ _ _ ho, Yw _ _ _ (by omega), l1], fun k => if o <= k /\ k < o + ys.length then pX (k - o) else Sk k, fun k x d hx wP => ?_, fun k b hb => ?_, fun i j b hi hj => ?_⟩
 ·rcases z6 xs o ys ho k x hx with ⟨p1, p2, p3⟩ | ⟨p1, p3⟩
  ·rcases z6 ds o es (by omega) k d wP with ⟨_, _, p4⟩ | ⟨p4, _⟩
   ·simp only [p1, p2, and_self, if_true]; exact b1 _ x d p3 p4
   ·exact absurd ⟨p1, by omega⟩ p4
  ·rcases z6 ds o es (by omega) k d wP with ⟨p4, p5, _⟩ | ⟨_, p4⟩
   ·exact absurd ⟨p4, by omega⟩ p1
   ·simp only [p1, if_false]; exact a1 k x d p3 p4
 ·by_cases hk : o <= k /\ k < o + ys.length
  ·simp only [hk, and_self, if_true] at hb; exact .inr (b2 _ b hb)
  ·simp only [hk, if_false] at hb; exact .inl (a2 k b hb)
 ·by_cases vc : o <= i /\ i < o + ys.length
  ·simp only [vc, and_self, if_true] at hi
   by_cases ue : o <= j /\ j < o + ys.length
   ·simp only [ue, and_self, if_true] at hj
    have := b3 _ _ b hi hj; omega
   ·simp only [ue, if_false] at hj; exact (hd b (a2 j b hj) (b2 _ b hi)).elim
  ·simp only [vc, if_false] at hi
   by_cases ue : o <= j /\ j < o + ys.length
   ·simp only [ue, and_self, if_true] at hj; exact (hd b (a2 i b hi) (b2 _ b hj)).elim
   ·simp only [ue, if_false] at hj; exact a3 i j b hi hj
theorem TP (r : Rel T0 B σ a w X h) {o : Oper} {T : TypeId} {x y : Operand} (wA : o.op = .store T x y) (hd : o.dst = none) (ht : Kg P T = true) (tW : gOf (look P σ 0 x) = true) (tX : gOf (look P σ T y) = true)
  {t j i c : Nat} (hx : unc (look P σ 0 x) = .one (.ptr t j i c)) {size : Nat} {rows : List (List D)} (ho : σ.ob t j = .arr true size rows) (hi : i < rows.length) {ds : List D} (ve : (unc (look P σ T y)).flat = true) (s3 : X7 σ (unc (look P σ T y)).cells = some ds) (wa : XF σ (unc (look P σ T y)).cells)
  (vF : (Z7 (unc (look P σ T y)).cells).Nodup) (oL : (t, j) ∉ Z7 (unc (look P σ T y)).cells) (fe : (σ.ZX (Z7 (unc (look P σ T y)).cells)).Jh (At.isT t) = false) (hl : ds.length = P.cellsOf T) (hle : c + P.cellsOf T <= size)
  {K : Act -> World -> Prop} {Q : Exit -> Act -> World -> Prop} (hK : ∀ a' w', X6 T0 B ((σ.ZX (Z7 (unc (look P σ T y)).cells)).ZT t j (.arr true size (rows.set i (place (rows.getD i []) c ds)))) a' w' -> YQ B w w' -> K a' w') : o.wp P a w K Q := by
 obtain ⟨_, ti, _, mW, _, _⟩ := zx ht
 have nB := r.arg (P := P) 0 x hx tW
 obtain ⟨b, cap, cur, e, xs, hb, he, hh, vj, uP, uO, ug, hz, sM, _, wF⟩ := r.arr ho nB
 obtain ⟨wF, hn⟩ := wF rfl
 have hy := yO ve (r.arg (P := P) T y rfl tX)
 have uM := kA r hy s3 wa vF
 have v9 := uM.1
 have e2 : (a.eval y).cells.toList.length = (a.eval y).cells.size := Array.length_toList
 have e3 : cur.toList.length = cur.size := Array.length_toList
 have wi : rows[i]? = some (rows.getD i []) := by simp [List.getD_eq_getElem?_getD, List.getElem?_eq_getElem hi]
 have hmul : i * size + size <= rows.length * size := by rw [<- Nat.succ_mul]; exact Nat.mul_le_mul_right _ hi
 have oN : rows.length * size <= cap * size := Nat.mul_le_mul_right _ vj
 have wV := run_store (P := P) (w := w) mW (o := i * size + c) (val := a.eval y) hh (by omega) (by omega) (fun u hu => by obtain ⟨x', _, tr⟩ := hy.mem hu; exact Zm.Y4 tr)
 have wU : σ.ob t j ≠ .none := by rw [ho]; simp
 have we : blk (h t j).v = some b := by rw [hb]; rfl
 have hB := r.F6 wU we
 have vS := r.ub t j b wU we
 have rM : xs.length = rows.length * size := by rw [sM, Zo rows size hz]
 have sI : (rows.getD i []).length = size := hz _ (List.mem_of_getElem? wi)
 generalize hL : Z7 (unc (look P σ T y)).cells = L at *
 have r1 := r.ZX L
 have uu : (σ.ZX L).ob t j = .arr true size rows := by rw [St.QU, if_neg oL, ho]
 have wX := r.JN L
 have uI : ∀ b', (h t j).u b' -> Xd σ h L b' -> False := by
  rintro b' uF ⟨p, hp, wB, mZ⟩
  obtain ⟨q1, q2⟩ := r.inj t j p.1 p.2 b' wU wB uF mZ
  exact oL (by rw [q1, q2]; exact hp)
 unfold Oper.wp
 simp only [execOp, wA, he, Sem.run_bind, wV, Result.andThen_ok, Sem.run_pure, Oper.upon_skip, hd]
 refine hK _ _ ⟨X, _, r1.change (by rw [uu]; simp) (by simp [World.setRow]) (fun k hk => setRow_other w b k _ (fun e => hk (e ▸ vS))) (Xd σ h L) (fun b' wM => wX b' wM) _ (by rw [uu]; simp [Ob.Hh])
  ⟨(h t j).v, fun k => ((place xs (i * size + c) (a.eval y).cells.toList)[k]?).getD undef, fun b' => (h t j).u b' \/ Xd σ h L b'⟩ rfl (fun b' wM => wM) (fun b' wM => .inl (r.ub t j b' wU wM)) (At.isT t) fe (.inl (fun u i c => by simp [At.isT])) ?_⟩ (YQ.setRow hB.1 _)
 have vg := setRow_heap w b cur (place cur.toList (i * size + c) (a.eval y).cells.toList).toArray e (0, 0) hh
 have wN : ∀ b', b' ≠ b -> (w.setRow b (place cur.toList (i * size + c) (a.eval y).cells.toList).toArray).heap[b']? = w.heap[b']? := fun b' wB => setRow_other w b b' _ wB
 have ui : ∀ r ∈ rows.set i (place (rows.getD i []) c ds), r.length = size := by
  intro r' vU
  rcases List.mem_or_eq_of_mem_set vU with vU | vU
  ·exact hz r' vU
  ·rw [vU, Yw _ _ _ (by omega), sI]
 refine ⟨e, place xs (i * size + c) (a.eval y).cells.toList, ⟨?_, .inr ⟨b, cap, _, by simpa using hb, Nat.zero_le _, vg, by simpa using vj, uP, ?_, ?_⟩⟩, ui, ?_, fun k u d hu _ _ => by simp [hu]⟩
 ·rw [Yw _ _ _ (by omega), rM]; simp
 ·simp only [List.size_toArray]
  rw [Yw _ _ _ (by omega), e3, uO]
 ·simp only [List.length_set]
  rw [Wv _ _ _ _ (by omega) (by omega), ug]
 ·rw [J7 size c ds (by omega) rows i _ wi hz]
  have k1 : Xz (w.setRow b (place cur.toList (i * size + c) (a.eval y).cells.toList).toArray) xs rows.flatten (fun b => (h t j).u b /\ blk (h t j).v ≠ some b) := wF.jn (fun b' wM => wN b' (fun e => wM.2 (by rw [e]; exact we)))
  have k2 : Xz (w.setRow b (place cur.toList (i * size + c) (a.eval y).cells.toList).toArray) (a.eval y).cells.toList ds (Xd σ h L) := uM.jn (fun b' wM => wN b' (fun e => uI b' (by rw [e]; exact vS) wM))
  refine (k1.place k2 (fun b' h1 h2 => uI b' h1.1 h2) _ (by omega)).mono (fun b' wM => ?_)
  rcases wM with wM | wM
  ·exact ⟨.inl wM.1, wM.2⟩
  ·exact ⟨.inr wM, fun e => uI b' (r.ub t j b' wU e) wM⟩
theorem Own.GP {v : Value} {n : Nat} {s : List (List D)} {S S2 : Nat -> Prop} (uR : Own w v (.sl n s) S) {k q : Nat} (hk : k < s.length) {ys : List Value} {ds : List D} (hy : Xz w ys ds S2) (hle : q + ds.length <= n) (hd : ∀ b, S b -> S2 b -> False) :
  ∃ g cap cur e, v = .slice (some ⟨g, 0, none⟩) s.length cap /\ S g /\ w.heap[g]? = some (.cells cur e (0, 0)) /\ k * n + q + ys.length <= cur.size /\ Own (w.setRow g (place cur.toList (k * n + q) ys).toArray) v (.sl n (s.set k (place (s.getD k []) q ds))) (fun b => S b \/ S2 b) := by
 cases uR with
 | sl v size rows S e xs Sk ho hz hb hl vt hs wP =>
  have v9 := hy.1
  obtain ⟨sM, ⟨_, h0⟩ | ⟨g, cap, cur, hv, tD, hh, vj, uP, uO, ug⟩⟩ := ho
  ·omega
  have o9 : S g := hb g (by rw [hv]; rfl)
  have wi : s[k]? = some (s.getD k []) := by simp [List.getD_eq_getElem?_getD, List.getElem?_eq_getElem hk]
  have hmul : k * n + n <= s.length * n := by rw [<- Nat.succ_mul]; exact Nat.mul_le_mul_right _ hk
  have oN : s.length * n <= cap * n := Nat.mul_le_mul_right _ vj
  have e3 : cur.toList.length = cur.size := Array.length_toList
  have sI : (s.getD k []).length = n := hz _ (List.mem_of_getElem? wi)
  refine ⟨g, cap, cur, e, hv, o9, hh, by omega, ?_⟩
  have vg := setRow_heap w g cur (place cur.toList (k * n + q) ys).toArray e (0, 0) hh
  have wN : ∀ b', b' ≠ g -> (w.setRow g (place cur.toList (k * n + q) ys).toArray).heap[b']? = w.heap[b']? := fun b' wB => setRow_other w g b' _ wB
  have ui : ∀ r ∈ s.set k (place (s.getD k []) q ds), r.length = n := by
   intro r' vU
   rcases List.mem_or_eq_of_mem_set vU with vU | vU
   ·exact hz r' vU
   ·rw [vU, Yw _ _ _ (by omega), sI]
  have we : blk v = some g := by rw [hv]; rfl
  have k1 : Xz (w.setRow g (place cur.toList (k * n + q) ys).toArray) xs s.flatten (fun b => S b /\ blk v ≠ some b) :=
   Xz.jn (fun b' wM => wN b' (fun e => wM.2 (by rw [e]; exact we))) (show Xz w xs s.flatten (fun b => S b /\ blk v ≠ some b) from ⟨hl, Sk, vt, fun k b hb => hs k b hb, wP⟩)
  have k2 : Xz (w.setRow g (place cur.toList (k * n + q) ys).toArray) ys ds S2 := hy.jn (fun b' wM => wN b' (fun e => hd b' (by rw [e]; exact o9) wM))
  have k3 := k1.place k2 (fun b' h1 h2 => hd b' h1.1 h2) (k * n + q) (by rw [sM]; omega)
  rw [<- J7 n q ds (by omega) s k _ wi hz] at k3
  obtain ⟨nn, fg, a1, a2, a3⟩ := k3
  refine .sl v n _ _ e (place xs (k * n + q) ys) fg ⟨?_, .inr ⟨g, cap, _, by simpa using hv, tD, vg, by simpa using vj, uP, ?_, ?_⟩⟩ ui (fun b' wM => .inl (hb b' wM)) nn a1 (fun k b wM => ?_) a3
  ·rw [Yw _ _ _ (by rw [sM]; omega), sM]; simp
  ·simp only [List.size_toArray]
   rw [Yw _ _ _ (by omega), e3, uO]
  ·simp only [List.length_set]
   rw [Wv _ _ _ _ (by omega) (by omega), ug]
  ·rcases a2 k b wM with h1 | h1
   ·exact ⟨.inl h1.1, h1.2⟩
   ·exact ⟨.inr h1, fun e => hd b (hb b e) h1⟩
theorem TM (r : Rel T0 B σ a w X h) {o : Oper} {T : TypeId} {x y : Operand} (wA : o.op = .store T x y) (hd : o.dst = none) (ht : Kg P T = true) (tW : gOf (look P σ 0 x) = true) (tX : gOf (look P σ T y) = true)
  {t j i c k q n : Nat} {s : List (List D)} (hx : unc (look P σ 0 x) = .one (.tref t j i c (some (k * n + q)))) {size : Nat} {rows : List (List D)} (ho : σ.ob t j = .arr true size rows) (hi : i < rows.length) (wG : (rows.getD i [])[c]? = some (.sl n s)) (hk : k < s.length)
  {ds : List D} (ve : (unc (look P σ T y)).flat = true) (s3 : X7 σ (unc (look P σ T y)).cells = some ds) (wa : XF σ (unc (look P σ T y)).cells)
  (vF : (Z7 (unc (look P σ T y)).cells).Nodup) (oL : (t, j) ∉ Z7 (unc (look P σ T y)).cells) (hl : ds.length = P.cellsOf T) (hle : q + P.cellsOf T <= n)
  {K : Act -> World -> Prop} {Q : Exit -> Act -> World -> Prop} (hK : ∀ a' w', X6 T0 B ((σ.ZX (Z7 (unc (look P σ T y)).cells)).ZT t j (.arr true size (rows.set i (place (rows.getD i []) c [.sl n (s.set k (place (s.getD k []) q ds))])))) a' w' -> YQ B w w' -> K a' w') : o.wp P a w K Q := by
 obtain ⟨_, ti, _, mW, _, _⟩ := zx ht
 have wU : σ.ob t j ≠ .none := by rw [ho]; simp
 have h0 := r.obj t j
 rw [ho] at h0
 obtain ⟨e, vs, uR, hz, ⟨oK, Sk, o1, o2, o3⟩, hn⟩ := h0
 have wi : rows[i]? = some (rows.getD i []) := by simp [List.getD_eq_getElem?_getD, List.getElem?_eq_getElem hi]
 have vd : rows.flatten[i * size + c]? = some (.sl n s) := zE rows size hz i _ wi c _ wG
 have wO : i * size + c < vs.length := by rw [oK]; exact (List.getElem?_eq_some_iff.1 vd).1
 have pt : vs[i * size + c]? = some vs[i * size + c] := List.getElem?_eq_getElem wO
 have gM := hn _ _ _ pt vd rfl
 have wF := o1 _ _ _ pt vd
 have hy := yO ve (r.arg (P := P) T y rfl tX)
 have uM := kA r hy s3 wa vF
 have v9 := uM.1
 have e2 : (a.eval y).cells.toList.length = (a.eval y).cells.size := Array.length_toList
 generalize hL : Z7 (unc (look P σ T y)).cells = L at *
 have uI : ∀ b', (h t j).u b' -> Xd σ h L b' -> False := by
  rintro b' uF ⟨p, hp, wB, mZ⟩
  obtain ⟨q1, q2⟩ := r.inj t j p.1 p.2 b' wU wB uF mZ
  exact oL (by rw [q1, q2]; exact hp)
 have ic : ∀ b, Sk (i * size + c) b -> (h t j).u b := fun b hb => (o2 _ b hb).1
 obtain ⟨g, cap, cur, e1, hv, o9, hh, vK, w8⟩ := wF.GP (q := q) hk uM (by omega) (fun b h1 h2 => uI b (ic b h1) h2)
 have nB := r.arg (P := P) 0 x hx tW
 have he : a.eval x = .pointer (some ⟨g, k * n + q, none⟩) := by
  obtain ⟨b, n', rZ, h1, h2⟩ := nB.2 size rows ho
  rw [gM, hv] at h1
  cases h1; exact h2
 have wV := run_store (P := P) (w := w) mW (o := k * n + q) (val := a.eval y) hh (by omega) (by omega) (fun u hu => by obtain ⟨x', _, tr⟩ := hy.mem hu; exact Zm.Y4 tr)
 have fv := r.own t j g wU (ic g o9)
 have r1 := r.ZX L
 have uu : (σ.ZX L).ob t j = .arr true size rows := by rw [St.QU, if_neg oL, ho]
 have wX := r.JN L
 have uO : c + 1 <= size := by
  have h1 := (List.getElem?_eq_some_iff.1 wG).1
  have h2 := hz _ (List.mem_of_getElem? wi)
  omega
 have ig := J7 size c [D.sl n (s.set k (place (s.getD k []) q ds))] (by simpa using uO) rows i _ wi hz
 have ij : i * size + c + [D.sl n (s.set k (place (s.getD k []) q ds))].length <= rows.flatten.length := by rw [<- oK]; simp; omega
 have sI : (rows.getD i []).length = size := hz _ (List.mem_of_getElem? wi)
 have ui : ∀ r ∈ rows.set i (place (rows.getD i []) c [D.sl n (s.set k (place (s.getD k []) q ds))]), r.length = size := by
  intro r' vU
  rcases List.mem_or_eq_of_mem_set vU with vU | vU
  ·exact hz r' vU
  ·rw [vU, Yw _ _ _ (by rw [sI]; simpa using uO), sI]
 have wN : ∀ b', b' ≠ g -> (w.setRow g (place cur.toList (k * n + q) (a.eval y).cells.toList).toArray).heap[b']? = w.heap[b']? := fun b' wB => setRow_other w g b' _ wB
 have we : ∀ b, blk (h t j).v = some b -> (w.setRow g (place cur.toList (k * n + q) (a.eval y).cells.toList).toArray).heap[b]? = w.heap[b]? := fun b hb => wN b (fun e => (o2 _ g o9).2 (by rw [<- e]; exact hb))
 unfold Oper.wp
 simp only [execOp, wA, he, Sem.run_bind, wV, Result.andThen_ok, Sem.run_pure, Oper.upon_skip, hd]
 refine hK _ _ ⟨X, _, r1.change (by rw [uu]; simp) (by simp [World.setRow]) (fun k' vt => wN k' (fun e => vt (e ▸ ic g o9))) (Xd σ h L) (fun b' wM => wX b' wM) _ (by rw [uu]; simp [Ob.Hh])
  ⟨(h t j).v, (h t j).n, fun b' => (h t j).u b' \/ Xd σ h L b'⟩ rfl (fun b' wM => wM) (fun b' wM => .inl (r.ub t j b' wU wM)) (fun _ => false) (St.KP _) (.inr rfl) ?_⟩ (YQ.setRow fv.1 _)
 refine ⟨e, vs, by rw [List.length_set]; exact Kf we uR, ui, ⟨?_, fun k' => if k' = i * size + c then (fun b => Sk (i * size + c) b \/ Xd σ h L b) else Sk k', fun k' x dd hx uK => ?_, fun k' b hb => ?_, fun p' q' b hp hq => ?_⟩, fun k' x dd hx uK vN => ?_⟩
 ·rw [ig, Yw _ _ _ ij, oK]
 ·rw [ig] at uK
  rcases z6 _ _ _ ij k' dd uK with ⟨k1, k2, k3⟩ | ⟨k1, k3⟩
  ·have vt : k' = i * size + c := by simp at k2; omega
   subst vt
   rw [pt] at hx; cases hx
   simp at k3; subst k3
   simp only [if_true]; exact w8
  ·have vt : ¬ k' = i * size + c := fun vt => k1 ⟨by omega, by simp; omega⟩
   simp only [vt, if_false]
   exact (o1 k' x dd hx k3).jn (fun b hb => wN b (fun e => vt (o3 k' _ b hb (by rw [e]; exact o9))))
 ·by_cases vt : k' = i * size + c
  ·simp only [vt, if_true] at hb
   rcases hb with hb | hb
   ·exact ⟨.inl (o2 _ b hb).1, (o2 _ b hb).2⟩
   ·exact ⟨.inr hb, fun e => uI b (r.ub t j b wU e) hb⟩
  ·simp only [vt, if_false] at hb; exact ⟨.inl (o2 k' b hb).1, (o2 k' b hb).2⟩
 ·by_cases rf : p' = i * size + c
  ·by_cases uT : q' = i * size + c
   ·rw [rf, uT]
   ·simp only [rf, if_true] at hp
    simp only [uT, if_false] at hq
    rcases hp with hp | hp
    ·rw [rf]; exact (o3 _ _ b hp hq)
    ·exact (uI b (o2 q' b hq).1 hp).elim
  ·simp only [rf, if_false] at hp
   by_cases uT : q' = i * size + c
   ·simp only [uT, if_true] at hq
    rcases hq with hq | hq
    ·rw [uT]; exact (o3 _ _ b hp hq)
    ·exact (uI b (o2 p' b hp).1 hq).elim
   ·simp only [uT, if_false] at hq; exact o3 p' q' b hp hq
 ·rw [ig] at uK
  rcases z6 _ _ _ ij k' dd uK with ⟨k1, k2, k3⟩ | ⟨k1, k3⟩
  ·have vt : k' = i * size + c := by simp at k2; omega
   subst vt
   rw [pt] at hx; cases hx; exact gM
  ·exact hn k' x dd hx k3 vN
end
theorem j7 {α β : Type} (f : α -> β) (l : List α) (k : Nat) : cut (l.map f) k (l.length - k) = (l.drop k).map f := by
 unfold cut
 rw [<- List.map_drop, <- List.map_take, List.take_of_length_le (by rw [List.length_drop]; exact Nat.le_refl _)]
def hol : D -> D
 | .sl _ _ => .unk
 | d => d
def Xy (rows : List (List D)) (lo n : Nat) : List (List D) := rows.take lo ++ (cut rows lo n).map (fun r => r.map hol) ++ rows.drop (lo + n)
theorem KS {rows : List (List D)} {lo n : Nat} (h : lo + n <= rows.length) : (Xy rows lo n).length = rows.length := by
 simp only [Xy, List.length_append, List.length_map, List.length_take, List.length_drop, YK _ _ _ h]; omega
theorem TK {rows : List (List D)} {lo n rG n' : Nat} (h : lo + n <= rows.length) (h' : lo + n <= rG) : cut (Xy rows lo n) rG n' = cut rows rG n' := by
 unfold cut
 congr 1
 have hl : (rows.take lo ++ (cut rows lo n).map (fun r => r.map hol)).length = lo + n := by
  simp only [List.length_append, List.length_map, List.length_take, YK _ _ _ h]; omega
 unfold Xy
 rw [List.drop_append, List.drop_eq_nil_of_le (by omega), hl, List.drop_drop, List.nil_append]
 congr 1
 omega
section
variable {P : Program} {T0 : CS} {B : Nat -> Prop} {σ : St} {a : Act} {w w' : World} {X X' : Nat -> Prop} {h : Nat -> Nat -> Hd}
theorem Own.FD {v : Value} {d : D} {S S' : Nat -> Prop} (hs : d.scalar = true) (ho : Own w v d S) : Own w v d S' := by
 cases ho with
 | int k n => exact .int _ _ _
 | bool b => exact .bool _ _
 | str s => exact .str _ _
 | unk v h => exact .unk _ h _
 | sl => cases hs
theorem Own.hol {v : Value} {d : D} {S S' : Nat -> Prop} (ho : Own w v d S) : Own w v (Vm.hol d) S' := by
 cases d with
 | sl s r => exact .unk _ ho.Y4 _
 | int k n => exact ho.FD rfl
 | bool b => exact ho.FD rfl
 | str s => exact ho.FD rfl
 | unk => exact ho.FD rfl
theorem MW (d : D) : (hol d).scalar = true := by cases d <;> rfl
theorem TI {rows : List (List D)} {size lo n : Nat} (hz : ∀ r ∈ rows, r.length = size) (hle : lo + n <= rows.length) {k : Nat} {d : D} (hd : (Xy rows lo n).flatten[k]? = some d) :
  (lo * size <= k /\ k < lo * size + n * size /\ ∃ d', rows.flatten[k]? = some d' /\ d = hol d') \/ (¬ (lo * size <= k /\ k < lo * size + n * size) /\ rows.flatten[k]? = some d) := by
 have ve : rows.flatten.length = rows.length * size := Zo rows size hz
 have hm : lo * size + n * size <= rows.length * size := by rw [<- Nat.add_mul]; exact Nat.mul_le_mul_right _ hle
 have e1 : (rows.take lo).flatten = rows.flatten.take (lo * size) := Qc rows size hz lo (by omega)
 have e2 : ((cut rows lo n).map (fun r => r.map hol)).flatten = (cut rows.flatten (lo * size) (n * size)).map hol := by
  rw [<- kR rows size hz lo n hle, List.map_flatten]
 have l1 : ((rows.take lo).flatten).length = lo * size := by rw [e1, List.length_take]; omega
 have l2 : (((cut rows lo n).map (fun r => r.map hol)).flatten).length = n * size := by rw [e2, List.length_map, YK _ _ _ (by omega)]
 unfold Xy at hd
 rw [List.flatten_append, List.flatten_append] at hd
 by_cases h1 : k < lo * size + n * size
 ·rw [List.getElem?_append_left (by rw [List.length_append, l1, l2]; exact h1)] at hd
  by_cases h0 : k < lo * size
  ·rw [List.getElem?_append_left (by rw [l1]; exact h0), e1, List.getElem?_take, if_pos h0] at hd
   exact .inr ⟨by omega, hd⟩
  ·rw [List.getElem?_append_right (by rw [l1]; omega), l1, e2, List.getElem?_map] at hd
   cases hc : (cut rows.flatten (lo * size) (n * size))[k - lo * size]? with
   | none => rw [hc] at hd; cases hd
   | some d' =>
    rw [hc] at hd
    have := JD _ _ _ _ _ hc
    rw [show lo * size + (k - lo * size) = k by omega] at this
    exact .inl ⟨by omega, h1, d', this, (by cases hd; rfl)⟩
 ·rw [List.getElem?_append_right (by rw [List.length_append, l1, l2]; omega), List.length_append, l1, l2] at hd
  have e3 : (rows.drop (lo + n)).flatten = rows.flatten.drop (lo * size + n * size) := by
   have h2 : (rows.take (lo + n)).flatten ++ (rows.drop (lo + n)).flatten = rows.flatten := by rw [<- List.flatten_append, List.take_append_drop]
   have h3 : (rows.take (lo + n)).flatten.length = lo * size + n * size := by rw [Qc rows size hz (lo + n) hle, List.length_take, Nat.add_mul]; omega
   rw [<- h2, <- h3, List.drop_left]
  rw [e3, List.getElem?_drop, show lo * size + n * size + (k - (lo * size + n * size)) = k by omega] at hd
  exact .inr ⟨by omega, hd⟩
theorem Rel.Gv (r : Rel T0 B σ a w X h) {u j size lo n : Nat} {rows : List (List D)} (ho : σ.ob u j = .arr true size rows) (hle : lo + n <= rows.length) :
  ∃ (h' : Nat -> Nat -> Hd) (M : Nat -> Prop) (e : TypeId) (zs : List Value), Rel T0 B (σ.ZT u j (.arr true size (Xy rows lo n))) a w X h' /\
   (∀ b, M b -> ¬ B b /\ ¬ X b /\ b < w.heap.size /\ ∀ t i, (σ.ZT u j (.arr true size (Xy rows lo n))).ob t i ≠ .none -> ¬ (h' t i).u b) /\ (∀ t i, (h' t i).v = (h t i).v) /\
   w.ownsRow 0 e size (h u j).v rows.length zs /\ (∀ q ∈ rows, q.length = size) /\ Xz w (cut zs (lo * size) (n * size)) (cut rows lo n).flatten M /\ (∀ v ∈ zs, v.oneCell' = true) := by
 have wU : σ.ob u j ≠ .none := by rw [ho]; simp
 have h0 := r.obj u j
 rw [ho] at h0
 obtain ⟨e, zs, uR, hz, ⟨oK, Sk, o1, o2, o3⟩, hn⟩ := h0
 have ve : rows.flatten.length = rows.length * size := Zo rows size hz
 have hm : lo * size + n * size <= rows.length * size := by rw [<- Nat.add_mul]; exact Nat.mul_le_mul_right _ hle
 let M : Nat -> Prop := fun b => ∃ k, lo * size <= k /\ k < lo * size + n * size /\ Sk k b
 let wP : Hd := ⟨(h u j).v, (h u j).n, fun b => (h u j).u b /\ ¬ M b⟩
 have im : ∀ b, M b -> (h u j).u b /\ blk (h u j).v ≠ some b := fun b ⟨k, _, _, hk⟩ => o2 k b hk
 have ui : ∀ q ∈ Xy rows lo n, q.length = size := by
  intro q hq
  simp only [Xy, List.mem_append, List.mem_map] at hq
  rcases hq with (hq | ⟨q', hq, rfl⟩) | hq
  ·exact hz q (List.mem_of_mem_take hq)
  ·rw [List.length_map]; exact hz q' (List.mem_of_mem_drop (List.mem_of_mem_take hq))
  ·exact hz q (List.mem_of_mem_drop hq)
 have hr := r.change (w' := w) wU rfl (fun _ _ => rfl) (fun _ => False) (fun _ hh => hh.elim) (.arr true size (Xy rows lo n)) (by rw [ho]; exact ⟨rfl, rfl, (KS hle).symm⟩) wP rfl (fun b hb => .inl hb.1)
  (fun b hb => ⟨r.ub u j b wU hb, fun wM => (im b wM).2 hb⟩) (fun _ => false) (St.KP σ) (.inr rfl) (by
   refine ⟨e, zs, by rw [KS hle]; exact uR, ui, ⟨?_, fun k => if lo * size <= k /\ k < lo * size + n * size then (fun _ => False) else Sk k, fun k x d hx hd => ?_, fun k b hb => ?_, fun k k' b hb wM => ?_⟩, fun k x d hx hd vN => ?_⟩
   ·rw [oK, Zo _ size ui, KS hle, ve]
   ·rcases TI hz hle hd with ⟨h1, h2, d', h3, rfl⟩ | ⟨h1, h2⟩
    ·exact (o1 k x d' hx h3).hol
    ·simp only [h1, if_false]; exact o1 k x d hx h2
   ·dsimp only at hb
    split at hb
    ·exact hb.elim
    ·rename_i hk
     refine ⟨⟨(o2 k b hb).1, fun ⟨k', h1, h2, h3⟩ => ?_⟩, (o2 k b hb).2⟩
     have := o3 k k' b hb h3
     subst this
     exact hk ⟨h1, h2⟩
   ·dsimp only at hb wM
    split at hb
    ·exact hb.elim
    ·split at wM
     ·exact wM.elim
     ·exact o3 k k' b hb wM
   ·rcases TI hz hle hd with ⟨h1, h2, d', h3, rfl⟩ | ⟨h1, h2⟩
    ·rw [MW] at vN; cases vN
    ·exact hn k x d hx h2 vN)
 have fx : (cut rows lo n).flatten = cut rows.flatten (lo * size) (n * size) := kR rows size hz lo n hle
 refine ⟨_, M, e, zs, hr, fun b hb => ?_, fun t i => ?_, uR, hz, ?_, fun v hv => ?_⟩
 ·have h1 := r.own u j b wU (im b hb).1
  refine ⟨h1.1, h1.2.1, h1.2.2, fun t i wB wM => ?_⟩
  split at wM
  ·exact wM.2 hb
  ·rename_i hc
   have wv : σ.ob t i ≠ .none := by
    rw [St.Yj σ u j _ t i wU, if_neg hc] at wB; exact wB
   exact hc (r.inj t i u j b wv wU wM (im b hb).1)
 ·split
  ·rename_i hc; rw [hc.1, hc.2]
  ·rfl
 ·rw [fx]
  have wg : (cut zs (lo * size) (n * size)).length = n * size := YK _ _ _ (by rw [oK, ve]; exact hm)
  refine ⟨by rw [wg, YK _ _ _ (by rw [ve]; exact hm)], fun k b => k < n * size /\ Sk (lo * size + k) b, fun k x d hx hd => ?_, fun k b hb => ⟨lo * size + k, by omega, by omega, hb.2⟩, fun i k b hi hk => by have := o3 _ _ b hi.2 hk.2; omega⟩
  have hk : k < n * size := by rw [<- wg]; exact (List.getElem?_eq_some_iff.1 hx).1
  exact (o1 _ x d (JD _ _ _ _ _ hx) (JD _ _ _ _ _ hd)).mono (fun b hb => ⟨hk, hb⟩)
 ·obtain ⟨k, hk⟩ := List.mem_iff_getElem?.1 hv
  have wO : k < rows.flatten.length := by rw [<- oK]; exact (List.getElem?_eq_some_iff.1 hk).1
  exact (o1 k v _ hk (List.getElem?_eq_getElem wO)).Y4
def MR (σ : St) (x : V) (size : Nat) (wC : List (List D)) (l : List (Nat × Nat)) : Prop :=
 match x with
 | .one (.nil _) => wC = [] /\ l = []
 | .one (.sref t j lo len) => lo = 0 /\ len = wC.length /\ l = [(t, j)] /\ (σ.ob t j = .arr true size wC \/ (σ.ob t j = .lit size [] /\ wC = []))
 | _ => False
theorem R1 (r : Rel T0 B σ a w X h) {o : Oper} {t : TypeId} {x y : Operand} {d u j lo n : Nat} {rows wC : List (List D)} {l1 : List (Nat × Nat)} (wA : o.op = .call ⟨.builtin .append, #[x, y], #[t, t]⟩) (hd : o.dst = some d)
  (tW : gOf (look P σ t x) = true) (tX : gOf (look P σ t y) = true) (ht : YS P t = true) (hz : XD P (ZH P t) = true) (vM : 0 < P.cellsOf (ZH P t))
  (vr : MR σ (unc (look P σ t x)) (P.cellsOf (ZH P t)) wC l1) (hy : unc (look P σ t y) = .one (.sref u j lo n)) (ho : σ.ob u j = .arr true (P.cellsOf (ZH P t)) rows) (hle : lo + n <= rows.length) (pe : (u, j) ∉ l1)
  (w7 : ((σ.ZT u j (.arr true (P.cellsOf (ZH P t)) (Xy rows lo n))).ZX l1).fresh d = true)
  (vJ : (wC.length + n) * P.bytesOf (ZH P t) <= 140737488355328) (pM : wC.length + n <= 9223372036854775807)
  {K : Act -> World -> Prop} {Q : Exit -> Act -> World -> Prop} (hK : ∀ a' w', X6 T0 B (((σ.ZT u j (.arr true (P.cellsOf (ZH P t)) (Xy rows lo n))).ZX l1).new d (.one (.sref d 0 0 (wC.length + n))) [.arr true (P.cellsOf (ZH P t)) (wC ++ cut rows lo n)]) a' w' -> YQ B w w' -> K a' w') : o.wp P a w K Q := by
 obtain ⟨ti, hu, hi, uq⟩ := Yv ht
 obtain ⟨i, z, row, vc, tO, uc, ur, tu, v7, uY⟩ := Jv hz
 rw [hi] at vc; cases vc
 have pN : P.bytesOf (ZH P t) = ti.bytes := by simp [Program.bytesOf, hi]
 rw [pN] at vJ
 rw [<- v7] at ho vM hK w7 vr
 have sO := r.arg (P := P) t x rfl tW
 have pd := r.arg (P := P) t y rfl tX
 rw [hy] at pd
 have nF : Zm (Tof T0 X) h σ.ob w (.sref u j lo n) (a.eval y) := pd
 obtain ⟨_, _, _, base, cap, pR, vj, pb, s4, hb⟩ := nF.2.1 _ _ _ ho
 obtain ⟨h', M, e0, zs, r0, hM, uo, ma, vi, uM, iU⟩ := r.Gv ho hle
 have wU : σ.ob u j ≠ .none := by rw [ho]; simp
 generalize hσ1 : σ.ZT u j (.arr true ti.size (Xy rows lo n)) = σ1 at *
 have uu : ∀ t' i', ¬ (t' = u /\ i' = j) -> σ1.ob t' i' = σ.ob t' i' := fun t' i' wB => by rw [<- hσ1, St.Yj σ u j _ t' i' wU, if_neg wB]
 have mi : zs.length = rows.length * ti.size := ma.1
 have nG : lo * ti.size + n * ti.size <= zs.length := by rw [mi, <- Nat.add_mul]; exact Nat.mul_le_mul_right _ hle
 generalize nE : cut zs (lo * ti.size) (n * ti.size) = ys at *
 have v9 : ys.length = n * ti.size := by rw [<- nE]; exact YK _ _ _ nG
 have wg : (cut rows lo n).length = n := YK _ _ _ hle
 have o6 : ∀ q ∈ cut rows lo n, q.length = ti.size := fun q hq => vi q (List.mem_of_mem_drop (List.mem_of_mem_take hq))
 have vy : ∃ e1 xs, w.ownsRow 0 e1 ti.size (a.eval x) wC.length xs /\ (∀ q ∈ wC, q.length = ti.size) /\ Xz w xs wC.flatten (fun b => Xd σ1 h' l1 b /\ blk (a.eval x) ≠ some b) /\ (∀ b, blk (a.eval x) = some b -> Xd σ1 h' l1 b) := by
  unfold MR at vr
  split at vr
  ·rename_i s heq
   obtain ⟨rfl, rfl⟩ := vr
   rw [heq] at sO
   have he : a.eval x = .slice none 0 0 := sO
   rw [he]
   exact ⟨0, [], World.ownsRow_nil w 0 0 _, (by intro q hq; cases hq), Xz.nil _, (fun b hb => by cases hb)⟩
  ·rename_i u2 j2 hJ nf heq
   obtain ⟨rfl, rfl, rfl, uW⟩ := vr
   rw [heq] at sO
   have sP : Zm (Tof T0 X) h σ.ob w (.sref u2 j2 0 wC.length) (a.eval x) := sO
   have wB : ¬ (u2 = u /\ j2 = j) := fun hc => pe (by rw [hc.1, hc.2]; simp)
   have h0 := r0.obj u2 j2
   rw [uu u2 j2 wB] at h0
   rcases uW with uW | ⟨uW, rfl⟩
   ·obtain ⟨_, vm, _⟩ := sP.2.1 _ _ _ uW
    have he : a.eval x = (h' u2 j2).v := by rw [uo]; exact vm rfl rfl
    rw [uW] at h0
    obtain ⟨e, xs, wF, o7, wD, hn⟩ := h0
    have ra : σ1.ob u2 j2 ≠ .none := by rw [uu u2 j2 wB, uW]; simp
    rw [he]
    exact ⟨e, xs, wF, o7, wD.mono (fun b hb => ⟨⟨(u2, j2), by simp, ra, hb.1⟩, hb.2⟩), fun b hb => ⟨(u2, j2), by simp, ra, r0.ub u2 j2 b ra hb⟩⟩
   ·obtain ⟨_, vm, _⟩ := sP.2.2 _ _ uW
    have he : a.eval x = (h' u2 j2).v := by rw [uo]; exact vm rfl rfl
    rw [uW] at h0
    obtain ⟨e, xs, wF, o7, wD⟩ := h0
    have ra : σ1.ob u2 j2 ≠ .none := by rw [uu u2 j2 wB, uW]; simp
    have fy : xs = [] := by cases wD; rfl
    subst fy
    rw [he]
    exact ⟨e, [], wF, (by intro q hq; cases hq), Xz.nil _, fun b hb => ⟨(u2, j2), by simp, ra, r0.ub u2 j2 b ra hb⟩⟩
  ·exact vr.elim
 obtain ⟨e1, xs, wF, mX, pP, vu⟩ := vy
 have su : ∀ q ∈ wC ++ cut rows lo n, q.length = ti.size := by
  intro q hq
  rcases List.mem_append.1 hq with hq | hq
  ·exact mX q hq
  ·exact o6 q hq
 have uI : ∀ b, Xd σ1 h' l1 b -> M b -> False := by
  rintro b ⟨p, hp, wB, uF⟩ hb
  exact (hM b hb).2.2.2 p.1 p.2 wB uF
 have r1 := r0.ZX l1
 have wX := r0.JN l1
 have wO := St.QN w7
 let N : Nat -> Prop := fun b => Xd σ1 h' l1 b \/ M b
 have hN : ∀ b, N b -> ¬ B b /\ ¬ X b /\ b < w.heap.size /\ ∀ u' i', (σ1.ZX l1).ob u' i' ≠ .none -> ¬ (h' u' i').u b := by
  rintro b (hb | hb)
  ·exact wX b hb
  ·obtain ⟨q1, q2, q3, q4⟩ := hM b hb
   refine ⟨q1, q2, q3, fun u' i' wB => q4 u' i' ?_⟩
   rw [St.QU] at wB
   split at wB
   ·exact absurd rfl wB
   ·exact wB
 have key : ∀ (v' : Value) (w' : World) (e2 : TypeId), (Builtin.append_ #[t, t] o.type #[a.eval x, a.eval y]).run P w = .ok v' w' -> w'.ownsRow 0 e2 ti.size v' (wC.length + n) (xs ++ ys) ->
   w.grownBy w' (blk (a.eval x)) -> (∀ b, blk v' = some b -> (w.heap.size <= b /\ b < w'.heap.size) \/ blk (a.eval x) = some b) -> o.wp P a w K Q := by
  intro v' w' e2 wV wZ vT tx
  unfold Oper.wp
  have tB : (execOp a.eval o).run P w = .ok (.value v') w' := by
   simp only [execOp, wA, resolve, invoke, builtin, Sem.run_bind, Sem.run_pure, Result.andThen_ok, List.map_toArray, List.map_cons, List.map_nil, wV]
  rw [tB, Oper.upon_value, hd]
  refine hK _ _ ⟨X, fun u' j' => if u' = d then ⟨v', fun k => ((xs ++ ys)[k]?).getD undef, fun b => blk v' = some b \/ (N b /\ blk (a.eval x) ≠ some b)⟩ else h' u' j', ?_⟩
   ⟨vT.os, vT.tape, vT.output, vT.size, fun k hk => vT.block k (r.hB k hk) (fun e => (hN k (.inl (vu k e.symm))).1 hk)⟩
  have w6 : ((σ1.ZX l1).new d (.one (.sref d 0 0 (wC.length + n))) [.arr true ti.size (wC ++ cut rows lo n)]).ob d 0 = .arr true ti.size (wC ++ cut rows lo n) := by rw [St.Xm]; simp [wO, Zw]
  have uL : (wC ++ cut rows lo n).length = wC.length + n := by rw [List.length_append, wg]
  have w5 : w'.ownsRow 0 e2 ti.size v' (wC ++ cut rows lo n).length (xs ++ ys) := by rw [uL]; exact wZ
  have wN : ∀ b, blk (a.eval x) ≠ some b -> b < w.heap.size -> w'.heap[b]? = w.heap[b]? := fun b hb hl => vT.block b hl (fun e => hb e.symm)
  have mo : Xz w' (xs ++ ys) (wC ++ cut rows lo n).flatten (fun b => (blk v' = some b \/ (N b /\ blk (a.eval x) ≠ some b)) /\ blk v' ≠ some b) := by
   rw [List.flatten_append]
   have h1 : Xz w' xs wC.flatten (fun b => Xd σ1 h' l1 b /\ blk (a.eval x) ≠ some b) := pP.jn (fun b hb => wN b hb.2 (wX b hb.1).2.2.1)
   have sa : ∀ b, M b -> blk (a.eval x) ≠ some b := fun b hb e => uI b (vu b e) hb
   have h2 : Xz w' ys (cut rows lo n).flatten M := uM.jn (fun b hb => wN b (sa b hb) (hM b hb).2.2.1)
   refine (h1.append h2 (fun b vP wk => uI b vP.1 wk)).mono (fun b hb => ?_)
   have hg : N b /\ blk (a.eval x) ≠ some b := by
    rcases hb with hb | hb
    ·exact ⟨.inl hb.1, hb.2⟩
    ·exact ⟨.inr hb, sa b hb⟩
   refine ⟨.inr hg, fun e => ?_⟩
   rcases tx b e with hl | hl
   ·have := (hN b hg.1).2.2.1; omega
   ·exact hg.2 hl
  refine r1.OT w7 N vT.size (fun k hk wB => vT.block k hk (fun e => wB (.inl (vu k e.symm)))) (fun b hb => ⟨(hN b hb).1, (hN b hb).2.1, fun u' j' _ wB => (hN b hb).2.2.2 u' j' wB⟩) (fun _ hb => hb) (fun _ hb => .inl hb) _ _ [.arr true ti.size (wC ++ cut rows lo n)]
   (fun _ => ⟨v', fun k => ((xs ++ ys)[k]?).getD undef, fun b => blk v' = some b \/ (N b /\ blk (a.eval x) ≠ some b)⟩) ?_ (fun j' => ?_) (fun j' b _ hb => .inl hb) (fun j' b wB wM => ?_) (fun j1 j2 b wB wv _ _ => ?_)
  ·refine ⟨Xj wZ, fun q' wW wK hh => ?_, fun wW wK hh => by rw [w6] at hh; cases hh⟩
   rw [w6] at hh; cases hh
   simp only [if_true]
   have := zS w5
   rw [uL] at this ⊢
   exact this
  ·cases j' with
   | zero => exact ⟨e2, xs ++ ys, w5, su, mo, fun k x d hx _ _ => by simp [hx]⟩
   | succ j' => simp [Zw, Xs]
  ·rcases wM with wM | wM
   ·rcases tx b wM with h1 | h1
    ·exact ⟨.inl h1.1, fun hx => by have := (r.hX b hx).2; omega, h1.2⟩
    ·have h3 : N b := .inl (vu b h1)
     have h2 := hN b h3
     exact ⟨.inr h3, h2.2.1, by have := vT.size; omega⟩
   ·have h2 := hN b wM.1
    exact ⟨.inr wM.1, h2.2.1, by have := vT.size; omega⟩
  ·have : ∀ j, Zw [Ob.arr true ti.size (wC ++ cut rows lo n)] j ≠ .none -> j = 0 := by
    intro j hj
    cases j with
    | zero => rfl
    | succ j => simp [Zw] at hj
   rw [this j1 wB, this j2 wv]
 cases base with
 | none =>
  have nT := s4 rfl
  subst nT
  have ib : n = 0 := by omega
  subst ib
  have iq : ys = [] := List.eq_nil_of_length_eq_zero (by rw [v9]; simp)
  have wc : ∃ base cap, a.eval x = .slice base wC.length cap /\ wC.length <= cap /\ (base = none -> cap = 0) := by
   rcases wF.2 with ⟨h1, h2⟩ | ⟨g, cap, cur, h1, _, _, vz, _⟩
   ·exact ⟨none, 0, by rw [h1, h2], by omega, fun _ => rfl⟩
   ·exact ⟨_, cap, h1, vz, (fun hh => by cases hh)⟩
  obtain ⟨base, cap, hex, vz, pv⟩ := wc
  refine key (a.eval x) w e1 ?_ (by rw [iq]; simpa using wF) ⟨rfl, rfl, rfl, Nat.le_refl _, fun _ _ _ => rfl⟩ (fun b hb => .inr hb)
  rw [pR, hex]
  exact Jp t o.type _ ti hu hi base wC.length cap vz pv
 | some ad =>
  have wG : ∀ k v, ys[k]? = some v -> w.cell? (ad.add k) = some v := by
   intro k v hv
   have uH : 0 < n := by
    rcases Nat.eq_zero_or_pos n with h0 | h0
    ·have hk := (List.getElem?_eq_some_iff.1 hv).1
     rw [v9, h0] at hk
     simp at hk
    ·exact h0
   obtain ⟨b, tP, hh, u9⟩ := hb uH
   cases u9
   rcases ma.2 with ⟨nA, _⟩ | ⟨g, rZ, cur, uo, _, ov, vz, uP, uO, ug⟩
   ·rw [hh] at nA; cases nA
   ·rw [hh] at uo; cases uo
    rw [<- nE] at hv
    have h1 := JD _ _ _ _ _ hv
    rw [KI]
    refine Q6 ov _ _ ?_
    rw [<- ug, List.getElem?_take] at h1
    split at h1
    ·exact h1
    ·cases h1
  have fz : ∀ v ∈ ys, v.oneCell' = true := fun v hv => iU v (by rw [<- nE] at hv; exact List.mem_of_mem_drop (List.mem_of_mem_take hv))
  obtain ⟨v', w', e2, wV, wZ, vT, tx⟩ := za (P := P) (w := w) t o.type _ e1 ti z hu hi tO tu (by omega) (a.eval x) wC.length xs wF ad n cap ys v9 wG fz (by simp only [maxLen]; omega) vJ
  refine key v' w' e2 ?_ wZ vT tx
  rw [pR]; exact wV
end
def Fa (w : World) (res : List (List D)) (e : Ending) (w' : World) : Prop :=
 ∃ (vs : List Value) (wh : List (List Value)), e = .returned (kT vs) /\ Below w.heap.size w w' /\ Zg Je vs wh /\ Zg (fun (cs : List Value) (row : List D) => cs.length = row.length) wh res /\
  Xz w' wh.flatten res.flatten (fun b => w.heap.size <= b /\ b < w'.heap.size)
def Yx (P : Program) (f : FuncId) (args res : List (List D)) : Prop :=
 qU P f = true /\ ∀ (T : CS) (w : World) (wq : List Value), (∀ b k, T b k -> b < w.heap.size) -> Zg (fun v row => ∃ cs, Je v cs /\ Zg (Rd T w) cs row) wq args -> Calls P f wq.toArray w (Fa w res)
theorem Ks {α β : Type} {R : α -> β -> Prop} : ∀ {wh : List (List α)} {res : List (List β)}, Zg (fun (cs : List α) (row : List β) => cs.length = row.length) wh res -> (∀ (k : Nat) (x : α) (d : β), wh.flatten[k]? = some x -> res.flatten[k]? = some d -> R x d) -> Zg (fun cs row => Zg R cs row) wh res := by
 intro wh res wD
 induction wD with
 | nil => intro _; exact .nil
 | @cons cs row wh res hl _ ih =>
  intro hk
  refine .cons (Zg.KD hl (fun k x d hx hd => hk k x d ?_ ?_)) (ih (fun k x d hx hd => hk (cs.length + k) x d ?_ ?_))
  ·rw [List.flatten_cons, List.getElem?_append_left (List.getElem?_eq_some_iff.1 hx).1]; exact hx
  ·rw [List.flatten_cons, List.getElem?_append_left (List.getElem?_eq_some_iff.1 hd).1]; exact hd
  ·rw [List.flatten_cons, List.getElem?_append_right (by omega)]; simpa using hx
  ·rw [List.flatten_cons, List.getElem?_append_right (by omega), hl]; simpa using hd
theorem Yx.rd {P : Program} {f : FuncId} {args res : List (List D)} (hs : Yx P f args res) : QE P f false args res := by
 refine ⟨hs.1, fun T w wq hT ha => (hs.2 T w wq hT ha).mono ?_⟩
 rintro e w' ⟨vs, wh, he, hb, hf, hl, ⟨_, Sk, h1, h2, h3⟩⟩
 refine ⟨vs, wh, fun b => w.heap.size <= b /\ b < w'.heap.size, he, hb, fun b hb => hb, hf, Ks hl (fun k x d hx hd => ?_), fun hh => by cases hh⟩
 simp only [Km, Bool.false_eq_true, if_false]
 exact (h1 k x d hx hd).rd (fun b k' hb => .inr (h2 k b hb))
def Zq : List Bool -> List D -> List Ob
 | _, [] => []
 | q :: qs, .sl size rows :: ds => .arr q size rows :: Zq qs ds
 | [], .sl size rows :: ds => .arr true size rows :: Zq [] ds
 | qs, _ :: ds => .none :: Zq qs.tail ds
def J0 : List Bool -> List D -> Prop
 | _, [] => True
 | q :: qs, .sl _ rows :: ds => (q = false -> ∀ r ∈ rows, ∀ x ∈ r, x.scalar = true) /\ J0 qs ds
 | [], .sl _ _ :: ds => J0 [] ds
 | qs, _ :: ds => J0 qs.tail ds
theorem Z5 : ∀ (qs : List Bool) (ds : List D) (k : Nat), J0 qs ds -> (∀ size rows, ds[k]? = some (.sl size rows) -> ∃ q, Zw (Zq qs ds) k = .arr q size rows /\ (q = false -> ∀ r ∈ rows, ∀ x ∈ r, x.scalar = true)) /\ (Zw (Zq qs ds) k ≠ .none -> ∃ size rows, ds[k]? = some (.sl size rows))
 | qs, [], k, _ => ⟨fun size rows h => by simp at h, fun h => by cases qs <;> simp [Zq, Zw] at h⟩
 | q :: qs, .sl size rows :: ds, 0, hf => ⟨fun s r h => by simp at h; obtain ⟨rfl, rfl⟩ := h; exact ⟨q, by simp [Zq, Zw], hf.1⟩, fun _ => ⟨size, rows, by simp⟩⟩
 | [], .sl size rows :: ds, 0, hf => ⟨fun s r h => by simp at h; obtain ⟨rfl, rfl⟩ := h; exact ⟨true, by simp [Zq, Zw], fun h => by cases h⟩, fun _ => ⟨size, rows, by simp⟩⟩
 | qs, .int k n :: ds, 0, hf => ⟨fun s r h => by simp at h, fun h => by cases qs <;> simp [Zq, Zw] at h⟩
 | qs, .bool b :: ds, 0, hf => ⟨fun s r h => by simp at h, fun h => by cases qs <;> simp [Zq, Zw] at h⟩
 | qs, .str s :: ds, 0, hf => ⟨fun s r h => by simp at h, fun h => by cases qs <;> simp [Zq, Zw] at h⟩
 | qs, .unk :: ds, 0, hf => ⟨fun s r h => by simp at h, fun h => by cases qs <;> simp [Zq, Zw] at h⟩
 | q :: qs, .sl size rows :: ds, k + 1, hf => by
  have := Z5 qs ds k hf.2
  simpa [Zq, Zw] using this
 | [], .sl size rows :: ds, k + 1, hf => by
  have := Z5 [] ds k hf
  simpa [Zq, Zw] using this
 | qs, .int _ _ :: ds, k + 1, hf => by
  have := Z5 qs.tail ds k (by cases qs <;> exact hf)
  cases qs <;> simpa [Zq, Zw] using this
 | qs, .bool _ :: ds, k + 1, hf => by
  have := Z5 qs.tail ds k (by cases qs <;> exact hf)
  cases qs <;> simpa [Zq, Zw] using this
 | qs, .str _ :: ds, k + 1, hf => by
  have := Z5 qs.tail ds k (by cases qs <;> exact hf)
  cases qs <;> simpa [Zq, Zw] using this
 | qs, .unk :: ds, k + 1, hf => by
  have := Z5 qs.tail ds k (by cases qs <;> exact hf)
  cases qs <;> simpa [Zq, Zw] using this
section
variable {P : Program} {T0 : CS} {B : Nat -> Prop} {σ : St} {a : Act} {w w' : World} {X X' : Nat -> Prop} {h : Nat -> Nat -> Hd}
theorem MF (r : Rel T0 B σ a w X h) {o : Oper} {c : Call} {f : FuncId} {d : Nat} {rows res : List (List D)} (qs : List Bool) (wA : o.op = .call c) (hc : c.callee = .value (.func f)) (hd : o.dst = some d) (w7 : σ.fresh d = true)
  (wI : XW P σ c.args.toList c.argTypes.toList rows) (hs : Yx P f rows res) (hq : J0 qs res.flatten)
  {K : Act -> World -> Prop} {Q : Exit -> Act -> World -> Prop} (hK : ∀ a' w', X6 T0 B (σ.new d (zu d res) (Zq qs res.flatten)) a' w' -> YQ B w w' -> K a' w') : o.wp P a w K Q := by
 have wO := St.QN w7
 unfold Oper.wp
 rw [xO wA hc hs.1, Oper.upon_enter]
 have pU := r.XW false wI (fun hh => by cases hh)
 simp only [Bool.false_eq_true, if_false] at pU
 refine (hs.2 (Wn T0 X h σ) w _ (fun b k hb => r.OW hb) pU).mono ?_
 rintro e w' ⟨vs, wh, rfl, v5, wc, hlen, ⟨_, Sk, h1, h2, h3⟩⟩
 rw [hd]
 have hex : ∀ j, ∃ hd : Hd, (∀ c, wh.flatten[j]? = some c -> hd.v = c) /\ (∀ size rows, res.flatten[j]? = some (.sl size rows) -> (∀ b, hd.u b -> Sk j b) /\ (∀ b, blk hd.v = some b -> hd.u b) /\ ∀ T h ob, Xs T h ob w' hd (.arr true size rows) /\ ((∀ r ∈ rows, ∀ x ∈ r, x.scalar = true) -> Xs T h ob w' hd (.arr false size rows))) := by
  intro j
  have ve : wh.flatten.length = res.flatten.length := by
   have := Ks (R := fun _ _ => True) hlen (fun _ _ _ _ _ => trivial)
   exact (Kd this).length
  cases hj : res.flatten[j]? with
  | none => exact ⟨Hd.of ((wh.flatten[j]?).getD undef), fun c wu => by simp [Hd.of, wu], fun size rows hh => by cases hh⟩
  | some dd =>
   have se : j < wh.flatten.length := by rw [ve]; exact (List.getElem?_eq_some_iff.1 hj).1
   have rN : wh.flatten[j]? = some wh.flatten[j] := List.getElem?_eq_getElem se
   cases dd with
   | int k n => exact ⟨Hd.of wh.flatten[j], fun c wu => by rw [rN] at wu; cases wu; rfl, fun size rows hh => by cases hh⟩
   | bool k => exact ⟨Hd.of wh.flatten[j], fun c wu => by rw [rN] at wu; cases wu; rfl, fun size rows hh => by cases hh⟩
   | str k => exact ⟨Hd.of wh.flatten[j], fun c wu => by rw [rN] at wu; cases wu; rfl, fun size rows hh => by cases hh⟩
   | unk => exact ⟨Hd.of wh.flatten[j], fun c wu => by rw [rN] at wu; cases wu; rfl, fun size rows hh => by cases hh⟩
   | sl size rows =>
    have ho := h1 j _ _ rN hj
    generalize hv : wh.flatten[j] = v at ho
    cases ho with
    | sl v size rows S e xs pX ho hz hb hl hk ph wP =>
     refine ⟨⟨v, fun k => (xs[k]?).getD undef, Sk j⟩, fun c wu => by rw [rN, hv] at wu; cases wu; rfl, fun wW wK hh => ?_⟩
     cases hh
     refine ⟨fun b hb => hb, hb, fun T h ob => ⟨⟨e, xs, ho, hz, ⟨hl, pX, hk, fun k b hb => ph k b hb, wP⟩, fun k x d hx _ _ => by simp [hx]⟩, fun vd => ⟨e, xs, ho, hz, Zg.KD hl (fun k x d hx hd => ?_)⟩⟩⟩
     obtain ⟨r0, tG, hdr⟩ := List.mem_flatten.1 (List.mem_of_getElem? hd)
     have vN := vd r0 tG d hdr
     have := hk k x d hx hd
     cases this with
     | int k n => exact .int _ _
     | bool b => exact .bool _
     | str s => exact .str _
     | unk v h => exact .unk _ h
     | sl => cases vN
 obtain ⟨hf, rh⟩ := Classical.axiomOfChoice hex
 refine hK _ _ ⟨X, fun t j => if t = d then hf j else h t j, ?_⟩ (YQ.Vy v5 r.hB)
 have wU : ∀ j, (σ.new d (zu d res) (Zq qs res.flatten)).ob d j = Zw (Zq qs res.flatten) j := fun j => by rw [St.Xm]; simp [wO]
 have uQ : Zg (fun cs row => Zg (yJ (Tof T0 X) w') cs row) wh res := by
  refine Ks hlen (fun k x d hx hd => ?_)
  have ho := h1 k x d hx hd
  cases ho with
  | int k n => exact Rd.int _ _
  | bool b => exact Rd.bool _
  | str s => exact Rd.str _
  | unk v h => exact Rd.unk _ h
  | sl v size rows S e xs pX ho hz hb hl hk ph wP => exact ⟨e, xs, ho⟩
 refine r.new w7 (Below.grownBy v5) (fun b hb => hb) (fun b hb => .inl hb) (zu d res) (kT vs) (Zq qs res.flatten) hf ?_ (fun j => ?_) (fun j b wB hb => ?_) (fun j b wB hb => ?_) (fun j j' b wB wv hb wM => ?_)
 ·exact S0 (h := fun t j => if t = d then hf j else h t j) (ob := (σ.new d (zu d res) (Zq qs res.flatten)).ob) (t := d) wc uQ (fun i size rows hi => by
   obtain ⟨q, uT, _⟩ := (Z5 qs res.flatten i hq).1 size rows hi
   exact ⟨q, by rw [wU]; exact uT⟩) (fun i c hi => by simp only [if_true]; exact (rh i).1 c hi)
 ·by_cases wB : Zw (Zq qs res.flatten) j = .none
  ·rw [wB]; trivial
  ·obtain ⟨size, rows, hj⟩ := (Z5 qs res.flatten j hq).2 wB
   obtain ⟨q, uT, mb⟩ := (Z5 qs res.flatten j hq).1 size rows hj
   rw [uT]
   have := ((rh j).2 size rows hj).2.2 (Tof T0 X) (fun t j => if t = d then hf j else h t j) (σ.new d (zu d res) (Zq qs res.flatten)).ob
   cases q with
   | true => exact this.1
   | false => exact this.2 (mb rfl)
 ·obtain ⟨size, rows, hj⟩ := (Z5 qs res.flatten j hq).2 wB
  exact ((rh j).2 size rows hj).2.1 b hb
 ·obtain ⟨size, rows, hj⟩ := (Z5 qs res.flatten j hq).2 wB
  have := h2 j b (((rh j).2 size rows hj).1 b hb)
  exact ⟨this.1, fun hx => by have := (r.hX b hx).2; omega, this.2⟩
 ·obtain ⟨size, rows, hj⟩ := (Z5 qs res.flatten j hq).2 wB
  obtain ⟨wW, wK, ue⟩ := (Z5 qs res.flatten j' hq).2 wv
  exact h3 j j' b (((rh j).2 size rows hj).1 b hb) (((rh j').2 wW wK ue).1 b wM)
end
end Go.Vm
