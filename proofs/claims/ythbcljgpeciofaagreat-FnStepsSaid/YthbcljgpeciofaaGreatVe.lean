/- An abstract machine NW the model of Go, by value, and that it is sound: part Ve. No condition. -/
import Derived.Test.YthbcljgpeciofaaGreatVd
set_option linter.unusedVariables false
set_option linter.unusedSimpArgs false
namespace Go.Vm
open Go.RowKit
section
variable {P : Program} {σ : St} {k : Fr}
end
end Go.Vm
namespace Go.Vm
open Go.RowKit
def Ch (σ : St) : V -> Option Nat
 | .one (.d (.sl _ rows)) => some rows.length
 | .one (.sref t j _ len) => (match σ.ob t j with | .arr _ _ _ => some len | _ => none)
 | .fix _ (.one (.sref t j _ len)) => (match σ.ob t j with | .arr _ _ _ => some len | _ => none)
 | _ => none
def jL (σ : St) : Prop := ∀ t n, Ch σ (σ.get t) = some n -> n <= 9223372036854775807
theorem BH {T : CS} {h : Nat -> Nat -> Hd} {σ : St} {w : World} : ∀ {v : V} {val : Value} {n : Nat}, Ch σ v = some n -> QI T h σ.ob w v val -> n <= maxLen
 | .one (.d (.sl s rows)), val, n, hn, hv => by
  simp only [Ch] at hn
  cases hn
  obtain ⟨base, cap, _, h1, h2⟩ := Fq (r := (show Rd T w val (.sl s rows) from hv))
  omega
 | .one (.sref u j lo len), val, n, hn, hv => by
  simp only [Ch] at hn
  split at hn
  ·rename_i q s rows ho
   cases hn
   have hh := (show YD T h σ.ob w (.sref u j lo len) val from hv).2.1 _ _ _ ho
   obtain ⟨_, _, _, base, cap, _, h1, h2, _⟩ := hh
   omega
  ·cases hn
 | .fix u0 (.one (.sref u j lo len)), val, n, hn, hv => by
  simp only [Ch] at hn
  split at hn
  ·rename_i q s rows ho
   cases hn
   have hh := (show YD T h σ.ob w (.sref u j lo len) val from hv.2).2.1 _ _ _ ho
   obtain ⟨_, _, _, base, cap, _, h1, h2, _⟩ := hh
   omega
  ·cases hn
theorem Gj {T0 : CS} {B : Nat -> Prop} {σ : St} {a : Act} {w : World} (r : JZ T0 B σ a w) : jL σ := by
 obtain ⟨X, h, r⟩ := r
 intro t n hn
 exact BH hn (r.get t)
theorem Ie {P : Program} {c : Code} {Q : Exit -> St -> Prop} {σ : St} (h : jL σ -> AWP P c Q σ) : AWP P c Q σ := fun T0 B a w r => h (Gj r) T0 B a w r
section
variable {P : Program} {σ : St} {k : Fr}
theorem Ar {b : Bool} {x y : yg} (ht : jL σ -> b = true -> @WI P σ x k) (hf : jL σ -> b = false -> @WI P σ y k) : @CI P b σ x y k :=
 ⟨fun h => Ie fun hk => kv (ht hk h), fun h => Ie fun hk => kv (hf hk h)⟩
theorem PQ {b c : Bool} {x y : yg} (hc : c = b) (ht : jL σ -> c = true -> @WI P σ x k) (hf : jL σ -> c = false -> @WI P σ y k) : @CI P b σ x y k := by
 subst hc; exact Ar ht hf
theorem okL {c : yg} (h : jL σ -> @S4 P σ c k) : @S4 P σ c k := Ie h
theorem okD {id : Nat} {A : JP} (h : jL σ -> @DI P id σ A k) : @DI P id σ A k := Ie h
def Ra : Op -> Bool
 | .call _ => true
 | _ => false
theorem N1 {A : JP} {o : OpI} {l : Js} {j dj d : Nat} {want g : Bool} (uA : Ra o.o.op = false) (hg : o.o.guard = some (j, want)) (hd : o.o.dst = some d)
  (tx : (A.ops[j]?).bind (·.dst) = some dj) (sE : y8 want (σ.get dj) = some g) (uL : dj < σ.length)
  (ht : g = true -> ((evV P σ o.o.op o.o.type).1 /\ gOf (evV P σ o.o.op o.o.type).2 = true /\ (unc (evV P σ o.o.op o.o.type).2).flat = true) /\ @EI P (σ.put d (.cnd true (unc (evV P σ o.o.op o.o.type).2))) A l k)
  (hf : g = false -> @EI P (σ.put d (.cnd false .any)) A l k) : @SI P σ A o l k := by
 have step : ∀ v, (g = true -> (evV P σ o.o.op o.o.type).1 /\ gOf (evV P σ o.o.op o.o.type).2 = true /\ v = unc (evV P σ o.o.op o.o.type).2 /\ v.flat = true) -> Yz P A.ops o.o σ (σ.put d (.cnd g v)) := by
  intro v hv
  unfold Yz
  simp only [hg]
  refine ⟨dj, d, g, v, tx, uL, hd, sE, fun nh => ?_, rfl⟩
  obtain ⟨h1, h2, h3, h4⟩ := hv nh
  have base : ∃ v0, YJ P σ o.o.op o.o.type v0 /\ gOf v0 = true /\ v = unc v0 /\ v.flat = true := ⟨_, G5 h1, h2, h3, h4⟩
  unfold PB
  split
  ·rename_i c hc; rw [hc] at uA; cases uA
  ·exact base
 cases g with
 | true =>
  obtain ⟨⟨h1, h2, h3⟩, h4⟩ := ht rfl
  exact ⟨_, .inl (step _ fun _ => ⟨h1, h2, rfl, h3⟩), Qj h4⟩
 | false => exact ⟨_, .inl (step .any (fun h => by cases h)), Qj (hf rfl)⟩
end
theorem B2 {P : Program} {σ : St} {k : Fr} {A : JP} {o : OpI} {l : Js} {j dj d : Nat} {want g : Bool} (hg : o.o.guard = some (j, want)) (hd : o.o.dst = some d)
  (tx : (A.ops[j]?).bind (·.dst) = some dj) (sE : y8 want (σ.get dj) = some g) (uL : dj < σ.length) (l3 : g = false)
  (h : @EI P (σ.put d (.cnd false .any)) A l k) : @SI P σ A o l k := by
 subst l3
 refine ⟨_, .inl ?_, Qj h⟩
 unfold Yz
 simp only [hg]
 exact ⟨dj, d, false, .any, tx, uL, hd, sE, (fun h => by cases h), rfl⟩
def nth {α : Type} [Inhabited α] (l : List α) (i : Nat) : α := l.getD i default
theorem ZE {α : Type} [Inhabited α] {f : α -> List D} {l : List α} {i : Nat} (h : i < l.length) : rowAt (l.map f) i = f (nth l i) := by
 simp [rowAt, nth, h]
theorem XW {α : Type} {f : α -> List D} {l : List α} {i : Nat} {x : α} {r : List D} (h : r = f x) : (l.map f).set i r = (l.set i x).map f := by
 rw [h, List.map_set]
abbrev W (x : Int) : Int := IntKind.i64.wrap x
theorem Yg {x : Int} (h1 : -9223372036854775808 <= x) (h2 : x <= 9223372036854775807) : IntKind.i64.wrap x = x := by
 have hr : IntKind.i64.min <= x /\ x <= IntKind.i64.max := by
  constructor
  ·show -9223372036854775808 <= x; exact h1
  ·show x <= 9223372036854775807; exact h2
 simp only [IntKind.wrap]
 first
  | (simp [IntKind.bits, IntKind.signed]; omega)
  | omega
theorem KM (i : Nat) : ((i : Int) - 1).toNat = i - 1 := by omega
attribute [simp] St.fresh Km V.ref V.SQ Yh WS
end Go.Vm
namespace Go.Vm
open Go.RowKit
attribute [simp] St.AK IG FA At.we Al
section
variable {P : Program} {σ : St} {k : Fr}
end
end Go.Vm
namespace Go.Vm
open Go.RowKit
def At.isP (t : Nat) : At -> Bool
 | .tref u _ _ _ _ => u == t
 | .ptr u _ _ _ => u == t
 | _ => false
section
variable {P : Program} {T0 : CS} {B : Nat -> Prop} {σ : St} {a : Act} {w w' : World} {X X' : Nat -> Prop} {h : Nat -> Nat -> Hd}
theorem Rel.Ad (r : Rel T0 B σ a w X h) {t : Nat} {size : Nat} {rows : List (List At)} {news : List (List D)} {L : List (Nat × Nat)} (ho : σ.ob t 0 = .lit size rows) (sh : JL σ rows = some news) (uW : Qv σ rows)
  (hL : XL rows.flatten = L) (tL : L.Nodup) (lV : (t, 0) ∉ L) (hp : (σ.Zx L).zT (At.isP t) = false) : JZ T0 B ((σ.Zx L).Zs t 0 (.arr true size news)) a w := by
 have uX : σ.ob t 0 ≠ .none := by rw [ho]; simp
 have h0 := r.obj t 0
 rw [ho] at h0
 obtain ⟨e, xs, rG, hz, uF⟩ := h0
 obtain ⟨gl, mg, dU⟩ := zd sh
 have uG := N0 r uF gl (zS uW) (by rw [hL]; exact tL)
 rw [hL] at uG
 have r1 := r.Zx L
 have ug := r.y4 L
 have s9 : ∀ b', (h t 0).u b' -> Qz σ h L b' -> False := by
  rintro b' sH ⟨p, mY, uD, gY⟩
  obtain ⟨q1, q2⟩ := r.inj t 0 p.1 p.2 b' uX uD sH gY
  exact lV (by rw [q1, q2]; exact mY)
 have rp : (σ.Zx L).ob t 0 = .lit size rows := by rw [St.KV, if_neg lV, ho]
 have nj : (σ.Zx L).ob t 0 ≠ .none := by rw [rp]; simp
 have tQ : ∀ u i, ¬ (u = t /\ i = 0) -> ((σ.Zx L).Zs t 0 (.arr true size news)).ob u i = (σ.Zx L).ob u i := by
  intro u i uD
  rw [St.Xj _ t 0 _ u i nj, if_neg uD]
 have tI : ((σ.Zx L).Zs t 0 (.arr true size news)).ob t 0 = .arr true size news := by rw [St.Xj _ t 0 _ t 0 nj]; simp
 generalize hσ : (σ.Zx L).Zs t 0 (.arr true size news) = σ2 at *
 generalize hσ1 : σ.Zx L = σ1 at *
 have hlen : σ2.length = σ1.length := by rw [<- hσ, St.Y3]
 have tO : ∀ u, σ2.get u = σ1.get u := fun u => by rw [<- hσ, St.Xl]
 let uM : Hd := ⟨(h t 0).v, fun k => (xs[k]?).getD undef, fun b => (h t 0).u b \/ Qz σ h L b⟩
 let h' : Nat -> Nat -> Hd := fun u i => if u = t /\ i = 0 then uM else h u i
 have pH : ∀ u i, ¬ (u = t /\ i = 0) -> h' u i = h u i := fun u i uD => if_neg uD
 have l7 : h' t 0 = uM := by simp [h']
 have hv : ∀ u i, (h' u i).v = (h u i).v := by
  intro u i
  by_cases hc : u = t /\ i = 0
  ·obtain ⟨rfl, rfl⟩ := hc; rw [l7]
  ·rw [pH u i hc]
 have at_ : ∀ {x : At} {v : Value}, At.isP t x = false -> YD (Tof T0 X) h σ1.ob w x v -> YD (Tof T0 X) h' σ2.ob w x v := by
  intro x v lW rx
  cases x with
  | any => exact rx
  | d x => exact rx
  | nil s => exact rx
  | sref u i lo len =>
   refine ⟨rx.1, fun q s rws hq => ?_, fun s rws hq => ?_⟩
   ·by_cases hc : u = t /\ i = 0
    ·obtain ⟨rfl, rfl⟩ := hc
     rw [tI] at hq; cases hq
     rw [hv, <- mg]; exact rx.2.2 _ _ rp
    ·rw [tQ u i hc] at hq; rw [hv]; exact rx.2.1 _ _ _ hq
   ·by_cases hc : u = t /\ i = 0
    ·obtain ⟨rfl, rfl⟩ := hc
     rw [tI] at hq; cases hq
    ·rw [tQ u i hc] at hq; rw [hv]; exact rx.2.2 _ _ hq
  | ptr u i k c =>
   refine ⟨rx.1, fun q s rws hq => ?_⟩
   have hc : ¬ (u = t /\ i = 0) := fun hc => by simp [At.isP, hc.1] at lW
   rw [tQ u i hc] at hq; rw [hv]; exact rx.2 _ _ _ hq
  | bptr u c =>
   refine ⟨rx.1, fun cells hq => ?_⟩
   by_cases hc : u = t
   ·subst hc; rw [tI] at hq; cases hq
   ·rw [tQ u 0 (fun hh => hc hh.1)] at hq; rw [hv]; exact rx.2 _ hq
  | fn f u =>
   refine ⟨rx.1, fun cells hq => ?_⟩
   by_cases hc : u = t
   ·subst hc; rw [tI] at hq; cases hq
   ·rw [tQ u 0 (fun hh => hc hh.1)] at hq; rw [hv]; exact rx.2 _ hq
  | tref u i k c o =>
   refine ⟨rx.1, fun s rws hq => ?_⟩
   have hc : ¬ (u = t /\ i = 0) := fun hc => by simp [At.isP, hc.1] at lW
   rw [tQ u i hc] at hq; rw [pH u i hc]; exact rx.2 _ _ hq
  | rptr rr c => exact rx
 have tR : ∀ u i, σ2.ob u i ≠ .none -> σ1.ob u i ≠ .none := by
  intro u i hn
  by_cases hc : u = t /\ i = 0
  ·obtain ⟨rfl, rfl⟩ := hc; exact nj
  ·rw [tQ u i hc] at hn; exact hn
 refine ⟨X, h', by rw [r1.size, hlen], r1.defers, r1.hB, r1.hX, r1.hT, fun u hu => ?_, fun u i => ?_, fun u i b hn hb => ?_, fun u i b hn hb => ?_, fun u i u' i' b hn u7 hb uS => ?_⟩
 ·rw [hlen] at hu
  rw [tO]; exact QI.map at_ (St.Np hp u) (r1.slot u hu)
 ·by_cases hc : u = t /\ i = 0
  ·obtain ⟨rfl, rfl⟩ := hc
   rw [tI, l7]
   refine ⟨e, xs, by rw [<- mg]; exact rG, dU size hz, uG.mono (fun b hb => ⟨.inr hb, fun rJ => s9 b (r.ub u 0 b uX rJ) hb⟩), fun k x d hx _ _ => by simp [uM, hx]⟩
  ·rw [tQ u i hc, pH u i hc]
   exact JA.map at_ (fun b k v hb hc => ⟨hc, hb⟩) (fun ho b => r1.ub u i b ho) (fun _ _ _ => rfl) (St.I2 hp u i) (r1.obj u i)
 ·by_cases hc : u = t /\ i = 0
  ·obtain ⟨rfl, rfl⟩ := hc
   rw [l7] at hb ⊢; exact .inl (r.ub u 0 b uX hb)
  ·rw [pH u i hc] at hb ⊢; exact r1.ub u i b (tR u i hn) hb
 ·by_cases hc : u = t /\ i = 0
  ·obtain ⟨rfl, rfl⟩ := hc
   rw [l7] at hb
   rcases hb with hb | hb
   ·exact r.own u 0 b uX hb
   ·have := ug b hb; exact ⟨this.1, this.2.1, this.2.2.1⟩
  ·rw [pH u i hc] at hb; exact r1.own u i b (tR u i hn) hb
 ·have key : ∀ u i b, ¬ (u = t /\ i = 0) -> σ1.ob u i ≠ .none -> (h u i).u b -> (h' t 0).u b -> False := by
   intro u i b hc hn hb uS
   rw [l7] at uS
   rcases uS with uS | uS
   ·exact hc (r1.inj u i t 0 b hn nj hb uS)
   ·exact (ug b uS).2.2.2 u i hn hb
  by_cases hc : u = t /\ i = 0
  ·by_cases ux : u' = t /\ i' = 0
   ·exact ⟨hc.1.trans ux.1.symm, hc.2.trans ux.2.symm⟩
   ·obtain ⟨rfl, rfl⟩ := hc
    rw [pH u' i' ux] at uS
    exact (key u' i' b ux (tR u' i' u7) uS hb).elim
  ·rw [pH u i hc] at hb
   by_cases ux : u' = t /\ i' = 0
   ·obtain ⟨rfl, rfl⟩ := ux
    exact (key u i b hc (tR u i hn) hb uS).elim
   ·rw [pH u' i' ux] at uS
    exact r1.inj u i u' i' b (tR u i hn) (tR u' i' u7) hb uS
end
section
variable {P : Program} {σ : St} {k : Fr}
theorem Bs {A : JP} {o : OpI} {l : Js} {d : Nat} {T : TypeId} {n : Nat} {parts : Array (Nat × Operand)} {news : List (List D)} {L : List (Nat × Nat)} (uA : o.o.op = .buildSlice T n parts) (hg : o.o.guard = none) (hd : o.o.dst = some d) (uv : A.bar o.o = true)
  (h1 : (σ.fresh d = true /\ d < σ.length) /\ Yq P T = true /\ XX P (ZP P T) = true /\ 0 < P.cellsOf (ZP P T) /\ parts.toList.length = n /\ n * P.cellsOf (ZP P T) <= 16777216) (h2 : (Jn P σ (ZP P T) (P.cellsOf (ZP P T)) parts.toList 0).1)
  (h3 : YF d (Jn P σ (ZP P T) (P.cellsOf (ZP P T)) parts.toList 0).2.flatten = false)
  (h4 : JL (σ.new d (.one (.sref d 0 0 (Jn P σ (ZP P T) (P.cellsOf (ZP P T)) parts.toList 0).2.length)) [.lit (P.cellsOf (ZP P T)) (Jn P σ (ZP P T) (P.cellsOf (ZP P T)) parts.toList 0).2]) (Jn P σ (ZP P T) (P.cellsOf (ZP P T)) parts.toList 0).2 = some news /\
   Qv (σ.new d (.one (.sref d 0 0 (Jn P σ (ZP P T) (P.cellsOf (ZP P T)) parts.toList 0).2.length)) [.lit (P.cellsOf (ZP P T)) (Jn P σ (ZP P T) (P.cellsOf (ZP P T)) parts.toList 0).2]) (Jn P σ (ZP P T) (P.cellsOf (ZP P T)) parts.toList 0).2)
  (h5 : XL (Jn P σ (ZP P T) (P.cellsOf (ZP P T)) parts.toList 0).2.flatten = L /\ L.Nodup /\ (d, 0) ∉ L)
  (h6 : ((σ.new d (.one (.sref d 0 0 (Jn P σ (ZP P T) (P.cellsOf (ZP P T)) parts.toList 0).2.length)) [.lit (P.cellsOf (ZP P T)) (Jn P σ (ZP P T) (P.cellsOf (ZP P T)) parts.toList 0).2]).Zx L).zT (At.isP d) = false)
  (h : @EI P (((σ.new d (.one (.sref d 0 0 (Jn P σ (ZP P T) (P.cellsOf (ZP P T)) parts.toList 0).2.length)) [.lit (P.cellsOf (ZP P T)) (Jn P σ (ZP P T) (P.cellsOf (ZP P T)) parts.toList 0).2]).Zx L).Zs d 0 (.arr true (P.cellsOf (ZP P T)) news)) A l k) : @SI P σ A o l k := by
 refine ⟨_, .inr ⟨uv, ?_, fun d' uM hc => QN (JW (jc (fun e => uM (by rw [hd, e])) hc)), fun hh => by simp [WC, uA] at hh, fun hh => by first | (simp [je, uA] at hh; done) | (unfold je at hh; rw [uA] at hh; split at hh <;> simp_all), fun hh _ => by first | (simp [Jp, uA] at hh; done) | (unfold Jp at hh; rw [uA] at hh; split at hh <;> simp_all)⟩, Qj h⟩
 rintro T0 B a w K Q' ⟨X, hh, r⟩ hK
 have hw : Region.wanted o.o (yielded A.ops a.tmps) = true := by simp [Region.wanted, hg]
 rw [if_pos hw]
 refine Vr r uA hd h1.1.1 h1.2.1 h1.2.2.1 h1.2.2.2.1 h1.2.2.2.2.1 h1.2.2.2.2.2 (Ni h2) h3 (fun a' w' hr l4 => hK a' w' ?_ l4)
 obtain ⟨X', pH, r'⟩ := hr
 exact Rel.Ad r' (by rw [St.Qu, if_pos ⟨rfl, h1.1.2⟩]; rfl) h4.1 h4.2 h5.1 h5.2.1 h5.2.2 h6
end
attribute [simp] At.isP
theorem YP.own {P : Program} {f : FuncId} {args res : List (List D)} (hs : YP P f args res) : QB P f true args res := by
 refine ⟨hs.1, fun T w uu hT ha => (hs.2 T w uu hT ha).mono ?_⟩
 rintro e w' ⟨vs, uj, he, hb, hf, hl, ⟨hlen, Sk, h1, h2, h3⟩⟩
 refine ⟨vs, uj, fun b => (w.heap.size <= b /\ b < w'.heap.size) /\ ∀ (k : Nat) (c : Value) (d : D), uj.flatten[k]? = some c -> res.flatten[k]? = some d -> d.scalar = false -> blk c ≠ some b, he, hb, fun b hb => hb.1, hf, yW hl (fun k x d hx hd => ?_), fun _ => ⟨fun i c d b hc hd tJ nc => ?_, fun i j c c' d d' b hc hd ux uM tJ mh nc gr => ?_⟩⟩
 ·simp only [yO, if_true]
  have ho := h1 k x d hx hd
  cases ho with
  | int k n => exact .int _ _
  | bool b => exact .bool _
  | str s => exact .str _
  | unk v h => exact .unk _ h
  | sl v size rows S e' xs nU ho hz uS dg hk ng uM =>
   refine ⟨e', xs, ho, hz, Zy.zo dg (fun i y dd hy rH => (hk i y dd hy rH).rd (fun b k' hb => .inr ⟨h2 k b (ng i b hb).1, fun k2 c2 d2 pk pa ni l5 => ?_⟩))⟩
   have sL := h1 k2 c2 d2 pk pa
   have nT : Sk k2 b := by
    cases sL with
    | int k n => cases ni
    | bool b => cases ni
    | str s => cases ni
    | unk => cases ni
    | sl v2 mA mB S2 e2 eK eM sL mW u4 ov oW uK l8 => exact u4 b l5
   have := h3 k k2 b (ng i b hb).1 nT
   subst this
   rw [hx] at pk; cases pk
   exact (ng i b hb).2 l5
 ·have sL := h1 i c d hc hd
  have nT : Sk i b := by
   cases sL with
   | int k n => cases tJ
   | bool b => cases tJ
   | str s => cases tJ
   | unk => cases tJ
   | sl v2 mA mB S2 e2 eK eM sL mW u4 ov oW uK l8 => exact u4 b nc
  have := h2 i b nT
  exact ⟨this.1, this.2, fun hy => hy.2 i c d hc hd tJ nc⟩
 ·have nT : ∀ (i : Nat) (c : Value) (d : D), uj.flatten[i]? = some c -> res.flatten[i]? = some d -> d.scalar = false -> blk c = some b -> Sk i b := by
   intro i c d hc hd tJ nc
   have sL := h1 i c d hc hd
   cases sL with
   | int k n => cases tJ
   | bool b => cases tJ
   | str s => cases tJ
   | unk => cases tJ
   | sl v2 mA mB S2 e2 eK eM sL mW u4 ov oW uK l8 => exact u4 b nc
  exact h3 i j b (nT i c d hc hd tJ nc) (nT j c' d' ux uM mh gr)
end Go.Vm
namespace Go.Vm
open Go.RowKit
def Lg (σ : St) (F : List (Nat × Nat)) : At -> At
 | .sref t j lo len => if inF F t j then (match σ.ob t j with | .arr _ s rows => .d (.sl s (cut rows lo len)) | _ => .any) else .sref t j lo len
 | .ptr t j i c => if inF F t j then .any else .ptr t j i c
 | .tref t j i c o => if inF F t j then .any else .tref t j i c o
 | x => x
def wH (σ : St) (F : List (Nat × Nat)) : V -> V
 | .one x => .one (Lg σ F x)
 | .agg xs => .agg (xs.map (Lg σ F))
 | .fix u (.one x) => .fix u (.one (Lg σ F x))
 | .fix u (.agg xs) => .fix u (.agg (xs.map (Lg σ F)))
 | _ => .any
def By (σ : St) (F : List (Nat × Nat)) (t j : Nat) (o : Ob) : Ob :=
 if inF F t j then .none else match o with | .box cs => .box (cs.map (Lg σ F)) | .lit _ _ => .none | o => o
def FZ (σ : St) (F : List (Nat × Nat)) (t : Nat) : List Ob -> Nat -> List Ob
 | [], _ => []
 | o :: os, j => By σ F t j o :: FZ σ F t os (j + 1)
def Ss (σ : St) (F : List (Nat × Nat)) : List Ent -> Nat -> List Ent
 | [], _ => []
 | e :: es, t => (wH σ F e.1, FZ σ F t e.2 0) :: Ss σ F es (t + 1)
def St.frz (σ : St) (F : List (Nat × Nat)) : St := Ss σ F σ 0
theorem Lj {F : List (Nat × Nat)} : ∀ {σ0 : St} {es : List Ent} {t d : Nat}, Xb es d = true -> Xb (Ss σ0 F es t) d = true
 | σ0, [], t, d, h => by simp [Xb] at h
 | σ0, e :: es, t, 0, h => by
  rw [yG] at h ⊢
  rcases h with h | ⟨x, h⟩
  ·left; simp only [List.getElem?_cons_zero, Option.some.injEq] at h; subst h; rfl
  ·right; simp only [List.getElem?_cons_zero, Option.some.injEq] at h; subst h; exact ⟨x, rfl⟩
 | σ0, e :: es, t, d + 1, h => by
  have : Xb es d = true := by rw [yG] at h ⊢; simpa using h
  have := Lj (F := F) (σ0 := σ0) (es := es) (t := t + 1) this
  rw [yG] at this ⊢
  simpa [Ss] using this
section
variable {P : Program} {σ : St} {k : Fr}
theorem wN {A : JP} {o : OpI} {l : Js} {σ' : St} (uv : A.bar o.o = true) (hw : Wk σ σ') (hc : ∀ d, Xb σ d = true -> Xb σ' d = true) (pc : WC o.o = false) (gq : je o.o = false) (ri : Jp P o.o = false \/ TX A.bar o.o = false) (h : @SI P σ' A o l k) : @SI P σ A o l k := by
 obtain ⟨σ'', hs, hr⟩ := h
 refine ⟨σ'', .inr ⟨uv, fun T0 B a w K Q tj hK => Vt hs T0 B a w K Q (hw T0 B a w tj) hK, fun d hd uk => ?_, fun hh => (by rw [pc] at hh; cases hh), fun hh => (by rw [gq] at hh; cases hh), fun hh ho => (by rcases ri with ri | ri <;> (first | (rw [ri] at hh; cases hh) | (rw [ri] at ho; cases ho)))⟩, hr⟩
 have h1 := hc d uk
 rcases hs with hs | hs
 ·exact NN hs hd h1
 ·exact hs.2.2.1 d hd h1
theorem Hi {A : JP} {o : OpI} {l : Js} (F : List (Nat × Nat)) (uv : A.bar o.o = true) (hw : V2 σ [] F σ (σ.frz F) 0) (h : @SI P (σ.frz F) A o l k) (pc : WC o.o = false := by exact rfl) (gq : je o.o = false := by exact rfl) (ri : Jp P o.o = false \/ TX A.bar o.o = false := by first | exact .inl rfl | exact .inr rfl) : @SI P σ A o l k :=
 wN uv (XI [] F rfl hw) (fun _ hd => Lj hd) pc gq ri h
end
attribute [simp] Lg wH By FZ Ss St.frz
end Go.Vm
namespace Go.Vm
end Go.Vm
namespace Go.Vm
end Go.Vm
namespace Go.Vm
open Go.RowKit
abbrev ptr (b : Nat) : Value := .pointer (some ⟨b, 0, none⟩)
abbrev Ge (T : CS) (w : World) (uu : List Value) (args : List (List D)) : Prop := Zy (fun v row => ∃ cs, Ku v cs /\ Zy (Rd T w) cs row) uu args
def yj (n : Nat) (pre : List (List D)) (v : Value) (cells : List At) (sF : List Ob) (post : List (List D)) : St :=
 T6 pre ++ (.fix v (.one (.bptr pre.length 0)), .box cells :: sF) :: (T6 post ++ List.replicate (n - (pre.length + 1 + post.length)) (V.any, []))
section
variable {P : Program} {T0 : CS} {B : Nat -> Prop} {σ : St} {a : Act} {w w' : World} {X X' : Nat -> Prop} {h : Nat -> Nat -> Hd}
theorem DJ (post : List (List D)) (m t : Nat) : ∃ x, (match (T6 post ++ List.replicate m ((V.any, []) : Ent))[t]? with | some e => e | none => (V.any, [])) = (x, []) /\ (x = .any \/ ∃ r, post[t]? = some r /\ x = vOf (r.map .d)) := by
 rcases Nat.lt_or_ge t post.length with h | h
 ·rw [List.getElem?_append_left (by rw [QL]; exact h), UU, List.getElem?_eq_getElem h]
  exact ⟨_, rfl, .inr ⟨_, rfl, rfl⟩⟩
 ·rw [List.getElem?_append_right (by rw [QL]; exact h), List.getElem?_replicate]
  refine ⟨.any, ?_, .inl rfl⟩
  split
  ·rename_i e he
   split at he
   ·cases he; rfl
   ·cases he
  ·rfl
theorem CD (n : Nat) (pre : List (List D)) (v : Value) (cells : List At) (sF : List Ob) (post : List (List D)) (t : Nat) :
  (t = pre.length /\ (yj n pre v cells sF post)[t]? = some (.fix v (.one (.bptr pre.length 0)), .box cells :: sF)) \/
  (t ≠ pre.length /\ (∀ j, (yj n pre v cells sF post).ob t j = .none) /\ ((yj n pre v cells sF post).get t = .any \/ ∃ r, (yj n pre v cells sF post).get t = vOf (r.map .d) /\ ((t < pre.length /\ pre[t]? = some r) \/ (pre.length < t /\ post[t - pre.length - 1]? = some r)))) := by
 rcases Nat.lt_trichotomy t pre.length with h | h | h
 ·refine .inr ⟨by omega, ?_⟩
  have : (yj n pre v cells sF post)[t]? = some (vOf (pre[t].map .d), []) := by
   unfold yj
   rw [List.getElem?_append_left (by rw [QL]; exact h), UU, List.getElem?_eq_getElem h]; rfl
  refine ⟨fun j => by unfold St.ob; rw [this]; simp [YS], .inr ⟨pre[t], by unfold St.get; rw [this], .inl ⟨h, List.getElem?_eq_getElem h⟩⟩⟩
 ·refine .inl ⟨h, ?_⟩
  unfold yj
  rw [List.getElem?_append_right (by rw [QL]; omega), QL, h, Nat.sub_self]; rfl
 ·refine .inr ⟨by omega, ?_⟩
  have e1 : (yj n pre v cells sF post)[t]? = (T6 post ++ List.replicate (n - (pre.length + 1 + post.length)) ((V.any, []) : Ent))[t - pre.length - 1]? := by
   unfold yj
   rw [List.getElem?_append_right (by rw [QL]; omega), QL, show t - pre.length = (t - pre.length - 1) + 1 by omega, List.getElem?_cons_succ]; rfl
  obtain ⟨x, hx, hr⟩ := DJ post (n - (pre.length + 1 + post.length)) (t - pre.length - 1)
  rw [<- e1] at hx
  constructor
  ·intro j
   unfold St.ob
   cases hq : (yj n pre v cells sF post)[t]? with
   | none => rfl
   | some e => rw [hq] at hx; simp only at hx; rw [hx]; simp [YS]
  ·have hg : (yj n pre v cells sF post).get t = x := by
    unfold St.get
    cases hq : (yj n pre v cells sF post)[t]? with
    | none => rw [hq] at hx; simp only at hx; injection hx
    | some e => rw [hq] at hx; simp only at hx; rw [hx]
   rcases hr with rfl | ⟨r, hr, rfl⟩
   ·exact .inl hg
   ·exact .inr ⟨r, hg, .inr ⟨h, hr⟩⟩
theorem EZ {T : CS} {S : Nat -> Prop} {n b : Nat} {pre post : List (List D)} {cells : List At} {sF : List Ob} {tr sJ : List Value} (hd : Nat -> Hd)
  (hT : ∀ k i, T k i -> k < w.heap.size /\ k ≠ b /\ ¬ S k) (hS : ∀ k, S k -> k < w.heap.size /\ k ≠ b) (hb : b < w.heap.size) (h0 : hd 0 = Hd.of (ptr b))
  (sX : ∀ (h : Nat -> Nat -> Hd) (ob : Nat -> Nat -> Ob), (∀ j, h pre.length j = hd j) -> (∀ j, ob pre.length j = YS (.box cells :: sF) j) -> JA (Tof T (fun _ => False)) h ob w (hd 0) (.box cells))
  (tQ : ∀ (h : Nat -> Nat -> Hd) (ob : Nat -> Nat -> Ob) (j : Nat), JA (Tof T (fun _ => False)) h ob w (hd (j + 1)) (YS sF j))
  (tY : ∀ j k, YS sF j ≠ .none -> blk (hd (j + 1)).v = some k -> (hd (j + 1)).u k) (uG : ∀ j k, YS sF j ≠ .none -> (hd (j + 1)).u k -> S k)
  (og : ∀ i j k, YS sF i ≠ .none -> YS sF j ≠ .none -> (hd (i + 1)).u k -> (hd (j + 1)).u k -> i = j) (lT : Ge T w tr pre) (fz : Ge T w sJ post) :
  JZ T (fun k => k < w.heap.size /\ k ≠ b /\ ¬ S k) (yj n pre (ptr b) cells sF post) { tmps := (tr ++ ptr b :: sJ).toArray ++ Array.replicate (n - (tr ++ ptr b :: sJ).toArray.size) undef, defers := [] } w := by
 have lS := lT.length
 have ov := fz.length
 have rj := CD n pre (ptr b) cells sF post
 have tF : ∀ j, (yj n pre (ptr b) cells sF post).ob pre.length j = YS (.box cells :: sF) j := by
  intro j
  rcases rj pre.length with ⟨_, h⟩ | ⟨h, _⟩
  ·unfold St.ob; rw [h]
  ·exact absurd rfl h
 have nB : ∀ t j, (yj n pre (ptr b) cells sF post).ob t j ≠ .none -> t = pre.length := by
  intro t j hn
  rcases rj t with ⟨h, _⟩ | ⟨_, h, _⟩
  ·exact h
  ·exact absurd (h j) hn
 have oa : ∀ b k v, T b k -> w.cell? ⟨b, k, none⟩ = some v -> w.cell? ⟨b, k, none⟩ = some v /\ Tof T (fun _ => False) b k := fun b k v hb hc => ⟨hc, .inl hb⟩
 have gy : ∀ k, (hd 0).u k ↔ k = b := fun k => by rw [h0]; simp [Hd.of, blk, eq_comm]
 have sO : ∀ j, YS (.box cells :: sF) j ≠ .none -> (j = 0 \/ ∃ i, j = i + 1 /\ YS sF i ≠ .none) := by
  intro j hn
  cases j with
  | zero => exact .inl rfl
  | succ j => exact .inr ⟨j, rfl, by rw [Rv] at hn; exact hn⟩
 have da : ∀ j k, YS (.box cells :: sF) j ≠ .none -> (hd j).u k -> k = b \/ S k := by
  intro j k hn hu
  rcases sO j hn with rfl | ⟨i, rfl, hi⟩
  ·exact .inl ((gy k).1 hu)
  ·exact .inr (uG i k hi hu)
 have n7 : ∀ {uu : List Value} {args : List (List D)} {t : Nat} {r : List D}, Ge T w uu args -> args[t]? = some r -> ∃ v, uu[t]? = some v /\ QI (Tof T (fun _ => False)) (fun t j => if t = pre.length then hd j else Hd.of undef) (yj n pre (ptr b) cells sF post).ob w (vOf (r.map .d)) v := by
  intro uu args t r ha hr
  obtain ⟨v, hv, cs, hf, uF⟩ := ha.get' t r hr
  exact ⟨v, hv, (Oi hf (jX (uF.imp fun _ _ => Rd.mono oa))).up⟩
 refine ⟨fun _ => False, fun t j => if t = pre.length then hd j else Hd.of undef, ?_⟩
 refine ⟨?_, rfl, (fun k hk => hk.1), (fun b hb => hb.elim), (fun k i hk => hT k i hk), fun t ht => ?_, fun t j => ?_, fun t j k hn hk => ?_, fun t j k hn hk => ?_, fun t j t' j' k hn u7 hk nV => ?_⟩
 ·simp [yj, QL, lS, ov]; omega
 ·rcases rj t with ⟨rfl, h⟩ | ⟨uD, _, h⟩
  ·have s3 : ((tr ++ ptr b :: sJ).toArray ++ Array.replicate (n - (tr ++ ptr b :: sJ).toArray.size) undef).getD pre.length undef = ptr b := by
    rw [Array.getD_eq_getD_getElem?, Array.getElem?_append_left (by simp; omega)]
    simp [<- lS]
   rw [s3]
   unfold St.get; rw [h]
   exact ⟨rfl, rfl, fun uJ _ => ⟨b, by simp [h0, Hd.of], rfl⟩⟩
  ·rcases h with h | ⟨r, h, hr⟩
   ·rw [h]; trivial
   ·rw [h]
    rcases hr with ⟨uL, hr⟩ | ⟨uL, hr⟩
    ·obtain ⟨v, hv, tj⟩ := n7 lT hr
     have s3 : ((tr ++ ptr b :: sJ).toArray ++ Array.replicate (n - (tr ++ ptr b :: sJ).toArray.size) undef).getD t undef = v := by
      rw [Array.getD_eq_getD_getElem?, Array.getElem?_append_left (by simp; omega)]
      simp [List.getElem?_append_left (show t < tr.length by omega), hv]
     simp only [s3]; exact tj
    ·obtain ⟨v, hv, tj⟩ := n7 fz hr
     have gz := (List.getElem?_eq_some_iff.1 hv).1
     have s3 : ((tr ++ ptr b :: sJ).toArray ++ Array.replicate (n - (tr ++ ptr b :: sJ).toArray.size) undef).getD t undef = v := by
      rw [Array.getD_eq_getD_getElem?, Array.getElem?_append_left (by simp; omega)]
      simp only [List.getElem?_toArray]
      rw [List.getElem?_append_right (by omega), show t - tr.length = (t - pre.length - 1) + 1 by omega, List.getElem?_cons_succ, hv]; rfl
     simp only [s3]; exact tj
 ·by_cases hn : (yj n pre (ptr b) cells sF post).ob t j = .none
  ·rw [hn]; trivial
  ·obtain rfl := nB t j hn
   rw [tF]
   simp only [if_true]
   cases j with
   | zero => exact sX _ _ (fun j => by simp) tF
   | succ j => rw [Rv]; exact tQ _ _ j
 ·obtain rfl := nB t j hn
  rw [tF] at hn
  simp only [if_true] at hk ⊢
  rcases sO j hn with rfl | ⟨i, rfl, hi⟩
  ·rw [h0] at hk ⊢; exact hk
  ·exact tY i k hi hk
 ·obtain rfl := nB t j hn
  rw [tF] at hn
  simp only [if_true] at hk
  rcases da j k hn hk with rfl | hs
  ·exact ⟨fun hh => hh.2.1 rfl, fun hh => hh, hb⟩
  ·exact ⟨fun hh => hh.2.2 hs, fun hh => hh, (hS k hs).1⟩
 ·obtain rfl := nB t j hn
  obtain rfl := nB t' j' u7
  rw [tF] at hn u7
  simp only [if_true] at hk nV
  refine ⟨rfl, ?_⟩
  rcases sO j hn with rfl | ⟨i, rfl, hi⟩
  ·rcases sO j' u7 with rfl | ⟨i', rfl, tZ⟩
   ·rfl
   ·exact absurd ((gy k).1 hk) (hS k (uG i' k tZ nV)).2
  ·rcases sO j' u7 with rfl | ⟨i', rfl, tZ⟩
   ·exact absurd ((gy k).1 nV) (hS k (uG i k hi hk)).2
   ·rw [og i i' k hi tZ hk nV]
end
end Go.Vm
namespace Go.Vm
open Go.RowKit
def B1 (dp : Bool) (T : CS) (w : World) (b : Nat) (uO : List D) (res : List (List D)) (e : Ending) (w' : World) : Prop :=
 ∃ (vs : List Value) (uj : List (List Value)) (Y : Nat -> Prop), e = .returned (V4 vs) /\ Y9 (fun k => k < w.heap.size /\ k ≠ b) w w' /\ (∀ k, Y k -> w.heap.size <= k /\ k < w'.heap.size) /\
  (∃ cs e', w'.heap[b]? = some (.cells cs e' (0, 0)) /\ Zy (Rd (Tof T Y) w') cs.toList uO) /\ Zy Ku vs uj /\ Zy (fun (cs : List Value) (row : List D) => cs.length = row.length) uj res /\
  (if dp then JG w' uj.flatten res.flatten (fun k => w.heap.size <= k /\ k < w'.heap.size /\ ¬ Y k) else Zy (fun cs row => Zy (Rd (Tof T Y) w') cs row) uj res)
def zU (P : Program) (f : FuncId) (dp : Bool) (row : List D) (args : List (List D)) (uO : List D) (res : List (List D)) : Prop :=
 U5 P f = true /\ ∀ (T : CS) (w : World) (b : Nat) (uu : List Value), (∀ k i, T k i -> k < w.heap.size /\ k ≠ b) -> b < w.heap.size -> (∃ cs e, w.heap[b]? = some (.cells cs e (0, 0)) /\ Zy (Rd T w) cs.toList row) ->
  Ge T w uu args -> Calls P f (ptr b :: uu).toArray w (B1 dp T w b uO res)
def AE (P : Program) (fn : Func) (v : Value) (dp : Bool) (uO : List D) (res : List (List D)) (e : Exit) (σ : St) : Prop :=
 (e = .ret \/ e = .normal) /\ (∃ sF, σ.head? = some (.fix v (.one (.bptr 0 0)), .box (uO.map .d) :: sF)) /\ ∃ tT, Vs P σ fn.results.toList tT /\
  (if dp then JL σ tT = some res /\ Qv σ tT /\ (XL tT.flatten).Nodup else xy σ tT = some res)
def Rr (P : Program) (f : FuncId) (args : List (List D)) (uO : List D) : Prop :=
 U5 P f = true /\ ∀ (T : CS) (w : World) (uu : List Value), (∀ k i, T k i -> k < w.heap.size) -> Ge T w uu args ->
  Calls P f uu.toArray w fun e w' => ∃ b Y, e = .returned (ptr b) /\ Below w.heap.size w w' /\ w.heap.size <= b /\ b < w'.heap.size /\ (∀ k, Y k -> w.heap.size <= k /\ k < w'.heap.size /\ k ≠ b) /\ ∃ cs e', w'.heap[b]? = some (.cells cs e' (0, 0)) /\ Zy (Rd (Tof T Y) w') cs.toList uO
def Af (P : Program) (fn : Func) (uO : List D) (e : Exit) (σ : St) : Prop :=
 (e = .ret \/ e = .normal) /\ ∃ u, Vs P σ fn.results.toList [[.bptr u 0]] /\ σ.ob u 0 = .box (uO.map .d)
section
variable {P : Program} {T0 : CS} {B : Nat -> Prop} {σ : St} {a : Act} {w w' : World} {X X' : Nat -> Prop} {h : Nat -> Nat -> Hd}
theorem Vw {T : CS} {ob : Nat -> Nat -> Ob} : ∀ {row : List D} {cs : List Value}, Zy (YD T h ob w) (row.map .d) cs -> Zy (Rd T w) cs row
 | [], _, uF => by cases uF; exact .nil
 | _ :: _, _, uF => by cases uF with | cons h1 h2 => exact .cons h1 (Vw h2)
theorem Ms {f : FuncId} {fn : Func} {c : Code} (hf : P.funcs[f]? = some fn) (hb : fn.body = some c) (uW : U5 P f = true) {dp : Bool} {row : List D} {args : List (List D)} {uO : List D} {res : List (List D)}
  (hw : ∀ v, AWP P c (AE P fn v dp uO res) (yj fn.ntmps [] v (row.map .d) [] args)) : zU P f dp row args uO res := by
 refine ⟨uW, fun T w b uu hT uS ⟨dL, e0, gQ, mO⟩ uH => calls_of_wp hf hb ?_⟩
 have n8 := EZ (w := w) (T := T) (S := fun _ => False) (n := fn.ntmps) (b := b) (pre := []) (post := args) (cells := row.map .d) (sF := []) (tr := []) (sJ := uu) (fun _ => Hd.of (ptr b))
  (fun k i hk => ⟨(hT k i hk).1, (hT k i hk).2, fun hh => hh⟩) (fun k hk => hk.elim) uS rfl
  (fun h ob _ _ => ⟨b, dL, e0, rfl, gQ, jX (mO.imp fun _ _ => Rd.mono (fun b k v hb hc => ⟨hc, .inl hb⟩))⟩) (fun h ob j => by simp [YS, JA]) (fun j k hn => by simp [YS] at hn) (fun j k hn => by simp [YS] at hn) (fun i j k hn => by simp [YS] at hn) .nil uH
 simp only [List.nil_append] at n8
 refine wp_mono (hw (ptr b) T _ _ w n8) ?_
 rintro e a' w' ⟨σ', ⟨he, ⟨sF, ot⟩, tT, sG, uI⟩, ⟨X, h, r⟩, uU⟩
 obtain ⟨vs, uj, uT, um, uF⟩ := ki r sG
 have tH : 0 < σ'.length := by
  cases σ' with
  | nil => simp at ot
  | cons e σ => simp
 have lC : σ'.get 0 = .fix (ptr b) (.one (.bptr 0 0)) := by
  cases σ' with
  | nil => simp at ot
  | cons e σ => simp at ot; simp [St.get, ot]
 have tK : σ'.ob 0 0 = .box (uO.map .d) := by
  cases σ' with
  | nil => simp at ot
  | cons e σ => simp at ot; simp [St.ob, ot, YS]
 have n9 := r.slot 0 tH
 rw [lC] at n9
 obtain ⟨gw, sU⟩ := n9
 obtain ⟨b1, tW, tN⟩ := sU.2 _ tK
 rw [gw] at tN
 have rJ : b1 = b := by injection tN with tN; injection tN with tN; injection tN with tN; exact tN.symm
 subst rJ
 have sO := r.obj 0 0
 rw [tK] at sO
 obtain ⟨b2, nz, e', u4, pH, pS⟩ := sO
 rw [tW] at u4
 have rJ : b2 = b1 := by injection u4 with u4; injection u4 with u4; injection u4 with u4; exact u4.symm
 subst rJ
 have nC : Y9 (fun k => k < w.heap.size /\ k ≠ b2) w w' := ⟨uU.os, uU.tape, uU.output, uU.size, fun k hk => uU.block k ⟨hk.1, hk.2, fun hh => hh⟩⟩
 have db : ∀ k, X k -> k = b2 -> False := by
  rintro k hx rfl
  have tY := r.ub 0 0 k (by rw [tK]; simp) (by rw [tW]; rfl)
  exact (r.own 0 0 k (by rw [tK]; simp) tY).2.1 hx
 have g6 : ∀ k, X k -> w.heap.size <= k /\ k < w'.heap.size := by
  intro k hk
  have h1 := r.hX k hk
  refine ⟨?_, h1.2⟩
  rcases Nat.lt_or_ge k w.heap.size with uL | pA
  ·exact absurd ⟨uL, fun hh => db k hk hh, fun hh => hh⟩ h1.1
  ·exact pA
 have goal : a'.defers = [] /\ ∃ v, (results fn a'.tmps).run P w' = .ok v w' /\ B1 dp T w b2 uO res (.returned v) w' := by
  refine ⟨r.defers, _, uT, ?_⟩
  cases dp with
  | true =>
   simp only [if_true] at uI
   obtain ⟨sh, pO, tL⟩ := uI
   refine ⟨vs, uj, X, rfl, nC, g6, ⟨nz, e', pH, Vw pS⟩, um, ?_, ?_⟩
   ·clear tL pO sG uT um hw
    induction uF generalizing res with
    | nil => simp [JL] at sh; subst sh; exact .nil
    | cons h1 _ ih =>
     simp only [JL] at sh
     split at sh
     ·rename_i row rs ur sc
      cases sh
      exact .cons (by rw [<- h1.length]; exact (qM ur).1) (ih sc)
     ·cases sh
   ·simp only [if_true]
    refine (N0 r (yD uF) (zd sh).1 (zS pO) tL).mono (fun k hk => ?_)
    have hg := r.y4 _ k hk
    refine ⟨?_, hg.2.2.1, hg.2.1⟩
    rcases Nat.lt_or_ge k w.heap.size with uL | pA
    ·refine absurd ⟨uL, ?_, fun hh => hh⟩ hg.1
     rintro rfl
     obtain ⟨p, hp, uD, hu⟩ := hk
     have tY := r.ub 0 0 k (by rw [tK]; simp) (by rw [tW]; rfl)
     obtain ⟨e1, e2⟩ := r.inj p.1 p.2 0 0 k uD (by rw [tK]; simp) hu tY
     obtain ⟨i, lo, len, hx⟩ := Rj hp
     have hm := Vz (zS pO) i _ hx
     rw [e1, e2] at hm
     obtain ⟨d, hd, eD⟩ := (Zy.get (R := fun x d => mvD σ' x = some d) (Zy.zo (qM (zd sh).1).1 (fun i a b h1 h2 => (qM (zd sh).1).2 i a b h1 h2)) i _ hx)
     rw [e1, e2] at eD
     simp [mvD, tK] at eD
    ·exact pA
  | false =>
   simp only [Bool.false_eq_true, if_false] at uI
   refine ⟨vs, uj, fun k => w.heap.size <= k /\ k < w'.heap.size, rfl, nC, fun k hk => hk, ⟨nz, e', pH, (Vw pS).imp fun _ _ => Rd.mono (fun k i v hk hc => ⟨hc, ?_⟩)⟩, um, ?_, ?_⟩
   ·rcases hk with hk | hk
    ·exact .inl hk
    ·exact .inr (g6 k hk)
   ·clear sG uT um hw
    induction uF generalizing res with
    | nil => simp [xy] at uI; subst uI; exact .nil
    | cons h1 _ ih =>
     simp only [xy] at uI
     split at uI
     ·rename_i row rs ur sc
      cases uI
      exact .cons ((r.rowOf false ur h1 (fun hh => by cases hh)).length) (ih sc)
     ·cases uI
   ·simp only [Bool.false_eq_true, if_false]
    refine Wy r (fun k i hk => ?_) uI uF
    rcases hk with hk | ⟨t, j, q, size, rows, ho, hk⟩
    ·rcases hk with hk | hk
     ·exact .inl hk
     ·exact .inr (g6 k hk)
    ·have uD : σ'.ob t j ≠ .none := by rw [ho]; simp
     have uG := r.own t j k uD hk
     refine .inr ⟨?_, uG.2.2⟩
     rcases Nat.lt_or_ge k w.heap.size with uL | pA
     ·refine absurd ⟨uL, ?_, fun hh => hh⟩ uG.1
      rintro rfl
      have tY := r.ub 0 0 k (by rw [tK]; simp) (by rw [tW]; rfl)
      obtain ⟨e1, e2⟩ := r.inj t j 0 0 k uD (by rw [tK]; simp) hk tY
      rw [e1, e2, tK] at ho; cases ho
     ·exact pA
 rcases he with rfl | rfl
 ·exact goal
 ·exact goal
theorem M6 {f : FuncId} {fn : Func} {c : Code} (hf : P.funcs[f]? = some fn) (hb : fn.body = some c) (uW : U5 P f = true) {args : List (List D)} {uO : List D}
  (hw : AWP P c (Af P fn uO) (xn fn.ntmps args)) : Rr P f args uO := by
 refine ⟨uW, fun T w uu hT uH => calls_of_wp hf hb ?_⟩
 refine wp_mono (hw T (fun b => b < w.heap.size) _ w (MT hT uH)) ?_
 rintro e a' w' ⟨σ', ⟨he, u, sG, mi⟩, ⟨X, h, r⟩, uU⟩
 have tv : Below w.heap.size w w' := ⟨uU.os, uU.tape, uU.output, uU.size, uU.block⟩
 obtain ⟨vs, uj, uT, um, uF⟩ := ki r sG
 cases uF with
 | cons h1 uF =>
  cases uF
  cases h1 with
  | @cons _ c0 _ _ hx h1 =>
   cases h1
   cases um with
   | @cons v0 _ _ _ hu hn =>
    cases hn
    have sH : v0 = c0 := by
     rcases hu with ⟨c', l6, rfl, _⟩ | ⟨hn, _⟩
     ·cases l6; rfl
     ·simp at hn
    subst sH
    obtain ⟨b, tW, hv⟩ := hx.2 _ mi
    have sO := r.obj u 0
    rw [mi] at sO
    obtain ⟨b2, nz, e', u4, pH, pS⟩ := sO
    rw [tW] at u4
    have rJ : b2 = b := by injection u4 with u4; injection u4 with u4; injection u4 with u4; exact u4.symm
    subst rJ
    have uD : σ'.ob u 0 ≠ .none := by rw [mi]; simp
    have tY := r.ub u 0 b2 uD (by rw [tW]; rfl)
    have uG := r.own u 0 b2 uD tY
    have goal : a'.defers = [] /\ ∃ v, (results fn a'.tmps).run P w' = .ok v w' /\ ∃ b Y, Ending.returned v = .returned (ptr b) /\ Below w.heap.size w w' /\ w.heap.size <= b /\ b < w'.heap.size /\ (∀ k, Y k -> w.heap.size <= k /\ k < w'.heap.size /\ k ≠ b) /\ ∃ cs e', w'.heap[b]? = some (.cells cs e' (0, 0)) /\ Zy (Rd (Tof T Y) w') cs.toList uO := by
     refine ⟨r.defers, _, uT, b2, X, by rw [hv]; rfl, tv, by have := uG.1; omega, uG.2.2, fun k hk => ?_, nz, e', pH, Vw pS⟩
     have nV := r.hX k hk
     refine ⟨by have := nV.1; omega, nV.2, ?_⟩
     rintro rfl
     exact uG.2.1 hk
    rcases he with rfl | rfl
    ·exact goal
    ·exact goal
end
end Go.Vm
namespace Go.Vm
open Go.RowKit
section
variable {P : Program} {T0 : CS} {B : Nat -> Prop} {σ : St} {a : Act} {w w' : World} {X X' : Nat -> Prop} {h : Nat -> Nat -> Hd}
theorem C3 {T : CS} {ob : Nat -> Nat -> Ob} {hd : Hd} {size : Nat} {rows : List (List D)} (hr : JA T h ob w hd (.arr true size rows)) (hf : ∀ r ∈ rows, ∀ x ∈ r, x.scalar = true) : JA T h ob w hd (.arr false size rows) := by
 obtain ⟨e, xs, ho, hz, ⟨hl, Sk, hk, _, _⟩, _⟩ := hr
 refine ⟨e, xs, ho, hz, Zy.zo hl (fun k x d hx hd => ?_)⟩
 obtain ⟨r0, rO, hdr⟩ := List.mem_flatten.1 (List.mem_of_getElem? hd)
 have tJ := hf r0 rO d hdr
 have := hk k x d hx hd
 cases this with
 | int k n => exact .int _ _
 | bool b => exact .bool _
 | str s => exact .str _
 | unk v h => exact .unk _ h
 | sl => cases tJ
theorem Rel.AZ (r : Rel T0 B σ a w X h) {d : Nat} (hf : σ.fresh d = true) (M : Nat -> Prop) (hM : ∀ b, M b -> ¬ B b /\ ¬ X b /\ b < w.heap.size /\ ∀ t j, σ.ob t j ≠ .none -> ¬ (h t j).u b) {vs : List Value} {uj : List (List Value)} {res : List (List D)} (qs : List Bool)
  (um : Zy Ku vs uj) (hlen : Zy (fun (cs : List Value) (row : List D) => cs.length = row.length) uj res) (uG : JG w uj.flatten res.flatten M) (hq : xk qs res.flatten) : JZ T0 B (σ.new d (xL d res) (Yc qs res.flatten)) (a.put (some d) (V4 vs)) w := by
 have uL := St.KJ hf
 obtain ⟨nv, Sk, k1, k2, k3, k4⟩ := Cw uG
 have uX : ∀ j, (σ.new d (xL d res) (Yc qs res.flatten)).ob d j = YS (Yc qs res.flatten) j := fun j => by rw [St.Qu]; simp [uL]
 have g7 := uG.top (T := Tof T0 X)
 have sK : Zy (fun cs row => Zy (qV (Tof T0 X) w) cs row) uj res := yW hlen (fun k x d hx hd => by
  obtain ⟨c, hc, ht⟩ := g7.get' k d hd
  rw [hx] at hc; cases hc; exact ht)
 refine ⟨X, fun t j => if t = d then nv j else h t j, ?_⟩
 refine r.Ey hf M (Nat.le_refl _) (fun _ _ _ => rfl) (fun b hb => ⟨(hM b hb).1, (hM b hb).2.1, fun t j _ hn => (hM b hb).2.2.2 t j hn⟩) (fun b hb => hb) (fun b hb => .inl hb) (xL d res) (V4 vs) (Yc qs res.flatten) nv ?_ (fun j => ?_) (fun j b uD hb => ?_) (fun j b uD hb => ?_) (fun j j' b uD uw hb uS => ?_)
 ·exact Nt (h := fun t j => if t = d then nv j else h t j) (ob := (σ.new d (xL d res) (Yc qs res.flatten)).ob) (t := d) um sK (fun i size rows hi => by
   obtain ⟨q, pJ, _⟩ := (XH qs res.flatten i hq).1 size rows hi
   exact ⟨q, by rw [uX]; exact pJ⟩) (fun i c hi => by simp only [if_true]; exact k1 i c hi)
 ·by_cases uD : YS (Yc qs res.flatten) j = .none
  ·rw [uD]; trivial
  ·obtain ⟨size, rows, hj⟩ := (XH qs res.flatten j hq).2 uD
   obtain ⟨q, pJ, ga⟩ := (XH qs res.flatten j hq).1 size rows hj
   rw [pJ]
   have := (k4 j size rows hj).2.2 (Tof T0 X) (fun t j => if t = d then nv j else h t j) (σ.new d (xL d res) (Yc qs res.flatten)).ob
   cases q with
   | true => exact this
   | false => exact C3 this (ga rfl)
 ·obtain ⟨size, rows, hj⟩ := (XH qs res.flatten j hq).2 uD
  exact (k4 j size rows hj).2.1 b hb
 ·obtain ⟨size, rows, hj⟩ := (XH qs res.flatten j hq).2 uD
  have := k2 j b ((k4 j size rows hj).1 b hb)
  exact ⟨.inr this, (hM b this).2.1, (hM b this).2.2.1⟩
 ·obtain ⟨size, rows, hj⟩ := (XH qs res.flatten j hq).2 uD
  obtain ⟨uh, uQ, rP⟩ := (XH qs res.flatten j' hq).2 uw
  exact k3 j j' b ((k4 j size rows hj).1 b hb) ((k4 j' uh uQ rP).1 b uS)
theorem Rel.DG (r : Rel T0 B σ a w X h) {t b : Nat} {cells : List At} {uO : List D} (ho : σ.ob t 0 = .box cells) (hv : (h t 0).v = ptr b) (tG : w.heap.size <= w'.heap.size) (hw : ∀ k, k < w.heap.size -> k ≠ b -> w'.heap[k]? = w.heap[k]?)
  (hX : ∀ b, X b -> X' b) (oV : ∀ b, X' b -> X b \/ (w.heap.size <= b /\ b < w'.heap.size)) (pL : ∃ cs e, w'.heap[b]? = some (.cells cs e (0, 0)) /\ Zy (Rd (Tof T0 X') w') cs.toList uO) : Rel T0 B (σ.Zs t 0 (.box (uO.map .d))) a w' X' h := by
 have uX : σ.ob t 0 ≠ .none := by rw [ho]; simp
 have tU : blk (h t 0).v = some b := by rw [hv]; rfl
 have tY := r.ub t 0 b uX tU
 have eF := r.own t 0 b uX tY
 have hT : ∀ k i v, Tof T0 X k i -> w.cell? ⟨k, i, none⟩ = some v -> w'.cell? ⟨k, i, none⟩ = some v /\ Tof T0 X' k i := by
  intro k i v hk hc
  refine ⟨?_, hk.imp id (hX k)⟩
  have uD : k ≠ b := by
   rintro rfl
   rcases hk with hk | hk
   ·exact eF.1 (r.hT _ _ hk)
   ·exact eF.2.1 hk
  rw [World.cell?_of_block (hw k (r.Tlt hk) uD)]; exact hc
 have tQ : ∀ u i, ¬ (u = t /\ i = 0) -> (σ.Zs t 0 (.box (uO.map .d))).ob u i = σ.ob u i := by
  intro u i uD
  rw [St.Xj σ t 0 _ u i uX, if_neg uD]
 have tI : (σ.Zs t 0 (.box (uO.map .d))).ob t 0 = .box (uO.map .d) := by rw [St.Xj σ t 0 _ t 0 uX]; simp
 have gd : ∀ u i, Cpt h h σ.ob (σ.Zs t 0 (.box (uO.map .d))).ob u i := by
  intro u i
  by_cases hu : u = t /\ i = 0
  ·obtain ⟨rfl, rfl⟩ := hu
   refine ⟨fun q size rows uV => ?_, fun size rows uV => ?_, fun uJ uV => ⟨rfl, cells, ho⟩⟩
   ·rw [tI] at uV; cases uV
   ·rw [tI] at uV; cases uV
  ·exact Cpt.same rfl (tQ u i hu)
 have at_ : ∀ {x : At} {v : Value}, (fun _ => false : At -> Bool) x = false -> YD (Tof T0 X) h σ.ob w x v -> YD (Tof T0 X') h (σ.Zs t 0 (.box (uO.map .d))).ob w' x v := fun _ rx => YD.CG hT gd rx
 have tR : ∀ u i, (σ.Zs t 0 (.box (uO.map .d))).ob u i ≠ .none -> σ.ob u i ≠ .none := by
  intro u i hn
  by_cases hu : u = t /\ i = 0
  ·obtain ⟨rfl, rfl⟩ := hu; exact uX
  ·rw [tQ u i hu] at hn; exact hn
 refine ⟨by rw [r.size, St.Y3], r.defers, fun b hb => Nat.lt_of_lt_of_le (r.hB b hb) tG, fun k hk => ?_, r.hT, fun u hu => ?_, fun u i => ?_, fun u i k hn => r.ub u i k (tR u i hn), fun u i k hn hk => ?_, fun u i u' i' k hn u7 => r.inj u i u' i' k (tR u i hn) (tR u' i' u7)⟩
 ·rcases oV k hk with hk | hk
  ·have := r.hX k hk; exact ⟨this.1, by omega⟩
  ·exact ⟨fun rJ => by have := r.hB k rJ; omega, hk.2⟩
 ·rw [St.Y3] at hu
  rw [St.Xl]; exact QI.map at_ (y2 _) (r.slot u hu)
 ·by_cases hu : u = t /\ i = 0
  ·obtain ⟨rfl, rfl⟩ := hu
   rw [tI]
   obtain ⟨cs, e, hh, uF⟩ := pL
   exact ⟨b, cs, e, hv, hh, jX uF⟩
  ·rw [tQ u i hu]
   exact JA.map at_ hT (fun ho b => r.ub u i b ho) (fun hn k hk => hw k (r.own u i k hn hk).2.2 (fun e => by
    rw [e] at hk
    obtain ⟨e1, e2⟩ := r.inj u i t 0 b hn uX hk tY
    exact hu ⟨e1, e2⟩)) (jV _) (r.obj u i)
 ·have := r.own u i k (tR u i hn) hk
  refine ⟨this.1, fun hx => ?_, by omega⟩
  rcases oV k hx with hx | hx
  ·exact this.2.1 hx
  ·omega
def H9 (dp : Bool) (σ : St) (d : Nat) (res : List (List D)) (qs : List Bool) : St := match dp with | true => σ.new d (xL d res) (Yc qs res.flatten) | false => σ.put d (ye res)
theorem PV (r : Rel T0 B σ a w X h) {o : Oper} {cl : Call} {f : FuncId} {d : Nat} {x0 : Operand} {xs : List Operand} {t0 : TypeId} {ts : List TypeId} {uP res : List (List D)} {row uO : List D} {dp : Bool} (qs : List Bool) (uA : o.op = .call cl) (hc : cl.callee = .value (.func f)) (hd : o.dst = some d)
  (ha : cl.args.toList = x0 :: xs) {t : Nat} (hg : gOf (look P σ t0 x0) = true) (hx : unc (look P σ t0 x0) = .one (.bptr t 0)) (ho : σ.ob t 0 = .box (row.map .d)) (uH : QC P σ xs ts uP) (uf : YM P σ xs ts = true) (hs : zU P f dp row uP uO res)
  (tE : dp = true -> (σ.Zs t 0 (.box (uO.map .d))).fresh d = true /\ xk qs res.flatten)
  {K : Act -> World -> Prop} {Q : Exit -> Act -> World -> Prop} (hK : ∀ a' w', JZ T0 B (H9 dp (σ.Zs t 0 (.box (uO.map .d))) d res qs) a' w' -> Y9 B w w' -> K a' w') : o.wp P a w K Q := by
 have uX : σ.ob t 0 ≠ .none := by rw [ho]; simp
 have dc := r.arg (P := P) t0 x0 hx hg
 obtain ⟨b, tW, hv⟩ := dc.2 _ ho
 have sO := r.obj t 0
 rw [ho] at sO
 obtain ⟨b2, cs, e, u4, hh, uF⟩ := sO
 rw [tW] at u4
 have rJ : b2 = b := by injection u4 with u4; injection u4 with u4; injection u4 with u4; exact u4.symm
 subst rJ
 have tU : blk (h t 0).v = some b2 := by rw [tW]; rfl
 have tY := r.ub t 0 b2 uX tU
 have uG := r.own t 0 b2 uX tY
 have pT := r.QC true uH (fun _ => uf)
 simp only [if_true] at pT
 unfold Oper.wp
 rw [jr uA hc hs.1, Oper.upon_enter]
 rw [show (cl.args.toList.map a.eval).toArray = (ptr b2 :: xs.map a.eval).toArray by rw [ha]; simp [hv]]
 have hT : ∀ k i, Tof T0 X k i -> k < w.heap.size /\ k ≠ b2 := by
  intro k i hk
  refine ⟨r.Tlt hk, ?_⟩
  rintro rfl
  rcases hk with hk | hk
  ·exact uG.1 (r.hT _ _ hk)
  ·exact uG.2.1 hk
 refine (hs.2 (Tof T0 X) w b2 _ hT uG.2.2 ⟨cs, e, hh, Vw uF⟩ pT).mono ?_
 rintro e' w' ⟨vs, uj, Y, rfl, uU, hY, ⟨nz, e2, pH, pS⟩, um, hlen, sG⟩
 rw [hd]
 have oa : ∀ {v : Value} {x : D}, Rd (Tof (Tof T0 X) Y) w' v x -> Rd (Tof T0 (fun k => X k \/ Y k)) w' v x := fun hr => hr.mono (fun k i v hk hc => ⟨hc, by
  rcases hk with (hk | hk) | hk
  ·exact .inl hk
  ·exact .inr (.inl hk)
  ·exact .inr (.inr hk)⟩)
 have r1 := r.DG (w' := w') (X' := fun k => X k \/ Y k) (uO := uO) ho tW uU.size (fun k hk uD => uU.block k ⟨hk, uD⟩) (fun k hk => .inl hk) (fun k hk => hk.imp id (hY k)) ⟨nz, e2, pH, pS.imp fun _ _ => oa⟩
 have eH : Y9 B w w' := ⟨uU.os, uU.tape, uU.output, uU.size, fun k hk => uU.block k ⟨r.hB k hk, fun e => uG.1 (e ▸ hk)⟩⟩
 cases dp with
 | false =>
  simp only [Bool.false_eq_true, if_false] at sG
  exact hK _ _ ⟨_, _, r1.put d _ _ (L1 um (Rh (fun _ _ _ _ _ => oa) sG))⟩ eH
 | true =>
  simp only [if_true] at sG
  obtain ⟨gx, hq⟩ := tE rfl
  refine hK _ _ (r1.AZ gx (fun k => w.heap.size <= k /\ k < w'.heap.size /\ ¬ Y k) (fun k hk => ⟨fun hb => by have := r.hB k hb; omega, ?_, hk.2.1, fun u j hn hu => ?_⟩) qs um hlen sG hq) eH
  ·rintro (hx | hy)
   ·have := (r.hX k hx).2; omega
   ·exact hk.2.2 hy
  ·have u7 : σ.ob u j ≠ .none := by
    by_cases hc : u = t /\ j = 0
    ·obtain ⟨rfl, rfl⟩ := hc; exact uX
    ·rw [St.Xj σ t 0 _ u j uX, if_neg hc] at hn; exact hn
   have := (r.own u j k u7 hu).2.2; omega
theorem GF (r : Rel T0 B σ a w X h) {o : Oper} {cl : Call} {f : FuncId} {d : Nat} {uP : List (List D)} {uO : List D} (uA : o.op = .call cl) (hc : cl.callee = .value (.func f)) (hd : o.dst = some d) (tE : σ.fresh d = true)
  (uH : QC P σ cl.args.toList cl.argTypes.toList uP) (uf : YM P σ cl.args.toList cl.argTypes.toList = true) (hs : Rr P f uP uO)
  {K : Act -> World -> Prop} {Q : Exit -> Act -> World -> Prop} (hK : ∀ a' w', JZ T0 B (σ.new d (.one (.bptr d 0)) [.box (uO.map .d)]) a' w' -> Y9 B w w' -> K a' w') : o.wp P a w K Q := by
 have uL := St.KJ tE
 have pT := r.QC true uH (fun _ => uf)
 simp only [if_true] at pT
 unfold Oper.wp
 rw [jr uA hc hs.1, Oper.upon_enter]
 refine (hs.2 (Tof T0 X) w _ (fun k i hk => r.Tlt hk) pT).mono ?_
 rintro e' w' ⟨b, Y, rfl, tv, tW, u4, hY, nz, e2, pH, pS⟩
 rw [hd]
 have oa : ∀ {v : Value} {x : D}, Rd (Tof (Tof T0 X) Y) w' v x -> Rd (Tof T0 (fun k => X k \/ Y k)) w' v x := fun hr => hr.mono (fun k i v hk hc => ⟨hc, by
  rcases hk with (hk | hk) | hk
  ·exact .inl hk
  ·exact .inr (.inl hk)
  ·exact .inr (.inr hk)⟩)
 have uX : (σ.new d (.one (.bptr d 0)) [.box (uO.map .d)]).ob d 0 = .box (uO.map .d) := by rw [St.Qu]; simp [uL, YS]
 refine hK _ _ ⟨fun k => X k \/ Y k, fun t j => if t = d then Hd.of (ptr b) else h t j, ?_⟩ (Y9.SL tv r.hB)
 refine r.new tE (Below.grownBy tv) (fun k hk => .inl hk) (fun k hk => hk.imp id (fun hy => ⟨(hY k hy).1, (hY k hy).2.1⟩)) _ _ _ (fun _ => Hd.of (ptr b)) ⟨rfl, fun cells _ => ⟨b, by simp [Hd.of], rfl⟩⟩ (fun j => ?_) (fun j k _ hk => hk) (fun j k _ hk => ?_) (fun i j k hi hj _ _ => ?_)
 ·cases j with
  | zero => exact ⟨b, nz, e2, rfl, pH, jX (pS.imp fun _ _ => oa)⟩
  | succ j => simp [YS, JA]
 ·simp [Hd.of, blk] at hk; subst hk
  refine ⟨tW, ?_, u4⟩
  rintro (hx | hy)
  ·have := (r.hX _ hx).2; omega
  ·exact (hY _ hy).2.2 rfl
 ·have hz : ∀ j, YS [Ob.box (uO.map .d)] j ≠ .none -> j = 0 := by
   intro j hj
   cases j with
   | zero => rfl
   | succ j => simp [YS] at hj
  rw [hz i hi, hz j hj]
end
section
variable {P : Program} {σ : St} {k : Fr}
theorem MC {dp : Bool} {d d' : Nat} {res : List (List D)} {qs : List Bool} (uD : d ≠ d') (uk : Xb σ d = true) : Xb (H9 dp σ d' res qs) d = true := by
 cases dp with
 | false => exact DR uD uk
 | true => exact jc uD uk
attribute [simp] H9
theorem Kp {f : FuncId} {fn : Func} {c : Code} (hf : P.funcs[f]? = some fn) (hb : fn.body = some c) (uW : U5 P f = true) {dp : Bool} {row : List D} {args : List (List D)} {uO : List D} {res : List (List D)}
  (hw : ∀ v, @WI P (yj fn.ntmps [] v (row.map .d) [] args) ⟨c⟩ (.fin (AE P fn v dp uO res))) : zU P f dp row args uO res := Ms hf hb uW (fun v => kv (hw v))
theorem Wt {fn : Func} {v : Value} {dp : Bool} {uO : List D} {res : List (List D)} {rv : List ResultVar} (hf : fn.results = rv.toArray) (h : (Ql P σ rv).1 /\ σ.head? = some (.fix v (.one (.bptr 0 0)), .box (uO.map .d) :: (σ.head?.map (fun e => e.2.tail)).getD []) /\
  (if dp then JL σ (Ql P σ rv).2 = some res /\ Qv σ (Ql P σ rv).2 /\ (XL (Ql P σ rv).2.flatten).Nodup else xy σ (Ql P σ rv).2 = some res)) : AE P fn v dp uO res .ret σ :=
 ⟨.inl rfl, ⟨_, h.2.1⟩, _, by rw [hf]; exact Wl h.1, h.2.2⟩
theorem Em {f : FuncId} {fn : Func} {c : Code} (hf : P.funcs[f]? = some fn) (hb : fn.body = some c) (uW : U5 P f = true) {args : List (List D)} {uO : List D}
  (hw : @WI P (xn fn.ntmps args) ⟨c⟩ (.fin (Af P fn uO))) : Rr P f args uO := M6 hf hb uW (kv hw)
theorem wv {fn : Func} {uO : List D} {rv : List ResultVar} (u : Nat) (hf : fn.results = rv.toArray) (h : (Ql P σ rv).1 /\ (Ql P σ rv).2 = [[.bptr u 0]] /\ σ.ob u 0 = .box (uO.map .d)) : Af P fn uO .ret σ :=
 ⟨.inl rfl, u, by rw [hf, <- h.2.1]; exact Wl h.1, h.2.2⟩
theorem FH {ops : Array Oper} {o : Oper} {cl : Call} {f : FuncId} {d : Nat} {x0 : Operand} {xs : List Operand} {t0 : TypeId} {ts : List TypeId} {uP res : List (List D)} {row uO : List D} {dp : Bool} {t : Nat} (qs : List Bool) (uA : o.op = .call cl) (hc : cl.callee = .value (.func f)) (oA : o.guard = none) (hd : o.dst = some d)
  (ha : cl.args.toList = x0 :: xs) (hs : zU P f dp row uP uO res) (hg : gOf (look P σ t0 x0) = true) (hx : unc (look P σ t0 x0) = .one (.bptr t 0)) (ho : σ.ob t 0 = .box (row.map .d))
  (uH : QC P σ xs ts uP) (uf : YM P σ xs ts = true) (tE : dp = true -> (σ.Zs t 0 (.box (uO.map .d))).fresh d = true /\ xk qs res.flatten) : Am P ops o σ (H9 dp (σ.Zs t 0 (.box (uO.map .d))) d res qs) := by
 have hm : ∀ z ∈ x0 :: xs, z ∈ o.op.operands.toList := fun z hz => by rw [uA]; exact KS (by rw [ha]; exact hz)
 refine ⟨d, t, row.map .d, uO.map .d, (cond dp (xL d res) (ye res)), (cond dp (some (Yc qs res.flatten)) none), hd, ho, ⟨x0, xs, ⟨f, cl.argTypes, ?_⟩, t0, hx⟩, fun u => ⟨kM _, kM _⟩, fun u hu => ?_, fun hn => ?_, ?_, fun σ2 hl pd uX gu => ?_⟩
 ·rw [uA]
  obtain ⟨c1, c2, c3⟩ := cl
  simp only at hc ha ⊢
  rw [hc, <- ha]
 ·cases dp with
  | true =>
   have hu := hu.resolve_left (by simp)
   exact ⟨MN hu res, fun l hl => by cases hl; exact K3 u qs _⟩
  | false => exact ⟨Lx u res, fun l hl => by cases hl⟩
 ·cases dp with
  | true => exact (tE rfl).1
  | false => exact absurd rfl hn
 ·cases dp <;> rfl
 ·have uo : Sub P o.op.operands.toList σ σ2 := ⟨hl, pd, uX⟩
  have eJ : Sub P xs σ σ2 := ⟨hl, fun z hz => pd z (hm z (by simp [hz])), fun z hz => uX z (hm z (by simp [hz]))⟩
  have h0 := pd x0 (hm x0 (by simp)) t0
  have sL : σ2.ob t 0 = .box (row.map .d) := by
   rw [<- ho]
   exact uX x0 (hm x0 (by simp)) t0 t (Xi hx (by simp [At.ref])) 0 (by rw [ho]; simp)
  have e : K1 t d (uO.map .d) (cond dp (xL d res) (ye res)) (cond dp (some (Yc qs res.flatten)) none) σ2 = H9 dp (σ2.Zs t 0 (.box (uO.map .d))) d res qs := by cases dp <;> rfl
  rw [e]
  refine ⟨?_, fun d' uM uk => MC (fun e => uM (by rw [hd, e])) (QN uk)⟩
  rintro T0 B a w K Q' ⟨X, hh, r⟩ hK
  have hw : Region.wanted o (yielded ops a.tmps) = true := by simp [Region.wanted, oA]
  rw [if_pos hw]
  refine PV r qs uA hc hd ha (by rw [<- h0]; exact hg) (by rw [<- h0]; exact hx) sL (qR eJ uH) (by rw [xz eJ]; exact uf) hs (fun eA => ⟨?_, (tE eA).2⟩) hK
  subst eA
  exact gu (by simp)
theorem Bu {A : JP} {o : OpI} {l : Js} {cl : Call} {f : FuncId} {d : Nat} {x0 : Operand} {xs : List Operand} {t0 : TypeId} {ts : List TypeId} {uP res : List (List D)} {row uO : List D} {dp : Bool} {t : Nat} (qs : List Bool) (uA : o.o.op = .call cl) (hc : cl.callee = .value (.func f)) (oA : o.o.guard = none) (hd : o.o.dst = some d) (uv : A.bar o.o = true)
  (ha : cl.args.toList = x0 :: xs) (dK : cl.argTypes.toList = t0 :: ts) (hs : zU P f dp row uP uO res) (hx : gOf (look P σ t0 x0) = true /\ unc (look P σ t0 x0) = .one (.bptr t 0)) (ho : σ.ob t 0 = .box (row.map .d))
  (uH : (Y5 P σ xs ts).1) (uN : (Y5 P σ xs ts).2 = some uP) (uf : YM P σ xs ts = true) (tE : dp = true -> (σ.Zs t 0 (.box (uO.map .d))).fresh d = true /\ xk qs res.flatten)
  (h : @EI P (H9 dp (σ.Zs t 0 (.box (uO.map .d))) d res qs) A l k) : @SI P σ A o l k := by
 refine ⟨_, .inr ⟨uv, ?_, fun d' uM uk => MC (fun e => uM (by rw [hd, e])) (QN uk), fun hh => by simp [WC, uA] at hh, fun hh => by first | (simp [je, uA] at hh; done) | (unfold je at hh; rw [uA] at hh; split at hh <;> simp_all), fun _ _ => FH qs uA hc oA hd ha hs hx.1 hx.2 ho (xC uH uN) uf tE⟩, Qj h⟩
 rintro T0 B a w K Q' ⟨X, hh, r⟩ hK
 have hw : Region.wanted o.o (yielded A.ops a.tmps) = true := by simp [Region.wanted, oA]
 rw [if_pos hw]
 exact PV r qs uA hc hd ha hx.1 hx.2 ho (xC uH uN) uf hs tE hK
theorem wL {A : JP} {o : OpI} {l : Js} {cl : Call} {f : FuncId} {d : Nat} {uP : List (List D)} {uO : List D} (uA : o.o.op = .call cl) (hc : cl.callee = .value (.func f)) (oA : o.o.guard = none) (hd : o.o.dst = some d) (uv : A.bar o.o = true) (hs : Rr P f uP uO)
  (uH : (Y5 P σ cl.args.toList cl.argTypes.toList).1) (uN : (Y5 P σ cl.args.toList cl.argTypes.toList).2 = some uP) (uf : YM P σ cl.args.toList cl.argTypes.toList = true) (tE : σ.fresh d = true)
  (h : @EI P (σ.new d (.one (.bptr d 0)) [.box (uO.map .d)]) A l k) (ri : Jp P o.o = false := by exact rfl) : @SI P σ A o l k := by
 refine ⟨_, .inr ⟨uv, ?_, fun d' uM uk => jc (fun e => uM (by rw [hd, e])) uk, fun hh => by simp [WC, uA] at hh, fun hh => by first | (simp [je, uA] at hh; done) | (unfold je at hh; rw [uA] at hh; split at hh <;> simp_all), fun hh _ => by rw [ri] at hh; cases hh⟩, Qj h⟩
 rintro T0 B a w K Q' ⟨X, hh, r⟩ hK
 have hw : Region.wanted o.o (yielded A.ops a.tmps) = true := by simp [Region.wanted, oA]
 rw [if_pos hw]
 exact GF r uA hc hd tE (xC uH uN) uf hs hK
end
end Go.Vm
namespace Go.Vm
open Go.RowKit
def Aw (n : Nat) (sz : Nat) (rows : List (List D)) (args : List (List D)) : St := (.one (.sref 0 0 0 rows.length), [.arr false sz rows]) :: (T6 args ++ List.replicate (n - (args.length + 1)) (V.any, []))
def At.isO (u : Nat) : At -> Bool
 | .sref t _ _ _ => t == u
 | .ptr t _ _ _ => t == u
 | .tref t _ _ _ _ => t == u
 | _ => false
section
variable {P : Program} {T0 : CS} {B : Nat -> Prop} {σ : St} {a : Act} {w w' : World} {X X' : Nat -> Prop} {h : Nat -> Nat -> Hd}
end
end Go.Vm
namespace Go.Vm
open Go.RowKit
section
variable {P : Program} {T0 : CS} {B : Nat -> Prop} {σ : St} {a : Act} {w w' : World} {X X' : Nat -> Prop} {h : Nat -> Nat -> Hd}
end
section
variable {P : Program} {σ : St} {k : Fr}
end
attribute [simp] yj Aw At.isO
end Go.Vm
namespace Go.Vm
open Go.RowKit
section
variable {P : Program} {σ : St} {k : Fr}
end
end Go.Vm
namespace Go.Vm
open Go.RowKit
section
variable {P : Program} {σ : St} {k : Fr}
theorem cR {A : JP} {o : OpI} {l : Js} {c : Call} {f : FuncId} {d : Nat} {own : Bool} {rows res : List (List D)} (hs : QB P f own rows res) (h : @EI P (σ.put d (ye res)) A l k) (uA : o.o.op = .call c := by exact rfl) (hc : c.callee = .value (.func f) := by exact rfl) (hg : o.o.guard = none := by exact rfl) (hd : o.o.dst = some d := by exact rfl)
  (uN : (Y5 P σ c.args.toList c.argTypes.toList).2 = some rows := by simp) (uH : (Y5 P σ c.args.toList c.argTypes.toList).1 := by simp) (uf : YM P σ c.args.toList c.argTypes.toList = true \/ JI own res := by simp) : @SI P σ A o l k :=
 Og uA hc hg hd hs uN uH uf h
theorem cD {A : JP} {o : OpI} {l : Js} {c : Call} {f : FuncId} {d : Nat} {rows res : List (List D)} (qs : List Bool) (hs : YP P f rows res) (h : @EI P (σ.new d (xL d res) (Yc qs res.flatten)) A l k) (uA : o.o.op = .call c := by exact rfl) (hc : c.callee = .value (.func f) := by exact rfl) (hg : o.o.guard = none := by exact rfl) (hd : o.o.dst = some d := by exact rfl)
  (uN : (Y5 P σ c.args.toList c.argTypes.toList).2 = some rows := by simp) (uH : (Y5 P σ c.args.toList c.argTypes.toList).1 := by simp) (hq : xk qs res.flatten := by simp) (hf : σ.fresh d = true := by simp) : @SI P σ A o l k := IN qs uA hc hg hd hs uN uH hq hf h
end
section
variable {P : Program} {σ : St} {k : Fr}
end
@[simp] abbrev eI (t : Nat) (n : Int) : Nat × V × List Ob := (t, .one (.d (.int .i64 n)), [])
@[simp] abbrev eB (t : Nat) (b : Bool) : Nat × V × List Ob := (t, .one (.d (.bool b)), [])
@[simp] abbrev eL {α : Type} (t s : Nat) (l : List α) (f : α -> List D) : Nat × V × List Ob := (t, .one (.d (.sl s (l.map f))), [])
@[simp] abbrev eP (t u c : Nat) : Nat × V × List Ob := (t, .one (.bptr u c), [])
@[simp] abbrev eG (t : Nat) (xs : List At) : Nat × V × List Ob := (t, .agg xs, [])
@[simp] abbrev eX (t : Nat) (xs : List At) : Nat × V × List Ob := (t, .one (.bptr t 0), [.box xs])
end Go.Vm
namespace Go.Vm
open Go.RowKit
structure Me {α : Type} (x y : α) : Prop where
 h : x = y
structure Bx (p : Prop) : Prop where
 h : p
theorem me {α : Type} {x y : α} (h : x = y) : Me x y := ⟨h⟩
theorem ms {α β : Type} {x y y' : α} {l r : β} (f : Me x y) (e : Me l r) (h : l = r -> y = y' := by intro e; simp only [e]; exact rfl) : Me x y' := ⟨f.h.trans (h e.h)⟩
theorem an {p q : Prop} (h : p) (k : q) : p /\ q := ⟨h, k⟩
theorem ix {α : Type} {v : Nat} {l : List α} (h : decide ((v : Int) < (l.length : Int)) = true) : v < l.length := by simpa using h
theorem ml {α : Type} {q : Prop} (l : List α) (m : q) (h : q -> l.length <= 9223372036854775807 := by intro m; simpa using m) : l.length <= 9223372036854775807 := h m
theorem wr (n : Nat) (h : (n : Int) + 1 <= 9223372036854775807 := by first | omega | (simp only [decide_eq_true_eq, decide_eq_false_iff_not, beq_iff_eq, beq_eq_false_iff_ne, bne_iff_ne, ne_eq, Bool.or_eq_false_iff, Bool.or_eq_true, Bool.and_eq_true, Bool.not_eq_true', Bool.not_eq_false'] at *; omega)) : IntKind.i64.wrap ((n : Int) + 1) = (n : Int) + 1 := Yg (by omega) (by omega)
section
variable {P : Program} {σ : St} {k : Fr}
theorem so {f : FuncId} {fn : Func} {n : Nat} {own : Bool} {args res : List (List D)} {p : Prop} (hf : P.funcs[f]? = some fn) (hn : fn.ntmps = n) (h : p) {c : Code} (hb : fn.body = some c := by exact rfl) (uW : U5 P f = true := by kernel_rfl)
  (kk : Bx p -> @WI P (xn n args) ⟨c⟩ (.fin (He P fn own res)) := by (intro z; simp; (repeat (with_reducible refine Go.Mo.sd ?_)); exact z.h)) : QB P f own args res := Di hf hb uW (by rw [hn]; exact kk ⟨h⟩)
theorem soD {f : FuncId} {fn : Func} {n : Nat} {args res : List (List D)} {p : Prop} (hf : P.funcs[f]? = some fn) (hn : fn.ntmps = n) (h : p) {c : Code} (hb : fn.body = some c := by exact rfl) (uW : U5 P f = true := by kernel_rfl)
  (kk : Bx p -> @WI P (xn n args) ⟨c⟩ (.fin (E8 P fn res)) := by (intro z; simp; (repeat (with_reducible refine Go.Mo.sd ?_)); exact z.h)) : YP P f args res := EX hf hb uW (by rw [hn]; exact kk ⟨h⟩)
theorem cF {α : Type} {u y z : α} {b c : Bool} {xc yc : yg} {p q : Prop} (f : Me u (bif c then y else z)) (ht : jL σ -> c = true -> Me u y -> p) (hf : jL σ -> c = false -> Me u z -> q) (hc : c = b := by simp) (kt : Bx p -> @WI P σ xc k := by (intro z; simp; (repeat (with_reducible refine Go.Mo.sd ?_)); exact z.h)) (kf : Bx q -> @WI P σ yc k := by (intro z; simp; (repeat (with_reducible refine Go.Mo.sd ?_)); exact z.h)) : @CI P b σ xc yc k :=
 PQ hc (fun s h => kt ⟨(ht s h ⟨f.h.trans (by rw [h]; rfl)⟩)⟩) (fun s h => kf ⟨(hf s h ⟨f.h.trans (by rw [h]; rfl)⟩)⟩)
theorem cFt {α : Type} {u y z : α} {b c : Bool} {xc yc : yg} {p : Prop} (f : Me u (bif c then y else z)) (ht : jL σ -> c = true -> Me u y -> p) (hf : jL σ -> c = false -> Me u z -> @WI P σ yc k) (hc : c = b := by simp) (kt : Bx p -> @WI P σ xc k := by (intro z; simp; (repeat (with_reducible refine Go.Mo.sd ?_)); exact z.h)) : @CI P b σ xc yc k :=
 PQ hc (fun s h => kt ⟨(ht s h ⟨f.h.trans (by rw [h]; rfl)⟩)⟩) (fun s h => (hf s h ⟨f.h.trans (by rw [h]; rfl)⟩))
theorem cFf {α : Type} {u y z : α} {b c : Bool} {xc yc : yg} {q : Prop} (f : Me u (bif c then y else z)) (ht : jL σ -> c = true -> Me u y -> @WI P σ xc k) (hf : jL σ -> c = false -> Me u z -> q) (hc : c = b := by simp) (kf : Bx q -> @WI P σ yc k := by (intro z; simp; (repeat (with_reducible refine Go.Mo.sd ?_)); exact z.h)) : @CI P b σ xc yc k :=
 PQ hc (fun s h => (ht s h ⟨f.h.trans (by rw [h]; rfl)⟩)) (fun s h => kf ⟨(hf s h ⟨f.h.trans (by rw [h]; rfl)⟩)⟩)
theorem cFo {α : Type} {u y z : α} {b c : Bool} {xc yc : yg} (f : Me u (bif c then y else z)) (ht : jL σ -> c = true -> Me u y -> @WI P σ xc k) (hf : jL σ -> c = false -> Me u z -> @WI P σ yc k) (hc : c = b := by simp) : @CI P b σ xc yc k :=
 PQ hc (fun s h => (ht s h ⟨f.h.trans (by rw [h]; rfl)⟩)) (fun s h => (hf s h ⟨f.h.trans (by rw [h]; rfl)⟩))
theorem cK {α : Type} {u y z : α} {b c : Bool} {xc yc : yg} {p q : Prop} (f : Me u (bif c then y else z)) (ht : jL σ -> c = true -> Me u y -> p) (hf : jL σ -> c = false -> Me u z -> q) (hc : c = b := by first | (simp [G]; done) | grind) (kt : Bx p -> @WI P σ xc k := by (intro z; simp [G, Go.Vm.ZE]; (repeat (with_reducible refine Go.Mo.sdg ?_)); exact z.h)) (kf : Bx q -> @WI P σ yc k := by (intro z; simp [G, Go.Vm.ZE]; (repeat (with_reducible refine Go.Mo.sdg ?_)); exact z.h)) : @CI P b σ xc yc k :=
 PQ hc (fun s h => kt ⟨(ht s h ⟨f.h.trans (by rw [h]; rfl)⟩)⟩) (fun s h => kf ⟨(hf s h ⟨f.h.trans (by rw [h]; rfl)⟩)⟩)
theorem cKt {α : Type} {u y z : α} {b c : Bool} {xc yc : yg} {p : Prop} (f : Me u (bif c then y else z)) (ht : jL σ -> c = true -> Me u y -> p) (hf : jL σ -> c = false -> Me u z -> @WI P σ yc k) (hc : c = b := by first | (simp [G]; done) | grind) (kt : Bx p -> @WI P σ xc k := by (intro z; simp [G, Go.Vm.ZE]; (repeat (with_reducible refine Go.Mo.sdg ?_)); exact z.h)) : @CI P b σ xc yc k :=
 PQ hc (fun s h => kt ⟨(ht s h ⟨f.h.trans (by rw [h]; rfl)⟩)⟩) (fun s h => (hf s h ⟨f.h.trans (by rw [h]; rfl)⟩))
theorem cKf {α : Type} {u y z : α} {b c : Bool} {xc yc : yg} {q : Prop} (f : Me u (bif c then y else z)) (ht : jL σ -> c = true -> Me u y -> @WI P σ xc k) (hf : jL σ -> c = false -> Me u z -> q) (hc : c = b := by first | (simp [G]; done) | grind) (kf : Bx q -> @WI P σ yc k := by (intro z; simp [G, Go.Vm.ZE]; (repeat (with_reducible refine Go.Mo.sdg ?_)); exact z.h)) : @CI P b σ xc yc k :=
 PQ hc (fun s h => (ht s h ⟨f.h.trans (by rw [h]; rfl)⟩)) (fun s h => kf ⟨(hf s h ⟨f.h.trans (by rw [h]; rfl)⟩)⟩)
theorem cKo {α : Type} {u y z : α} {b c : Bool} {xc yc : yg} (f : Me u (bif c then y else z)) (ht : jL σ -> c = true -> Me u y -> @WI P σ xc k) (hf : jL σ -> c = false -> Me u z -> @WI P σ yc k) (hc : c = b := by first | (simp [G]; done) | grind) : @CI P b σ xc yc k :=
 PQ hc (fun s h => (ht s h ⟨f.h.trans (by rw [h]; rfl)⟩)) (fun s h => (hf s h ⟨f.h.trans (by rw [h]; rfl)⟩))
theorem cRg {A : JP} {o : OpI} {l : Js} {c : Call} {f : FuncId} {d : Nat} {own : Bool} {rows res : List (List D)} {p : Prop} (hs : QB P f own rows res) (h : p) (uA : o.o.op = .call c := by exact rfl) (hc : c.callee = .value (.func f) := by exact rfl) (hg : o.o.guard = none := by exact rfl) (hd : o.o.dst = some d := by exact rfl) (uN : (Y5 P σ c.args.toList c.argTypes.toList).2 = some rows := by simp) (uH : (Y5 P σ c.args.toList c.argTypes.toList).1 := by simp) (uf : YM P σ c.args.toList c.argTypes.toList = true \/ JI own res := by simp) (kk : Bx p -> @EI P (σ.put d (ye res)) A l k := by (intro z; simp [G, Go.Vm.ZE]; (repeat (with_reducible refine Go.Mo.sdg ?_)); exact z.h)) : @SI P σ A o l k := Og uA hc hg hd hs uN uH uf (kk ⟨h⟩)
theorem cRs {A : JP} {o : OpI} {l : Js} {c : Call} {f : FuncId} {d : Nat} {own : Bool} {rows res : List (List D)} {p : Prop} (hs : QB P f own rows res) (h : p) (uA : o.o.op = .call c := by exact rfl) (hc : c.callee = .value (.func f) := by exact rfl) (hg : o.o.guard = none := by exact rfl) (hd : o.o.dst = some d := by exact rfl) (uN : (Y5 P σ c.args.toList c.argTypes.toList).2 = some rows := by simp) (uH : (Y5 P σ c.args.toList c.argTypes.toList).1 := by simp) (uf : YM P σ c.args.toList c.argTypes.toList = true \/ JI own res := by simp) (kk : Bx p -> @EI P (σ.put d (ye res)) A l k := by (intro z; simp; (repeat (with_reducible refine Go.Mo.sd ?_)); exact z.h)) : @SI P σ A o l k := Og uA hc hg hd hs uN uH uf (kk ⟨h⟩)
theorem cRf {A : JP} {o : OpI} {l : Js} {c : Call} {f : FuncId} {d : Nat} {own : Bool} {rows res : List (List D)} {p q : Prop} (F : q) (hs : QB P f own rows res) (h : p) (uA : o.o.op = .call c := by exact rfl) (hc : c.callee = .value (.func f) := by exact rfl) (hg : o.o.guard = none := by exact rfl) (hd : o.o.dst = some d := by exact rfl) (uN : (Y5 P σ c.args.toList c.argTypes.toList).2 = some rows := by simp) (uH : (Y5 P σ c.args.toList c.argTypes.toList).1 := by simp) (uf : YM P σ c.args.toList c.argTypes.toList = true \/ JI own res := by simp) (kk : q -> Bx p -> @EI P (σ.put d (ye res)) A l k := by (intro F z; simp [F, Go.Vm.ZE]; (repeat (with_reducible refine Go.Mo.sd ?_)); exact z.h)) : @SI P σ A o l k := Og uA hc hg hd hs uN uH uf (kk F ⟨h⟩)
theorem cOs {A : JP} {o : OpI} {l : Js} {c : Call} {f : FuncId} {d : Nat} {rows res : List (List D)} {p : Prop} (hs : QB P f true rows res) (h : p) (uA : o.o.op = .call c := by exact rfl) (hc : c.callee = .value (.func f) := by exact rfl) (hg : o.o.guard = none := by exact rfl) (hd : o.o.dst = some d := by exact rfl) (uN : (Y5 P σ c.args.toList c.argTypes.toList).2 = some rows := by simp) (uH : (Y5 P σ c.args.toList c.argTypes.toList).1 := by simp) (uf : YM P σ c.args.toList c.argTypes.toList = true \/ JI true res := by simp) (hf : σ.fresh d = true := by simp) (kk : Bx p -> @EI P (σ.new d (xL d res) (zW res.flatten)) A l k := by (intro z; simp; (repeat (with_reducible refine Go.Mo.sd ?_)); exact z.h)) : @SI P σ A o l k := CB uA hc hg hd hs uN uH uf hf (kk ⟨h⟩)
theorem cDg {A : JP} {o : OpI} {l : Js} {c : Call} {f : FuncId} {d : Nat} {rows res : List (List D)} {p : Prop} (qs : List Bool) (hs : YP P f rows res) (h : p) (uA : o.o.op = .call c := by exact rfl) (hc : c.callee = .value (.func f) := by exact rfl) (hg : o.o.guard = none := by exact rfl) (hd : o.o.dst = some d := by exact rfl) (uN : (Y5 P σ c.args.toList c.argTypes.toList).2 = some rows := by simp) (uH : (Y5 P σ c.args.toList c.argTypes.toList).1 := by simp) (hq : xk qs res.flatten := by simp [-Bool.exists_bool, -Bool.forall_bool]) (hf : σ.fresh d = true := by simp) (kk : Bx p -> @EI P (σ.new d (xL d res) (Yc qs res.flatten)) A l k := by (intro z; simp [G, Go.Vm.ZE]; (repeat (with_reducible refine Go.Mo.sdg ?_)); exact z.h)) : @SI P σ A o l k := IN qs uA hc hg hd hs uN uH hq hf (kk ⟨h⟩)
theorem cDs {A : JP} {o : OpI} {l : Js} {c : Call} {f : FuncId} {d : Nat} {rows res : List (List D)} {p : Prop} (qs : List Bool) (hs : YP P f rows res) (h : p) (uA : o.o.op = .call c := by exact rfl) (hc : c.callee = .value (.func f) := by exact rfl) (hg : o.o.guard = none := by exact rfl) (hd : o.o.dst = some d := by exact rfl) (uN : (Y5 P σ c.args.toList c.argTypes.toList).2 = some rows := by simp) (uH : (Y5 P σ c.args.toList c.argTypes.toList).1 := by simp) (hq : xk qs res.flatten := by simp [-Bool.exists_bool, -Bool.forall_bool]) (hf : σ.fresh d = true := by simp) (kk : Bx p -> @EI P (σ.new d (xL d res) (Yc qs res.flatten)) A l k := by (intro z; simp; (repeat (with_reducible refine Go.Mo.sd ?_)); exact z.h)) : @SI P σ A o l k := IN qs uA hc hg hd hs uN uH hq hf (kk ⟨h⟩)
theorem cDf {A : JP} {o : OpI} {l : Js} {c : Call} {f : FuncId} {d : Nat} {rows res : List (List D)} {p q : Prop} (F : q) (qs : List Bool) (hs : YP P f rows res) (h : p) (uA : o.o.op = .call c := by exact rfl) (hc : c.callee = .value (.func f) := by exact rfl) (hg : o.o.guard = none := by exact rfl) (hd : o.o.dst = some d := by exact rfl) (uN : (Y5 P σ c.args.toList c.argTypes.toList).2 = some rows := by simp) (uH : (Y5 P σ c.args.toList c.argTypes.toList).1 := by simp) (hq : xk qs res.flatten := by simp [-Bool.exists_bool, -Bool.forall_bool]) (hf : σ.fresh d = true := by simp) (kk : q -> Bx p -> @EI P (σ.new d (xL d res) (Yc qs res.flatten)) A l k := by (intro F z; simp [F, Go.Vm.ZE]; (repeat (with_reducible refine Go.Mo.sd ?_)); exact z.h)) : @SI P σ A o l k := IN qs uA hc hg hd hs uN uH hq hf (kk F ⟨h⟩)
theorem cGo {A : JP} {o : OpI} {l : Js} {c : Call} {f : FuncId} {d : Nat} {j dj : Nat} {want g own : Bool} {rows : List (List D)} {res : List D} (hs : g = true -> QB P f own rows [res]) (h : @EI P (σ.put d (.cnd g (ye [res]))) A l k) (uA : o.o.op = .call c := by exact rfl) (hc : c.callee = .value (.func f) := by exact rfl) (hg : o.o.guard = some (j, want) := by exact rfl) (hd : o.o.dst = some d := by exact rfl) (tx : (A.ops[j]?).bind (·.dst) = some dj := by exact rfl) (sE : y8 want (σ.get dj) = some g := by exact rfl) (uN : (Y5 P σ c.args.toList c.argTypes.toList).2 = some rows := by first | (simp; done) | (simp [G]; done) | (simp [G]; omega) | (simp_all; done)) (uL : dj < σ.length := by first | (simp; done) | (simp [G]; done) | (simp [G]; omega) | (simp_all; done)) (uH : g = true -> (Y5 P σ c.args.toList c.argTypes.toList).1 := by first | (simp; done) | (simp [G]; done) | (simp [G]; omega) | (simp_all; done)) (uf : YM P σ c.args.toList c.argTypes.toList = true \/ JI own [res] := by first | (simp; done) | (simp [G]; done) | (simp [G]; omega) | (simp_all; done)) : @SI P σ A o l k := Fy uA hc hg hd tx sE hs uN uL uH uf h
theorem cGg {A : JP} {o : OpI} {l : Js} {c : Call} {f : FuncId} {d : Nat} {j dj : Nat} {want g own : Bool} {rows : List (List D)} {res : List D} {p : Prop} (hs : g = true -> QB P f own rows [res]) (h : p) (uA : o.o.op = .call c := by exact rfl) (hc : c.callee = .value (.func f) := by exact rfl) (hg : o.o.guard = some (j, want) := by exact rfl) (hd : o.o.dst = some d := by exact rfl) (tx : (A.ops[j]?).bind (·.dst) = some dj := by exact rfl) (sE : y8 want (σ.get dj) = some g := by exact rfl) (uN : (Y5 P σ c.args.toList c.argTypes.toList).2 = some rows := by first | (simp; done) | (simp [G]; done) | (simp [G]; omega) | (simp_all; done)) (uL : dj < σ.length := by first | (simp; done) | (simp [G]; done) | (simp [G]; omega) | (simp_all; done)) (uH : g = true -> (Y5 P σ c.args.toList c.argTypes.toList).1 := by first | (simp; done) | (simp [G]; done) | (simp [G]; omega) | (simp_all; done)) (uf : YM P σ c.args.toList c.argTypes.toList = true \/ JI own [res] := by first | (simp; done) | (simp [G]; done) | (simp [G]; omega) | (simp_all; done)) (kk : Bx p -> @EI P (σ.put d (.cnd g (ye [res]))) A l k := by (intro z; simp [G, Go.Vm.ZE]; (repeat (with_reducible refine Go.Mo.sdg ?_)); exact z.h)) : @SI P σ A o l k := Fy uA hc hg hd tx sE hs uN uL uH uf (kk ⟨h⟩)
theorem cGs {A : JP} {o : OpI} {l : Js} {c : Call} {f : FuncId} {d : Nat} {j dj : Nat} {want g own : Bool} {rows : List (List D)} {res : List D} {p : Prop} (hs : g = true -> QB P f own rows [res]) (h : p) (uA : o.o.op = .call c := by exact rfl) (hc : c.callee = .value (.func f) := by exact rfl) (hg : o.o.guard = some (j, want) := by exact rfl) (hd : o.o.dst = some d := by exact rfl) (tx : (A.ops[j]?).bind (·.dst) = some dj := by exact rfl) (sE : y8 want (σ.get dj) = some g := by exact rfl) (uN : (Y5 P σ c.args.toList c.argTypes.toList).2 = some rows := by simp) (uL : dj < σ.length := by simp) (uH : g = true -> (Y5 P σ c.args.toList c.argTypes.toList).1 := by simp) (uf : YM P σ c.args.toList c.argTypes.toList = true \/ JI own [res] := by simp) (kk : Bx p -> @EI P (σ.put d (.cnd g (ye [res]))) A l k := by (intro z; simp; (repeat (with_reducible refine Go.Mo.sd ?_)); exact z.h)) : @SI P σ A o l k := Fy uA hc hg hd tx sE hs uN uL uH uf (kk ⟨h⟩)
theorem cBo {A : JP} {o : OpI} {l : Js} {cl : Call} {f : FuncId} {d : Nat} {x0 : Operand} {xs : List Operand} {t0 : TypeId} {ts : List TypeId} {uP res : List (List D)} {row uO : List D} {dp : Bool} {t : Nat} (qs : List Bool) (hs : zU P f dp row uP uO res) (h : @EI P (H9 dp (σ.Zs t 0 (.box (uO.map .d))) d res qs) A l k) (uA : o.o.op = .call cl := by exact rfl) (hc : cl.callee = .value (.func f) := by exact rfl) (oA : o.o.guard = none := by exact rfl) (hd : o.o.dst = some d := by exact rfl) (uv : A.bar o.o = true := by exact rfl) (ha : cl.args.toList = x0 :: xs := by exact rfl) (rj : cl.argTypes.toList = t0 :: ts := by exact rfl) (hx : gOf (look P σ t0 x0) = true /\ unc (look P σ t0 x0) = .one (.bptr t 0) := by exact ⟨rfl, rfl⟩) (ho : σ.ob t 0 = .box (row.map .d) := by simp) (uH : (Y5 P σ xs ts).1 := by simp) (uN : (Y5 P σ xs ts).2 = some uP := by simp) (uf : YM P σ xs ts = true := by simp) (tE : dp = true -> (σ.Zs t 0 (.box (uO.map .d))).fresh d = true /\ xk qs res.flatten := by simp [-Bool.exists_bool, -Bool.forall_bool]) : @SI P σ A o l k := Bu qs uA hc oA hd uv ha rj hs hx ho uH uN uf tE h
theorem cBs {A : JP} {o : OpI} {l : Js} {cl : Call} {f : FuncId} {d : Nat} {x0 : Operand} {xs : List Operand} {t0 : TypeId} {ts : List TypeId} {uP res : List (List D)} {row uO : List D} {dp : Bool} {t : Nat} {p : Prop} (qs : List Bool) (hs : zU P f dp row uP uO res) (h : p) (uA : o.o.op = .call cl := by exact rfl) (hc : cl.callee = .value (.func f) := by exact rfl) (oA : o.o.guard = none := by exact rfl) (hd : o.o.dst = some d := by exact rfl) (uv : A.bar o.o = true := by exact rfl) (ha : cl.args.toList = x0 :: xs := by exact rfl) (rj : cl.argTypes.toList = t0 :: ts := by exact rfl) (hx : gOf (look P σ t0 x0) = true /\ unc (look P σ t0 x0) = .one (.bptr t 0) := by exact ⟨rfl, rfl⟩) (ho : σ.ob t 0 = .box (row.map .d) := by simp) (uH : (Y5 P σ xs ts).1 := by simp) (uN : (Y5 P σ xs ts).2 = some uP := by simp) (uf : YM P σ xs ts = true := by simp) (tE : dp = true -> (σ.Zs t 0 (.box (uO.map .d))).fresh d = true /\ xk qs res.flatten := by simp [-Bool.exists_bool, -Bool.forall_bool]) (kk : Bx p -> @EI P (H9 dp (σ.Zs t 0 (.box (uO.map .d))) d res qs) A l k := by (intro z; simp; (repeat (with_reducible refine Go.Mo.sd ?_)); exact z.h)) : @SI P σ A o l k := Bu qs uA hc oA hd uv ha rj hs hx ho uH uN uf tE (kk ⟨h⟩)
theorem cNs {A : JP} {o : OpI} {l : Js} {cl : Call} {f : FuncId} {d : Nat} {uP : List (List D)} {uO : List D} {p : Prop} (hs : Rr P f uP uO) (h : p) (uA : o.o.op = .call cl := by exact rfl) (hc : cl.callee = .value (.func f) := by exact rfl) (oA : o.o.guard = none := by exact rfl) (hd : o.o.dst = some d := by exact rfl) (uv : A.bar o.o = true := by exact rfl) (uH : (Y5 P σ cl.args.toList cl.argTypes.toList).1 := by simp) (uN : (Y5 P σ cl.args.toList cl.argTypes.toList).2 = some uP := by simp) (uf : YM P σ cl.args.toList cl.argTypes.toList = true := by simp) (tE : σ.fresh d = true := by simp) (ri : Jp P o.o = false := by exact rfl) (kk : Bx p -> @EI P (σ.new d (.one (.bptr d 0)) [.box (uO.map .d)]) A l k := by (intro z; simp; (repeat (with_reducible refine Go.Mo.sd ?_)); exact z.h)) : @SI P σ A o l k := wL uA hc oA hd uv hs uH uN uf tE (kk ⟨h⟩) ri
theorem dIo {id : Nat} {l : List Oper} {br : Oper -> Bool} (hm : P.follows .mixedOrders = true) (h : @EI P σ ⟨⟨l⟩, fun _ => false⟩ ⟨l⟩ k) (hdr : Sb P ⟨l⟩ (fun i => i) (fun _ => false) = true := by kernel_rfl) (uk : zC ⟨l⟩ (fun i => i) σ = true := by kernel_rfl) : @DI P id σ ⟨⟨l⟩, br⟩ k := CJ hm hdr uk h
theorem dIg {id : Nat} {l : List Oper} {br : Oper -> Bool} {p : Prop} (hm : P.follows .mixedOrders = true) (h : p) (hdr : Sb P ⟨l⟩ (fun i => i) (fun _ => false) = true := by kernel_rfl) (uk : zC ⟨l⟩ (fun i => i) σ = true := by kernel_rfl) (kk : Bx p -> @EI P σ ⟨⟨l⟩, fun _ => false⟩ ⟨l⟩ k := by (intro z; simp [G, Go.Vm.ZE]; (repeat (with_reducible refine Go.Mo.sdg ?_)); exact z.h)) : @DI P id σ ⟨⟨l⟩, br⟩ k := CJ hm hdr uk (kk ⟨h⟩)
theorem dIs {id : Nat} {l : List Oper} {br : Oper -> Bool} {p : Prop} (hm : P.follows .mixedOrders = true) (h : p) (hdr : Sb P ⟨l⟩ (fun i => i) (fun _ => false) = true := by kernel_rfl) (uk : zC ⟨l⟩ (fun i => i) σ = true := by kernel_rfl) (kk : Bx p -> @EI P σ ⟨⟨l⟩, fun _ => false⟩ ⟨l⟩ k := by (intro z; (try simp); (repeat (with_reducible refine Go.Mo.sd ?_)); exact z.h)) : @DI P id σ ⟨⟨l⟩, br⟩ k := CJ hm hdr uk (kk ⟨h⟩)
theorem eIs {A : JP} {o : OpI} {l : Js} {d : Nat} {p : Prop}  (h : p) (hp : Iq o.o = true := by exact rfl) (hg : o.o.guard = none := by exact rfl) (hd : o.o.dst = some d := by exact rfl) (kk : Bx p -> (evS P σ o.o d).1 /\ @EI P (evS P σ o.o d).2 A l k := by (intro z; simp; (repeat (with_reducible refine Go.Mo.sd ?_)); exact z.h)) : @SI P σ A o l k := evI hp hg hd (kk ⟨h⟩)
theorem sGo {A : JP} {o : OpI} {l : Js} {j dj d : Nat} {want g : Bool}  (h : @EI P (σ.put d (.cnd false .any)) A l k) (hg : o.o.guard = some (j, want) := by exact rfl) (hd : o.o.dst = some d := by exact rfl) (tx : (A.ops[j]?).bind (·.dst) = some dj := by exact rfl) (sE : y8 want (σ.get dj) = some g := by exact rfl) (uL : dj < σ.length := by simp) (l3 : g = false := by simp [G]) : @SI P σ A o l k := B2 hg hd tx sE uL l3 h
theorem sGg {A : JP} {o : OpI} {l : Js} {j dj d : Nat} {want g : Bool} {p : Prop}  (h : p) (hg : o.o.guard = some (j, want) := by exact rfl) (hd : o.o.dst = some d := by exact rfl) (tx : (A.ops[j]?).bind (·.dst) = some dj := by exact rfl) (sE : y8 want (σ.get dj) = some g := by exact rfl) (uL : dj < σ.length := by simp) (l3 : g = false := by simp [G]) (kk : Bx p -> @EI P (σ.put d (.cnd false .any)) A l k := by (intro z; simp [G, Go.Vm.ZE]; (repeat (with_reducible refine Go.Mo.sdg ?_)); exact z.h)) : @SI P σ A o l k := B2 hg hd tx sE uL l3 (kk ⟨h⟩)
theorem gIf {A : JP} {o : OpI} {l : Js} {j dj d : Nat} {want g : Bool} {r1 r2 : Prop} {q : Prop} (ht : r1 -> ((evV P σ o.o.op o.o.type).1 /\ gOf (evV P σ o.o.op o.o.type).2 = true /\ (unc (evV P σ o.o.op o.o.type).2).flat = true) /\ @EI P (σ.put d (.cnd true (unc (evV P σ o.o.op o.o.type).2))) A l k) (hf : r2 -> q) (uA : Ra o.o.op = false := by exact rfl) (hg : o.o.guard = some (j, want) := by exact rfl) (hd : o.o.dst = some d := by exact rfl) (tx : (A.ops[j]?).bind (·.dst) = some dj := by exact rfl) (sE : y8 want (σ.get dj) = some g := by exact rfl) (uL : dj < σ.length := by simp) (k1 : g = true -> r1 := by (intro h; (try simp only [beq_true, beq_false, Bool.not_eq_true', Bool.not_eq_false', Bool.true_and, Bool.and_true] at h); exact h)) (k2 : g = false -> r2 := by (intro h; (try simp only [beq_true, beq_false, Bool.not_eq_true', Bool.not_eq_false', Bool.true_and, Bool.and_true] at h); exact h)) (kf : r2 -> Bx q -> @EI P (σ.put d (.cnd false .any)) A l k := by (intro G z; simp [G, Go.Vm.ZE]; (repeat (with_reducible refine Go.Mo.sdg ?_)); exact z.h)) : @SI P σ A o l k := N1 uA hg hd tx sE uL (fun h => ht (k1 h)) (fun h => (fun G => kf G ⟨hf G⟩) (k2 h))
theorem gIo {A : JP} {o : OpI} {l : Js} {j dj d : Nat} {want g : Bool} {r1 r2 : Prop} (ht : r1 -> ((evV P σ o.o.op o.o.type).1 /\ gOf (evV P σ o.o.op o.o.type).2 = true /\ (unc (evV P σ o.o.op o.o.type).2).flat = true) /\ @EI P (σ.put d (.cnd true (unc (evV P σ o.o.op o.o.type).2))) A l k) (hf : r2 -> @EI P (σ.put d (.cnd false .any)) A l k) (uA : Ra o.o.op = false := by exact rfl) (hg : o.o.guard = some (j, want) := by exact rfl) (hd : o.o.dst = some d := by exact rfl) (tx : (A.ops[j]?).bind (·.dst) = some dj := by exact rfl) (sE : y8 want (σ.get dj) = some g := by exact rfl) (uL : dj < σ.length := by simp) (k1 : g = true -> r1 := by (intro h; (try simp only [beq_true, beq_false, Bool.not_eq_true', Bool.not_eq_false', Bool.true_and, Bool.and_true] at h); exact h)) (k2 : g = false -> r2 := by (intro h; (try simp only [beq_true, beq_false, Bool.not_eq_true', Bool.not_eq_false', Bool.true_and, Bool.and_true] at h); exact h)) : @SI P σ A o l k := N1 uA hg hd tx sE uL (fun h => ht (k1 h)) (fun h => hf (k2 h))
theorem gJf {A : JP} {o : OpI} {l : Js} {j dj d : Nat} {want g : Bool} {r1 r2 s : Prop} {q : Prop} (G : s) (ht : s /\ r1 -> ((evV P σ o.o.op o.o.type).1 /\ gOf (evV P σ o.o.op o.o.type).2 = true /\ (unc (evV P σ o.o.op o.o.type).2).flat = true) /\ @EI P (σ.put d (.cnd true (unc (evV P σ o.o.op o.o.type).2))) A l k) (hf : s /\ r2 -> q) (uA : Ra o.o.op = false := by exact rfl) (hg : o.o.guard = some (j, want) := by exact rfl) (hd : o.o.dst = some d := by exact rfl) (tx : (A.ops[j]?).bind (·.dst) = some dj := by exact rfl) (sE : y8 want (σ.get dj) = some g := by exact rfl) (uL : dj < σ.length := by simp) (k1 : g = true -> r1 := by (intro h; (try simp only [beq_true, beq_false, Bool.not_eq_true', Bool.not_eq_false', Bool.true_and, Bool.and_true] at h); exact h)) (k2 : g = false -> r2 := by (intro h; (try simp only [beq_true, beq_false, Bool.not_eq_true', Bool.not_eq_false', Bool.true_and, Bool.and_true] at h); exact h)) (kf : s /\ r2 -> Bx q -> @EI P (σ.put d (.cnd false .any)) A l k := by (intro G z; simp [G, Go.Vm.ZE]; (repeat (with_reducible refine Go.Mo.sdg ?_)); exact z.h)) : @SI P σ A o l k := N1 uA hg hd tx sE uL (fun h => ht ⟨G, k1 h⟩) (fun h => (fun G => kf G ⟨hf G⟩) ⟨G, k2 h⟩)
theorem gJo {A : JP} {o : OpI} {l : Js} {j dj d : Nat} {want g : Bool} {r1 r2 s : Prop} (G : s) (ht : s /\ r1 -> ((evV P σ o.o.op o.o.type).1 /\ gOf (evV P σ o.o.op o.o.type).2 = true /\ (unc (evV P σ o.o.op o.o.type).2).flat = true) /\ @EI P (σ.put d (.cnd true (unc (evV P σ o.o.op o.o.type).2))) A l k) (hf : s /\ r2 -> @EI P (σ.put d (.cnd false .any)) A l k) (uA : Ra o.o.op = false := by exact rfl) (hg : o.o.guard = some (j, want) := by exact rfl) (hd : o.o.dst = some d := by exact rfl) (tx : (A.ops[j]?).bind (·.dst) = some dj := by exact rfl) (sE : y8 want (σ.get dj) = some g := by exact rfl) (uL : dj < σ.length := by simp) (k1 : g = true -> r1 := by (intro h; (try simp only [beq_true, beq_false, Bool.not_eq_true', Bool.not_eq_false', Bool.true_and, Bool.and_true] at h); exact h)) (k2 : g = false -> r2 := by (intro h; (try simp only [beq_true, beq_false, Bool.not_eq_true', Bool.not_eq_false', Bool.true_and, Bool.and_true] at h); exact h)) : @SI P σ A o l k := N1 uA hg hd tx sE uL (fun h => ht ⟨G, k1 h⟩) (fun h => hf ⟨G, k2 h⟩)
theorem gK {A : JP} {o : OpI} {l : Js} {j dj d : Nat} {want g : Bool} {r1 : Prop} (ht : r1 -> ((evV P σ o.o.op o.o.type).1 /\ gOf (evV P σ o.o.op o.o.type).2 = true /\ (unc (evV P σ o.o.op o.o.type).2).flat = true) /\ @EI P (σ.put d (.cnd true (unc (evV P σ o.o.op o.o.type).2))) A l k) (uA : Ra o.o.op = false := by exact rfl) (hg : o.o.guard = some (j, want) := by exact rfl) (hd : o.o.dst = some d := by exact rfl) (tx : (A.ops[j]?).bind (·.dst) = some dj := by exact rfl) (sE : y8 want (σ.get dj) = some g := by exact rfl) (uL : dj < σ.length := by simp) (k1 : g = true -> r1 := by (intro h; (try simp only [beq_true, beq_false, Bool.not_eq_true', Bool.not_eq_false', Bool.true_and, Bool.and_true] at h); exact h)) (k2 : g = false -> False := by first | (intro g0; simp at g0; done) | (intro g0; simp [G] at g0; done)) : @SI P σ A o l k := N1 uA hg hd tx sE uL (fun h => ht (k1 h)) (fun h => (k2 h).elim)
theorem rt {α : Type} {x y : α} {fn : Func} {res : List (List D)} (rv : List ResultVar) (f : Me x y) (hf : fn.results = rv.toArray := by exact rfl) (h : x = y -> (Ql P σ rv).1 /\ xy σ (Ql P σ rv).2 = some res := by (intro f; simp [f])) : He P fn false res .ret σ := PM hf (h f.h)
theorem rtg {α : Type} {x y : α} {fn : Func} {res : List (List D)} (rv : List ResultVar) (f : Me x y) (hf : fn.results = rv.toArray := by exact rfl) (h : x = y -> (Ql P σ rv).1 /\ xy σ (Ql P σ rv).2 = some res := by (intro f; simp [f, G])) : He P fn false res .ret σ := PM hf (h f.h)
theorem rtO {α : Type} {x y : α} {fn : Func} {res : List (List D)} (rv : List ResultVar) (f : Me x y) (hf : fn.results = rv.toArray := by exact rfl) (h : x = y -> (Ql P σ rv).1 /\ kd σ (Ql P σ rv).2 = some res /\ (XL (Ql P σ rv).2.flatten).Nodup := by (intro f; simp [f])) : He P fn true res .ret σ := Aa hf (h f.h)
theorem rtD {α : Type} {x y : α} {fn : Func} {res : List (List D)} (rv : List ResultVar) (f : Me x y) (hf : fn.results = rv.toArray := by exact rfl) (h : x = y -> (Ql P σ rv).1 /\ JL σ (Ql P σ rv).2 = some res /\ Qv σ (Ql P σ rv).2 /\ (XL (Ql P σ rv).2.flatten).Nodup := by (intro f; simp [f, -Bool.exists_bool, -Bool.forall_bool])) : E8 P fn res .ret σ := Er hf (h f.h)
theorem Q6 {α : Type} {x y : α} {fn : Func} {res : List (List D)} (rv : List ResultVar) (f : Me x y) (hf : fn.results = rv.toArray := by exact rfl) (h : x = y -> (Ql P σ rv).1 /\ JL σ (Ql P σ rv).2 = some res /\ Qv σ (Ql P σ rv).2 /\ (XL (Ql P σ rv).2.flatten).Nodup := by (intro f; simp [f, G, -Bool.exists_bool, -Bool.forall_bool])) : E8 P fn res .ret σ := Er hf (h f.h)
end
class NxI where
 p : St -> Prop
def Nx (σ : St) [n : NxI] : Prop := n.p σ
section
variable {P : Program} {σ : St} {k : Fr}
theorem NQ {c : yg} {n n' : St -> Prop} (hn : ∀ σ', n σ' -> n' σ') (h : @WI P σ c (.nxt n k)) : AWP P c.c (Fr.run P (.nxt n' k)) σ :=
 GP (fun e σ' hq => by cases e <;> first | exact hn _ hq | exact hq) (kv h)
abbrev Q1 {R : Type} {A0 : Type} (L : Nat -> A0 -> R) (S : A0 -> St) (I : Nat -> A0 -> Prop) (t : R) (b : Nat) : NxI := ⟨fun τ => ∃ a0, Me t (L b a0) /\ (1 <= b /\ I b a0) /\ Wk τ (S a0)⟩
theorem nx1 {R : Type} {A0 : Type} {L : Nat -> A0 -> R} {S : A0 -> St} {I : Nat -> A0 -> Prop} {t : R} {b : Nat} {a0 : A0} (e : Me t (L b a0)) (hI : 1 <= b /\ I b a0 := by ((try dsimp only); first | omega | (simp at *; omega))) (hw : Wk σ (S a0) := by exact z9 (by simp)) : @Nx σ (Q1 L S I t b) := ⟨a0, e, hI, hw⟩
theorem ny1 {R : Type} {A0 : Type} {L : Nat -> A0 -> R} {S : A0 -> St} {I : Nat -> A0 -> Prop} {t : R} {b : Nat} {a0 : A0} {q : Prop} (F : q) (e : Me t (L b a0)) (hI : 1 <= b /\ I b a0 := by ((try dsimp only); first | omega | (simp at *; omega))) (kw : q -> Wk σ (S a0) := by (intro F; exact z9 (by simp [F]))) : @Nx σ (Q1 L S I t b) := ⟨a0, e, hI, kw F⟩
theorem lp1 {c : yg} {R : Type} {A0 : Type} {L B : Nat -> A0 -> R} (hL : ∀ (a0 : A0) (n : Nat), L (Nat.succ n) a0 = B n a0) (S : A0 -> St) (I : Nat -> A0 -> Prop) (n0 : Nat) (b0 : A0) {p : Nat -> A0 -> Prop}
  (round : ∀ n (a0 : A0), Me (L n0 b0) (B n a0) -> 1 <= n + 1 /\ I (n + 1) a0 -> p n a0) (hI : 1 <= n0 /\ I n0 b0 := by first | omega | (dsimp only; omega) | simp) (h0 : Wk σ (S b0) := by exact z9 (by simp)) (kk : ∀ n (a0 : A0), Bx (p n a0) -> @WI P (S a0) c (.nxt (fun σ' => @Nx σ' (Q1 L S I (L n0 b0) n)) k) := by (intro n_ hQ z; simp; (repeat (with_reducible refine Go.Mo.sd ?_)); exact z.h)) : @S4 P σ c k := by
 refine Vi (ι := { s : Nat × A0 // Me (L n0 b0) (L s.1 s.2) /\ (1 <= s.1 /\ I s.1 s.2) }) (fun s => S s.1.2) (fun s => s.1.1) ⟨(n0, b0), ⟨rfl⟩, hI⟩ h0 ?_
 rintro ⟨⟨n1, a0⟩, e, j⟩
 obtain ⟨n, rfl⟩ : ∃ q, n1 = q + 1 := ⟨n1 - 1, by have := j.1; (try dsimp only at this); omega⟩
 refine NQ (fun σ' hn => ?_) (kk n a0 ⟨round n a0 ⟨by have := e.h; (try dsimp only at this); rw [this, hL]⟩ j⟩)
 obtain ⟨c0, e2, j2, w2⟩ := hn
 exact ⟨⟨(n, c0), e2, j2⟩, Nat.lt_succ_self n, w2⟩
abbrev Q2 {R : Type} {A0 A1 : Type} (L : Nat -> A0 -> A1 -> R) (S : A0 -> A1 -> St) (I : Nat -> A0 -> A1 -> Prop) (t : R) (b : Nat) : NxI := ⟨fun τ => ∃ a0 a1, Me t (L b a0 a1) /\ (1 <= b /\ I b a0 a1) /\ Wk τ (S a0 a1)⟩
theorem nx2 {R : Type} {A0 A1 : Type} {L : Nat -> A0 -> A1 -> R} {S : A0 -> A1 -> St} {I : Nat -> A0 -> A1 -> Prop} {t : R} {b : Nat} {a0 : A0} {a1 : A1} (e : Me t (L b a0 a1)) (hI : 1 <= b /\ I b a0 a1 := by ((try dsimp only); first | omega | (simp at *; omega))) (hw : Wk σ (S a0 a1) := by exact z9 (by simp)) : @Nx σ (Q2 L S I t b) := ⟨a0, a1, e, hI, hw⟩
theorem ny2 {R : Type} {A0 A1 : Type} {L : Nat -> A0 -> A1 -> R} {S : A0 -> A1 -> St} {I : Nat -> A0 -> A1 -> Prop} {t : R} {b : Nat} {a0 : A0} {a1 : A1} {q : Prop} (F : q) (e : Me t (L b a0 a1)) (hI : 1 <= b /\ I b a0 a1 := by ((try dsimp only); first | omega | (simp at *; omega))) (kw : q -> Wk σ (S a0 a1) := by (intro F; exact z9 (by simp [F]))) : @Nx σ (Q2 L S I t b) := ⟨a0, a1, e, hI, kw F⟩
theorem lp2 {c : yg} {R : Type} {A0 A1 : Type} {L B : Nat -> A0 -> A1 -> R} (hL : ∀ (a0 : A0) (a1 : A1) (n : Nat), L (Nat.succ n) a0 a1 = B n a0 a1) (S : A0 -> A1 -> St) (I : Nat -> A0 -> A1 -> Prop) (n0 : Nat) (b0 : A0) (b1 : A1) {p : Nat -> A0 -> A1 -> Prop}
  (round : ∀ n (a0 : A0) (a1 : A1), Me (L n0 b0 b1) (B n a0 a1) -> 1 <= n + 1 /\ I (n + 1) a0 a1 -> p n a0 a1) (hI : 1 <= n0 /\ I n0 b0 b1 := by first | omega | (dsimp only; omega) | simp) (h0 : Wk σ (S b0 b1) := by exact z9 (by simp)) (kk : ∀ n (a0 : A0) (a1 : A1), Bx (p n a0 a1) -> @WI P (S a0 a1) c (.nxt (fun σ' => @Nx σ' (Q2 L S I (L n0 b0 b1) n)) k) := by (intro n_ hQ gv z; simp; (repeat (with_reducible refine Go.Mo.sd ?_)); exact z.h)) : @S4 P σ c k := by
 refine Vi (ι := { s : Nat × A0 × A1 // Me (L n0 b0 b1) (L s.1 s.2.1 s.2.2) /\ (1 <= s.1 /\ I s.1 s.2.1 s.2.2) }) (fun s => S s.1.2.1 s.1.2.2) (fun s => s.1.1) ⟨(n0, b0, b1), ⟨rfl⟩, hI⟩ h0 ?_
 rintro ⟨⟨n1, a0, a1⟩, e, j⟩
 obtain ⟨n, rfl⟩ : ∃ q, n1 = q + 1 := ⟨n1 - 1, by have := j.1; (try dsimp only at this); omega⟩
 refine NQ (fun σ' hn => ?_) (kk n a0 a1 ⟨round n a0 a1 ⟨by have := e.h; (try dsimp only at this); rw [this, hL]⟩ j⟩)
 obtain ⟨c0, c1, e2, j2, w2⟩ := hn
 exact ⟨⟨(n, c0, c1), e2, j2⟩, Nat.lt_succ_self n, w2⟩
abbrev Q3 {R : Type} {A0 A1 A2 : Type} (L : Nat -> A0 -> A1 -> A2 -> R) (S : A0 -> A1 -> A2 -> St) (I : Nat -> A0 -> A1 -> A2 -> Prop) (t : R) (b : Nat) : NxI := ⟨fun τ => ∃ a0 a1 a2, Me t (L b a0 a1 a2) /\ (1 <= b /\ I b a0 a1 a2) /\ Wk τ (S a0 a1 a2)⟩
theorem nx3 {R : Type} {A0 A1 A2 : Type} {L : Nat -> A0 -> A1 -> A2 -> R} {S : A0 -> A1 -> A2 -> St} {I : Nat -> A0 -> A1 -> A2 -> Prop} {t : R} {b : Nat} {a0 : A0} {a1 : A1} {a2 : A2} (e : Me t (L b a0 a1 a2)) (hI : 1 <= b /\ I b a0 a1 a2 := by ((try dsimp only); first | omega | (simp at *; omega))) (hw : Wk σ (S a0 a1 a2) := by exact z9 (by simp)) : @Nx σ (Q3 L S I t b) := ⟨a0, a1, a2, e, hI, hw⟩
theorem ny3 {R : Type} {A0 A1 A2 : Type} {L : Nat -> A0 -> A1 -> A2 -> R} {S : A0 -> A1 -> A2 -> St} {I : Nat -> A0 -> A1 -> A2 -> Prop} {t : R} {b : Nat} {a0 : A0} {a1 : A1} {a2 : A2} {q : Prop} (F : q) (e : Me t (L b a0 a1 a2)) (hI : 1 <= b /\ I b a0 a1 a2 := by ((try dsimp only); first | omega | (simp at *; omega))) (kw : q -> Wk σ (S a0 a1 a2) := by (intro F; exact z9 (by simp [F]))) : @Nx σ (Q3 L S I t b) := ⟨a0, a1, a2, e, hI, kw F⟩
theorem lp3 {c : yg} {R : Type} {A0 A1 A2 : Type} {L B : Nat -> A0 -> A1 -> A2 -> R} (hL : ∀ (a0 : A0) (a1 : A1) (a2 : A2) (n : Nat), L (Nat.succ n) a0 a1 a2 = B n a0 a1 a2) (S : A0 -> A1 -> A2 -> St) (I : Nat -> A0 -> A1 -> A2 -> Prop) (n0 : Nat) (b0 : A0) (b1 : A1) (b2 : A2) {p : Nat -> A0 -> A1 -> A2 -> Prop}
  (round : ∀ n (a0 : A0) (a1 : A1) (a2 : A2), Me (L n0 b0 b1 b2) (B n a0 a1 a2) -> 1 <= n + 1 /\ I (n + 1) a0 a1 a2 -> p n a0 a1 a2) (hI : 1 <= n0 /\ I n0 b0 b1 b2 := by first | omega | (dsimp only; omega) | simp) (h0 : Wk σ (S b0 b1 b2) := by exact z9 (by simp)) (kk : ∀ n (a0 : A0) (a1 : A1) (a2 : A2), Bx (p n a0 a1 a2) -> @WI P (S a0 a1 a2) c (.nxt (fun σ' => @Nx σ' (Q3 L S I (L n0 b0 b1 b2) n)) k) := by (intro n_ hQ gv eC z; simp; (repeat (with_reducible refine Go.Mo.sd ?_)); exact z.h)) : @S4 P σ c k := by
 refine Vi (ι := { s : Nat × A0 × A1 × A2 // Me (L n0 b0 b1 b2) (L s.1 s.2.1 s.2.2.1 s.2.2.2) /\ (1 <= s.1 /\ I s.1 s.2.1 s.2.2.1 s.2.2.2) }) (fun s => S s.1.2.1 s.1.2.2.1 s.1.2.2.2) (fun s => s.1.1) ⟨(n0, b0, b1, b2), ⟨rfl⟩, hI⟩ h0 ?_
 rintro ⟨⟨n1, a0, a1, a2⟩, e, j⟩
 obtain ⟨n, rfl⟩ : ∃ q, n1 = q + 1 := ⟨n1 - 1, by have := j.1; (try dsimp only at this); omega⟩
 refine NQ (fun σ' hn => ?_) (kk n a0 a1 a2 ⟨round n a0 a1 a2 ⟨by have := e.h; (try dsimp only at this); rw [this, hL]⟩ j⟩)
 obtain ⟨c0, c1, c2, e2, j2, w2⟩ := hn
 exact ⟨⟨(n, c0, c1, c2), e2, j2⟩, Nat.lt_succ_self n, w2⟩
abbrev Q5 {R : Type} {A0 A1 A2 A3 A4 : Type} (L : Nat -> A0 -> A1 -> A2 -> A3 -> A4 -> R) (S : A0 -> A1 -> A2 -> A3 -> A4 -> St) (I : Nat -> A0 -> A1 -> A2 -> A3 -> A4 -> Prop) (t : R) (b : Nat) : NxI := ⟨fun τ => ∃ a0 a1 a2 a3 a4, Me t (L b a0 a1 a2 a3 a4) /\ (1 <= b /\ I b a0 a1 a2 a3 a4) /\ Wk τ (S a0 a1 a2 a3 a4)⟩
theorem nx5 {R : Type} {A0 A1 A2 A3 A4 : Type} {L : Nat -> A0 -> A1 -> A2 -> A3 -> A4 -> R} {S : A0 -> A1 -> A2 -> A3 -> A4 -> St} {I : Nat -> A0 -> A1 -> A2 -> A3 -> A4 -> Prop} {t : R} {b : Nat} {a0 : A0} {a1 : A1} {a2 : A2} {a3 : A3} {a4 : A4} (e : Me t (L b a0 a1 a2 a3 a4)) (hI : 1 <= b /\ I b a0 a1 a2 a3 a4 := by ((try dsimp only); first | omega | (simp at *; omega))) (hw : Wk σ (S a0 a1 a2 a3 a4) := by exact z9 (by simp)) : @Nx σ (Q5 L S I t b) := ⟨a0, a1, a2, a3, a4, e, hI, hw⟩
theorem lp5 {c : yg} {R : Type} {A0 A1 A2 A3 A4 : Type} {L B : Nat -> A0 -> A1 -> A2 -> A3 -> A4 -> R} (hL : ∀ (a0 : A0) (a1 : A1) (a2 : A2) (a3 : A3) (a4 : A4) (n : Nat), L (Nat.succ n) a0 a1 a2 a3 a4 = B n a0 a1 a2 a3 a4) (S : A0 -> A1 -> A2 -> A3 -> A4 -> St) (I : Nat -> A0 -> A1 -> A2 -> A3 -> A4 -> Prop) (n0 : Nat) (b0 : A0) (b1 : A1) (b2 : A2) (b3 : A3) (b4 : A4) {p : Nat -> A0 -> A1 -> A2 -> A3 -> A4 -> Prop}
  (round : ∀ n (a0 : A0) (a1 : A1) (a2 : A2) (a3 : A3) (a4 : A4), Me (L n0 b0 b1 b2 b3 b4) (B n a0 a1 a2 a3 a4) -> 1 <= n + 1 /\ I (n + 1) a0 a1 a2 a3 a4 -> p n a0 a1 a2 a3 a4) (hI : 1 <= n0 /\ I n0 b0 b1 b2 b3 b4 := by first | omega | (dsimp only; omega) | simp) (h0 : Wk σ (S b0 b1 b2 b3 b4) := by exact z9 (by simp)) (kk : ∀ n (a0 : A0) (a1 : A1) (a2 : A2) (a3 : A3) (a4 : A4), Bx (p n a0 a1 a2 a3 a4) -> @WI P (S a0 a1 a2 a3 a4) c (.nxt (fun σ' => @Nx σ' (Q5 L S I (L n0 b0 b1 b2 b3 b4) n)) k) := by (intro n_ hQ gv eC dM dN z; simp; (repeat (with_reducible refine Go.Mo.sd ?_)); exact z.h)) : @S4 P σ c k := by
 refine Vi (ι := { s : Nat × A0 × A1 × A2 × A3 × A4 // Me (L n0 b0 b1 b2 b3 b4) (L s.1 s.2.1 s.2.2.1 s.2.2.2.1 s.2.2.2.2.1 s.2.2.2.2.2) /\ (1 <= s.1 /\ I s.1 s.2.1 s.2.2.1 s.2.2.2.1 s.2.2.2.2.1 s.2.2.2.2.2) }) (fun s => S s.1.2.1 s.1.2.2.1 s.1.2.2.2.1 s.1.2.2.2.2.1 s.1.2.2.2.2.2) (fun s => s.1.1) ⟨(n0, b0, b1, b2, b3, b4), ⟨rfl⟩, hI⟩ h0 ?_
 rintro ⟨⟨n1, a0, a1, a2, a3, a4⟩, e, j⟩
 obtain ⟨n, rfl⟩ : ∃ q, n1 = q + 1 := ⟨n1 - 1, by have := j.1; (try dsimp only at this); omega⟩
 refine NQ (fun σ' hn => ?_) (kk n a0 a1 a2 a3 a4 ⟨round n a0 a1 a2 a3 a4 ⟨by have := e.h; (try dsimp only at this); rw [this, hL]⟩ j⟩)
 obtain ⟨c0, c1, c2, c3, c4, e2, j2, w2⟩ := hn
 exact ⟨⟨(n, c0, c1, c2, c3, c4), e2, j2⟩, Nat.lt_succ_self n, w2⟩
abbrev Q16 {R : Type} {A0 A1 A2 A3 A4 A5 A6 A7 A8 A9 pB pC pD pE pF pG : Type} (L : Nat -> A0 -> A1 -> A2 -> A3 -> A4 -> A5 -> A6 -> A7 -> A8 -> A9 -> pB -> pC -> pD -> pE -> pF -> pG -> R) (S : A0 -> A1 -> A2 -> A3 -> A4 -> A5 -> A6 -> A7 -> A8 -> A9 -> pB -> pC -> pD -> pE -> pF -> pG -> St) (I : Nat -> A0 -> A1 -> A2 -> A3 -> A4 -> A5 -> A6 -> A7 -> A8 -> A9 -> pB -> pC -> pD -> pE -> pF -> pG -> Prop) (t : R) (b : Nat) : NxI := ⟨fun τ => ∃ a0 a1 a2 a3 a4 a5 a6 a7 a8 a9 rV rW rX rY rZ ra, Me t (L b a0 a1 a2 a3 a4 a5 a6 a7 a8 a9 rV rW rX rY rZ ra) /\ (1 <= b /\ I b a0 a1 a2 a3 a4 a5 a6 a7 a8 a9 rV rW rX rY rZ ra) /\ Wk τ (S a0 a1 a2 a3 a4 a5 a6 a7 a8 a9 rV rW rX rY rZ ra)⟩
theorem wq {R : Type} {A0 A1 A2 A3 A4 A5 A6 A7 A8 A9 pB pC pD pE pF pG : Type} {L : Nat -> A0 -> A1 -> A2 -> A3 -> A4 -> A5 -> A6 -> A7 -> A8 -> A9 -> pB -> pC -> pD -> pE -> pF -> pG -> R} {S : A0 -> A1 -> A2 -> A3 -> A4 -> A5 -> A6 -> A7 -> A8 -> A9 -> pB -> pC -> pD -> pE -> pF -> pG -> St} {I : Nat -> A0 -> A1 -> A2 -> A3 -> A4 -> A5 -> A6 -> A7 -> A8 -> A9 -> pB -> pC -> pD -> pE -> pF -> pG -> Prop} {t : R} {b : Nat} {a0 : A0} {a1 : A1} {a2 : A2} {a3 : A3} {a4 : A4} {a5 : A5} {a6 : A6} {a7 : A7} {a8 : A8} {a9 : A9} {rV : pB} {rW : pC} {rX : pD} {rY : pE} {rZ : pF} {ra : pG} (e : Me t (L b a0 a1 a2 a3 a4 a5 a6 a7 a8 a9 rV rW rX rY rZ ra)) (hI : 1 <= b /\ I b a0 a1 a2 a3 a4 a5 a6 a7 a8 a9 rV rW rX rY rZ ra := by ((try dsimp only); first | omega | (simp at *; omega))) (hw : Wk σ (S a0 a1 a2 a3 a4 a5 a6 a7 a8 a9 rV rW rX rY rZ ra) := by exact z9 (by simp)) : @Nx σ (Q16 L S I t b) := ⟨a0, a1, a2, a3, a4, a5, a6, a7, a8, a9, rV, rW, rX, rY, rZ, ra, e, hI, hw⟩
theorem wi {c : yg} {R : Type} {A0 A1 A2 A3 A4 A5 A6 A7 A8 A9 pB pC pD pE pF pG : Type} {L B : Nat -> A0 -> A1 -> A2 -> A3 -> A4 -> A5 -> A6 -> A7 -> A8 -> A9 -> pB -> pC -> pD -> pE -> pF -> pG -> R} (hL : ∀ (a0 : A0) (a1 : A1) (a2 : A2) (a3 : A3) (a4 : A4) (a5 : A5) (a6 : A6) (a7 : A7) (a8 : A8) (a9 : A9) (rV : pB) (rW : pC) (rX : pD) (rY : pE) (rZ : pF) (ra : pG) (n : Nat), L (Nat.succ n) a0 a1 a2 a3 a4 a5 a6 a7 a8 a9 rV rW rX rY rZ ra = B n a0 a1 a2 a3 a4 a5 a6 a7 a8 a9 rV rW rX rY rZ ra) (S : A0 -> A1 -> A2 -> A3 -> A4 -> A5 -> A6 -> A7 -> A8 -> A9 -> pB -> pC -> pD -> pE -> pF -> pG -> St) (I : Nat -> A0 -> A1 -> A2 -> A3 -> A4 -> A5 -> A6 -> A7 -> A8 -> A9 -> pB -> pC -> pD -> pE -> pF -> pG -> Prop) (n0 : Nat) (b0 : A0) (b1 : A1) (b2 : A2) (b3 : A3) (b4 : A4) (b5 : A5) (b6 : A6) (b7 : A7) (b8 : A8) (b9 : A9) (lD : pB) (lE : pC) (lF : pD) (lG : pE) (lH : pF) (lI : pG) {p : Nat -> A0 -> A1 -> A2 -> A3 -> A4 -> A5 -> A6 -> A7 -> A8 -> A9 -> pB -> pC -> pD -> pE -> pF -> pG -> Prop}
  (round : ∀ n (a0 : A0) (a1 : A1) (a2 : A2) (a3 : A3) (a4 : A4) (a5 : A5) (a6 : A6) (a7 : A7) (a8 : A8) (a9 : A9) (rV : pB) (rW : pC) (rX : pD) (rY : pE) (rZ : pF) (ra : pG), Me (L n0 b0 b1 b2 b3 b4 b5 b6 b7 b8 b9 lD lE lF lG lH lI) (B n a0 a1 a2 a3 a4 a5 a6 a7 a8 a9 rV rW rX rY rZ ra) -> 1 <= n + 1 /\ I (n + 1) a0 a1 a2 a3 a4 a5 a6 a7 a8 a9 rV rW rX rY rZ ra -> p n a0 a1 a2 a3 a4 a5 a6 a7 a8 a9 rV rW rX rY rZ ra) (hI : 1 <= n0 /\ I n0 b0 b1 b2 b3 b4 b5 b6 b7 b8 b9 lD lE lF lG lH lI := by first | omega | (dsimp only; omega) | simp) (h0 : Wk σ (S b0 b1 b2 b3 b4 b5 b6 b7 b8 b9 lD lE lF lG lH lI) := by exact z9 (by simp)) (kk : ∀ n (a0 : A0) (a1 : A1) (a2 : A2) (a3 : A3) (a4 : A4) (a5 : A5) (a6 : A6) (a7 : A7) (a8 : A8) (a9 : A9) (rV : pB) (rW : pC) (rX : pD) (rY : pE) (rZ : pF) (ra : pG), Bx (p n a0 a1 a2 a3 a4 a5 a6 a7 a8 a9 rV rW rX rY rZ ra) -> @WI P (S a0 a1 a2 a3 a4 a5 a6 a7 a8 a9 rV rW rX rY rZ ra) c (.nxt (fun σ' => @Nx σ' (Q16 L S I (L n0 b0 b1 b2 b3 b4 b5 b6 b7 b8 b9 lD lE lF lG lH lI) n)) k) := by (intro n_ hQ gv eC dM dN bE bF bG bH bI dO dP dQ dR dS dT z; simp; (repeat (with_reducible refine Go.Mo.sd ?_)); exact z.h)) : @S4 P σ c k := by
 refine Vi (ι := { s : Nat × A0 × A1 × A2 × A3 × A4 × A5 × A6 × A7 × A8 × A9 × pB × pC × pD × pE × pF × pG // Me (L n0 b0 b1 b2 b3 b4 b5 b6 b7 b8 b9 lD lE lF lG lH lI) (L s.1 s.2.1 s.2.2.1 s.2.2.2.1 s.2.2.2.2.1 s.2.2.2.2.2.1 s.2.2.2.2.2.2.1 s.2.2.2.2.2.2.2.1 s.2.2.2.2.2.2.2.2.1 s.2.2.2.2.2.2.2.2.2.1 s.2.2.2.2.2.2.2.2.2.2.1 s.2.2.2.2.2.2.2.2.2.2.2.1 s.2.2.2.2.2.2.2.2.2.2.2.2.1 s.2.2.2.2.2.2.2.2.2.2.2.2.2.1 s.2.2.2.2.2.2.2.2.2.2.2.2.2.2.1 s.2.2.2.2.2.2.2.2.2.2.2.2.2.2.2.1 s.2.2.2.2.2.2.2.2.2.2.2.2.2.2.2.2) /\ (1 <= s.1 /\ I s.1 s.2.1 s.2.2.1 s.2.2.2.1 s.2.2.2.2.1 s.2.2.2.2.2.1 s.2.2.2.2.2.2.1 s.2.2.2.2.2.2.2.1 s.2.2.2.2.2.2.2.2.1 s.2.2.2.2.2.2.2.2.2.1 s.2.2.2.2.2.2.2.2.2.2.1 s.2.2.2.2.2.2.2.2.2.2.2.1 s.2.2.2.2.2.2.2.2.2.2.2.2.1 s.2.2.2.2.2.2.2.2.2.2.2.2.2.1 s.2.2.2.2.2.2.2.2.2.2.2.2.2.2.1 s.2.2.2.2.2.2.2.2.2.2.2.2.2.2.2.1 s.2.2.2.2.2.2.2.2.2.2.2.2.2.2.2.2) }) (fun s => S s.1.2.1 s.1.2.2.1 s.1.2.2.2.1 s.1.2.2.2.2.1 s.1.2.2.2.2.2.1 s.1.2.2.2.2.2.2.1 s.1.2.2.2.2.2.2.2.1 s.1.2.2.2.2.2.2.2.2.1 s.1.2.2.2.2.2.2.2.2.2.1 s.1.2.2.2.2.2.2.2.2.2.2.1 s.1.2.2.2.2.2.2.2.2.2.2.2.1 s.1.2.2.2.2.2.2.2.2.2.2.2.2.1 s.1.2.2.2.2.2.2.2.2.2.2.2.2.2.1 s.1.2.2.2.2.2.2.2.2.2.2.2.2.2.2.1 s.1.2.2.2.2.2.2.2.2.2.2.2.2.2.2.2.1 s.1.2.2.2.2.2.2.2.2.2.2.2.2.2.2.2.2) (fun s => s.1.1) ⟨(n0, b0, b1, b2, b3, b4, b5, b6, b7, b8, b9, lD, lE, lF, lG, lH, lI), ⟨rfl⟩, hI⟩ h0 ?_
 rintro ⟨⟨n1, a0, a1, a2, a3, a4, a5, a6, a7, a8, a9, rV, rW, rX, rY, rZ, ra⟩, e, j⟩
 obtain ⟨n, rfl⟩ : ∃ q, n1 = q + 1 := ⟨n1 - 1, by have := j.1; (try dsimp only at this); omega⟩
 refine NQ (fun σ' hn => ?_) (kk n a0 a1 a2 a3 a4 a5 a6 a7 a8 a9 rV rW rX rY rZ ra ⟨round n a0 a1 a2 a3 a4 a5 a6 a7 a8 a9 rV rW rX rY rZ ra ⟨by have := e.h; (try dsimp only at this); rw [this, hL]⟩ j⟩)
 obtain ⟨c0, c1, c2, c3, c4, c5, c6, c7, c8, c9, eE, dV, dW, dX, dY, dZ, e2, j2, w2⟩ := hn
 exact ⟨⟨(n, c0, c1, c2, c3, c4, c5, c6, c7, c8, c9, eE, dV, dW, dX, dY, dZ), e2, j2⟩, Nat.lt_succ_self n, w2⟩
end
section
variable {P : Program} {σ : St} {k : Fr}
theorem jG {A : JP} {o : OpI} {l : Js} {d : Nat} {T : TypeId} {n : Nat} {parts : Array (Nat × Operand)} (h : @EI P (σ.new d (.one (.sref d 0 0 (Jn P σ (ZP P T) (P.cellsOf (ZP P T)) parts.toList 0).2.length)) [.lit (P.cellsOf (ZP P T)) (Jn P σ (ZP P T) (P.cellsOf (ZP P T)) parts.toList 0).2]) A l k) (uA : o.o.op = .buildSlice T n parts := by exact rfl) (hg : o.o.guard = none := by exact rfl) (hd : o.o.dst = some d := by exact rfl)
  (h1 : σ.fresh d = true /\ Yq P T = true /\ XX P (ZP P T) = true /\ 0 < P.cellsOf (ZP P T) /\ parts.toList.length = n /\ n * P.cellsOf (ZP P T) <= 16777216 := by simp) (h2 : (Jn P σ (ZP P T) (P.cellsOf (ZP P T)) parts.toList 0).1 := by simp)
  (h3 : YF d (Jn P σ (ZP P T) (P.cellsOf (ZP P T)) parts.toList 0).2.flatten = false := by simp)
  : @SI P σ A o l k := wo uA hg hd h1 h2 h3 h
theorem kC {A : JP} {o : OpI} {l : Js} {d : Nat} {x y : Operand} {t : TypeId} {uC news : List (List D)} {l1 l2 : List (Nat × Nat)} {size : Nat} (h : @EI P ((σ.Zx (l1 ++ l2)).new d (.one (.sref d 0 0 (uC.length + news.length))) [.arr true size (uC ++ news)]) A l k) (uA : o.o.op = .call ⟨.builtin .append, #[x, y], #[t, t]⟩ := by exact rfl) (hg : o.o.guard = none := by exact rfl) (hd : o.o.dst = some d := by exact rfl) (uv : A.bar o.o = true := by exact rfl)
  (tG : size = P.cellsOf (ZP P t) := by simp) (h1 : gOf (look P σ t x) = true /\ gOf (look P σ t y) = true /\ Yq P t = true /\ XX P (ZP P t) = true /\ 0 < P.cellsOf (ZP P t) := by simp)
  (h2 : (jo σ (unc (look P σ t x)) size).1 /\ (jo σ (unc (look P σ t x)) size).2 = (uC, l1) := by simp) (h3 : (js σ (unc (look P σ t y)) size).1 /\ (js σ (unc (look P σ t y)) size).2 = (news, l2) := by simp)
  (h4 : (l1 ++ l2).Nodup /\ (σ.Zx (l1 ++ l2)).fresh d = true := by simp) (h5 : (uC.length + news.length) * P.bytesOf (ZP P t) <= 140737488355328 /\ uC.length + news.length <= 9223372036854775807 := by (simp <;> omega))
  : @SI P σ A o l k := wy uA hg hd uv tG h1 h2 h3 h4 h5 h
theorem Vk {A : JP} {o : OpI} {l : Js} {T : TypeId} {x y : Operand} {t j i size : Nat} {rows : List (List D)} {ds : List D} {L : List (Nat × Nat)} (h : @EI P ((σ.Zx L).Zs t j (.arr true size (rows.set i ds))) A l k) (uA : o.o.op = .store T x y := by exact rfl) (hg : o.o.guard = none := by exact rfl) (hd : o.o.dst = none := by exact rfl) (uv : A.bar o.o = true := by exact rfl)
  (hx : unc (look P σ 0 x) = .one (.ptr t j i 0) := by simp) (ho : σ.ob t j = .arr true size rows := by simp) (hi : i < rows.length := by (simp; try omega)) (h1 : yf P T = true /\ gOf (look P σ 0 x) = true /\ gOf (look P σ T y) = true /\ (unc (look P σ T y)).flat = true := by simp)
  (h2 : Jl σ (unc (look P σ T y)).cells = some ds := by simp) (h3 : QR σ (unc (look P σ T y)).cells := by simp) (h4 : XL (unc (look P σ T y)).cells = L := by simp) (h5 : L.Nodup /\ (t, j) ∉ L /\ (σ.Zx L).zT (At.isT t) = false := by simp) (h6 : ds.length = P.cellsOf T /\ P.cellsOf T = size := by simp)
  : @SI P σ A o l k := wg uA hg hd uv hx ho hi h1 h2 h3 h4 h5 h6 h
end
theorem wkS {σ σ' : St} (ρ : Ren) (F : List (Nat × Nat)) (uW : jk σ' ρ ρ = true := by exact rfl) (h : V2 σ ρ F σ σ' 0 := by simp) : Wk σ σ' := XI ρ F uW h
theorem drJ {P : Program} {id : Nat} {σ : St} {l : List Oper} {br : Oper -> Bool} {k : Fr} (bs : List Nat) (hm : P.follows .mixedOrders = true) (h : @EI P σ ⟨⟨l⟩, S6 bs⟩ ⟨l⟩ k) (hdr : Vm.Sb P ⟨l⟩ (fun i => i) (S6 bs) = true := by kernel_rfl) (uk : zC ⟨l⟩ (fun i => i) σ = true := by kernel_rfl) : @DI P id σ ⟨⟨l⟩, br⟩ k := As bs hm hdr uk h
theorem bsD {P : Program} {σ : St} {k : Fr} {A : JP} {o : OpI} {l : Js} {d : Nat} {T : TypeId} {n : Nat} {parts : Array (Nat × Operand)} (h : @EI P (σ.put d (.one (.d (.sl (P.cellsOf (ZP P T)) (yx P σ (ZP P T) (P.cellsOf (ZP P T)) parts.toList 0).2)))) A l k) (uA : o.o.op = .buildSlice T n parts := by exact rfl) (hg : o.o.guard = none := by exact rfl) (hd : o.o.dst = some d := by exact rfl)
  (h1 : Yq P T = true /\ XX P (ZP P T) = true /\ 0 < P.cellsOf (ZP P T) /\ parts.toList.length = n /\ n * P.cellsOf (ZP P T) <= 16777216 := by simp) (h2 : (yx P σ (ZP P T) (P.cellsOf (ZP P T)) parts.toList 0).1 := by simp) : @SI P σ A o l k := wk uA hg hd h1 h2 h
theorem rpS {g p : Prop} (h : p) (kk : Bx p -> g := by (intro z; (repeat (with_reducible refine Go.Mo.sd ?_)); exact z.h)) : g := kk ⟨h⟩
theorem rpG {g p : Prop} (h : p) (kk : Bx p -> g := by (intro z; (repeat (with_reducible refine Go.Mo.sdg ?_)); exact z.h)) : g := kk ⟨h⟩
theorem xs {p q : Prop} (u : q) (h : q -> p := by (intro u; simp (maxDischargeDepth := 12) [u])) : p := h u
@[simp] abbrev rI (x : Int) : List D := [.int .i64 x]
@[simp] abbrev rB (b : Bool) : List D := [.bool b]
@[simp] abbrev rS (s : ByteArray) : List D := [.str s]
@[simp] abbrev rL {α : Type} (n : Nat) (f : α -> List D) (l : List α) : List D := [.sl n (l.map f)]
end Go.Vm
