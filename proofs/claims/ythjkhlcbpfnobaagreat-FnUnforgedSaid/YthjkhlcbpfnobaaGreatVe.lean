/- An abstract machine Mj the model of Go, by value, and that it is sound: part Ve. No condition. -/
import Derived.Test.YthjkhlcbpfnobaaGreatVd
set_option linter.unusedVariables false
set_option linter.unusedSimpArgs false
namespace Go.Vm
open Go.RowKit
open Go.RowKit
theorem zAG {p : Prop} (h : p := by (repeat' apply And.intro) <;> kernel_rfl) : p := h
theorem zAU {p : Prop} (h : p := by kernel_rfl) : p := h
variable {f : FuncId} {res rows args lO news : List (List D)} {o : OpI} {A : Kj} {P : Program} {l : zP} {d b t dj j id size n i u tf : Nat} {σ σ' : St} {p q r1 r2 s : Prop} {lD ds r : List D} {h : Nat -> Nat -> Hd} {c cl : Call} {Q : Exit -> Act -> World -> Prop} {k : Fr} {B X' X S : Nat -> Prop} {want dp g qq : Bool} {x0 x : Operand} {T0 T : CS} {a : Act} {w w' : World} {xc yc y : xo} {v : Value} {hf : Nat -> Hd} {hd : Hd}
def um (σ : St) : V -> Option Nat
 | .one (.d (.sl _ rows)) => some rows.length
 | .one (.sref t j _ len) => (match σ.ob t j with | .arr _ _ _ => some len | _ => none)
 | .fix _ (.one (.sref t j _ len)) => (match σ.ob t j with | .arr _ _ _ => some len | _ => none)
 | _ => none
def VF (σ : St) : Prop := ∀ t n, um σ (σ.get t) = some n -> n <= 9223372036854775807
theorem rp : ∀ {v : V} {val : Value} {n : Nat}, um σ v = some n -> JP T h σ.ob w v val -> n <= maxLen
 | .one (.d (.sl s rows)), val, n, hn, hv => by
  simp only [um] at hn
  cases hn
  obtain ⟨base, cap, _, h1, h2⟩ := Ak (r := (show Rd T w val (.sl s rows) from hv))
  omega
 | .one (.sref u j lo len), val, n, hn, hv => by
  simp only [um] at hn
  split at hn
  ·rename_i q s rows ho
   cases hn
   have hh := (show YF T h σ.ob w (.sref u j lo len) val from hv).2.1 _ _ _ ho
   obtain ⟨_, _, _, base, cap, _, h1, h2, _⟩ := hh
   omega
  ·cases hn
 | .fix u0 (.one (.sref u j lo len)), val, n, hn, hv => by
  simp only [um] at hn
  split at hn
  ·rename_i q s rows ho
   cases hn
   have hh := (show YF T h σ.ob w (.sref u j lo len) val from hv.2).2.1 _ _ _ ho
   obtain ⟨_, _, _, base, cap, _, h1, h2, _⟩ := hh
   omega
  ·cases hn
theorem Cw (r : Jz T0 B σ a w) : VF σ := by
 obtain ⟨X, h, r⟩ := r
 intro t n hn
 exact rp hn (r.get t)
theorem CN {c : Code} {Q : Exit -> St -> Prop} (h : VF σ -> AWP P c Q σ) : AWP P c Q σ := fun T0 B a w r => h (Cw r) T0 B a w r
theorem ot {b : Bool} {x : xo} (ht : VF σ -> b = true -> @WI P σ x k) (hf : VF σ -> b = false -> @WI P σ y k) : @CI P b σ x y k :=
 ⟨fun h => CN fun hk => V7 (ht hk h), fun h => CN fun hk => V7 (hf hk h)⟩
theorem NL {b c : Bool} {x : xo} (hc : c = b) (ht : VF σ -> c = true -> @WI P σ x k) (hf : VF σ -> c = false -> @WI P σ y k) : @CI P b σ x y k := by
 subst hc; exact ot ht hf
theorem okL {c : xo} (h : VF σ -> @RT P σ c k) : @RT P σ c k := CN h
theorem okD (h : VF σ -> @DI P id σ A k) : @DI P id σ A k := CN h
def Ml : Op -> Bool
 | .call _ => true
 | _ => false
theorem GX (my : Ml o.o.op = false) (hg : o.o.guard = some (j, want)) (hd : o.o.dst = some d)
  (gE : (A.ops[j]?).bind (·.dst) = some dj) (gN : jB want (σ.get dj) = some g) (lH : dj < σ.length)
  (ht : g = true -> ((evV P σ o.o.op o.o.type).1 /\ gOf (evV P σ o.o.op o.o.type).2 = true /\ (unc (evV P σ o.o.op o.o.type).2).flat = true) /\ @EI P (σ.put d (.cnd true (unc (evV P σ o.o.op o.o.type).2))) A l k)
  (hf : g = false -> @EI P (σ.put d (.cnd false .any)) A l k) : @SI P σ A o l k := by
 have step : ∀ v, (g = true -> (evV P σ o.o.op o.o.type).1 /\ gOf (evV P σ o.o.op o.o.type).2 = true /\ v = unc (evV P σ o.o.op o.o.type).2 /\ v.flat = true) -> Xe P A.ops o.o σ (σ.put d (.cnd g v)) := by
  intro v hv
  unfold Xe
  simp only [hg]
  refine ⟨dj, d, g, v, gE, lH, hd, gN, fun dg => ?_, rfl⟩
  obtain ⟨h1, h2, h3, h4⟩ := hv dg
  have base : ∃ v0, Ya P σ o.o.op o.o.type v0 /\ gOf v0 = true /\ v = unc v0 /\ v.flat = true := ⟨_, AS h1, h2, h3, h4⟩
  unfold MO
  split
  ·rename_i c hc; rw [hc] at my; cases my
  ·exact base
 cases g with
 | true =>
  obtain ⟨⟨h1, h2, h3⟩, h4⟩ := ht rfl
  exact ⟨_, .inl (step _ fun _ => ⟨h1, h2, rfl, h3⟩), Jh h4⟩
 | false => exact ⟨_, .inl (step .any (fun h => by cases h)), Jh (hf rfl)⟩
theorem pc (hg : o.o.guard = some (j, want)) (hd : o.o.dst = some d)
  (gE : (A.ops[j]?).bind (·.dst) = some dj) (gN : jB want (σ.get dj) = some g) (lH : dj < σ.length) (hgf : g = false)
  (h : @EI P (σ.put d (.cnd false .any)) A l k) : @SI P σ A o l k := by
 subst hgf
 refine ⟨_, .inl ?_, Jh h⟩
 unfold Xe
 simp only [hg]
 exact ⟨dj, d, false, .any, gE, lH, hd, gN, (fun h => by cases h), rfl⟩
def nth {α : Type} [Inhabited α] (l : List α) (i : Nat) : α := l.getD i default
theorem ZE {α : Type} [Inhabited α] {f : α -> List D} {l : List α} (h : i < l.length) : rowAt (l.map f) i = f (nth l i) := by
 simp [rowAt, nth, h]
theorem KM {α : Type} {f : α -> List D} {l : List α} {x : α} (h : r = f x) : (l.map f).set i r = (l.set i x).map f := by
 rw [h, List.map_set]
abbrev W (x : Int) : Int := IntKind.i64.wrap x
theorem YN {x : Int} (h1 : -9223372036854775808 <= x) (h2 : x <= 9223372036854775807) : IntKind.i64.wrap x = x := by
 have hr : IntKind.i64.min <= x /\ x <= IntKind.i64.max := by
  constructor
  ·show -9223372036854775808 <= x; exact h1
  ·show x <= 9223372036854775807; exact h2
 simp only [IntKind.wrap]
 first
  | (simp [IntKind.bits, IntKind.signed]; omega)
  | omega
theorem UB (i : Nat) : ((i : Int) - 1).toNat = i - 1 := zAA
attribute [simp] St.fresh ym V.ref V.N5 Y6 Tp
open Go.RowKit
attribute [simp] St.pw De AT At.nh nI
open Go.RowKit
variable {fn : Func} {K : Act -> World -> Prop} {L F l1 l2 : List (Nat × Nat)} {parts : Array (Nat × Operand)} {lu : List (List Value)} {vs : List Value} {e : Exit}
def At.isP (t : Nat) : At -> Bool
 | .tref u _ _ _ _ => u == t
 | .ptr u _ _ _ => u == t
 | _ => false
theorem Rel.oG (r : Rel T0 B σ a w X h) {rows : List (List At)} (ho : σ.ob t 0 = .lit size rows) (gT : Ku σ rows = some news) (lW : KV σ rows)
  (hL : XH rows.flatten = L) (iV : L.Nodup) (aI : (t, 0) ∉ L) (hp : (σ.Zz L).yS (At.isP t) = false) : Jz T0 B ((σ.Zz L).Zu t 0 (.arr true size news)) a w := by
 have lS : σ.ob t 0 ≠ .none := zAr
 have h0 := r.obj t 0
 rw [ho] at h0
 obtain ⟨e, xs, gf, hz, lC⟩ := h0
 obtain ⟨hm1, hm2, hm3⟩ := xq gT
 have lE := RL r lC hm1 (xe lW) (by rw [hL]; exact iV)
 rw [hL] at lE
 have r1 := r.Zz L
 have iI := r.z8 L
 have gW : ∀ b', (h t 0).u b' -> zV σ h L b' -> False := by
  rintro b' gr ⟨p, cI, lA, hup⟩
  obtain ⟨q1, q2⟩ := r.inj t 0 p.1 p.2 b' lS lA gr hup
  exact aI (by rw [q1, q2]; exact cI)
 have fH : (σ.Zz L).ob t 0 = .lit size rows := by rw [St.Kn, if_neg aI, ho]
 have gX : (σ.Zz L).ob t 0 ≠ .none := by rw [fH]; simp
 have iw : ∀ u i, ¬ (u = t /\ i = 0) -> ((σ.Zz L).Zu t 0 (.arr true size news)).ob u i = (σ.Zz L).ob u i := by
  intro u i lA
  rw [St.Xo _ t 0 _ u i gX, if_neg lA]
 have iq : ((σ.Zz L).Zu t 0 (.arr true size news)).ob t 0 = .arr true size news := by rw [St.Xo _ t 0 _ t 0 gX]; simp
 generalize hσ : (σ.Zz L).Zu t 0 (.arr true size news) = σ2 at *
 generalize hσ1 : σ.Zz L = σ1 at *
 have hlen : σ2.length = σ1.length := by rw [<- hσ, St.XW]
 have ic : ∀ u, σ2.get u = σ1.get u := fun u => by rw [<- hσ, St.QI]
 let lL : Hd := ⟨(h t 0).v, fun k => (xs[k]?).getD undef, fun b => (h t 0).u b \/ zV σ h L b⟩
 let h' : Nat -> Nat -> Hd := fun u i => if u = t /\ i = 0 then lL else h u i
 have fM : ∀ u i, ¬ (u = t /\ i = 0) -> h' u i = h u i := fun u i lA => if_neg lA
 have hht : h' t 0 = lL := by simp [h']
 have hv : ∀ u i, (h' u i).v = (h u i).v := by
  intro u i
  by_cases hc : u = t /\ i = 0
  ·obtain ⟨rfl, rfl⟩ := hc; rw [hht]
  ·rw [fM u i hc]
 have at_ : ∀ {x : At} {v : Value}, At.isP t x = false -> YF (Tof T0 X) h σ1.ob w x v -> YF (Tof T0 X) h' σ2.ob w x v := by
  intro x v bl rx
  cases x with
  | any => exact rx
  | d x => exact rx
  | nil s => exact rx
  | sref u i lo len =>
   refine ⟨rx.1, fun q s rws hq => ?_, fun s rws hq => ?_⟩
   ·by_cases hc : u = t /\ i = 0
    ·obtain ⟨rfl, rfl⟩ := hc
     rw [iq] at hq; cases hq
     rw [hv, <- hm2]; exact rx.2.2 _ _ fH
    ·rw [iw u i hc] at hq; rw [hv]; exact rx.2.1 _ _ _ hq
   ·by_cases hc : u = t /\ i = 0
    ·obtain ⟨rfl, rfl⟩ := hc
     rw [iq] at hq; cases hq
    ·rw [iw u i hc] at hq; rw [hv]; exact rx.2.2 _ _ hq
  | ptr u i k c =>
   refine ⟨rx.1, fun q s rws hq => ?_⟩
   have hc : ¬ (u = t /\ i = 0) := fun hc => by simp [At.isP, hc.1] at bl
   rw [iw u i hc] at hq; rw [hv]; exact rx.2 _ _ _ hq
  | bptr u c =>
   refine ⟨rx.1, fun cells hq => ?_⟩
   by_cases hc : u = t
   ·subst hc; rw [iq] at hq; cases hq
   ·rw [iw u 0 (fun hh => hc hh.1)] at hq; rw [hv]; exact rx.2 _ hq
  | fn f u =>
   refine ⟨rx.1, fun cells hq => ?_⟩
   by_cases hc : u = t
   ·subst hc; rw [iq] at hq; cases hq
   ·rw [iw u 0 (fun hh => hc hh.1)] at hq; rw [hv]; exact rx.2 _ hq
  | tref u i k c o =>
   refine ⟨rx.1, fun s rws hq => ?_⟩
   have hc : ¬ (u = t /\ i = 0) := fun hc => by simp [At.isP, hc.1] at bl
   rw [iw u i hc] at hq; rw [fM u i hc]; exact rx.2 _ _ hq
  | rptr rr c => exact rx
 have iz : ∀ u i, σ2.ob u i ≠ .none -> σ1.ob u i ≠ .none := by
  intro u i hn
  by_cases hc : u = t /\ i = 0
  ·obtain ⟨rfl, rfl⟩ := hc; exact gX
  ·rw [iw u i hc] at hn; exact hn
 refine ⟨X, h', by rw [r1.size, hlen], r1.defers, r1.hB, r1.hX, r1.hT, fun u hu => ?_, fun u i => ?_, fun u i b hn hb => ?_, fun u i b hn hb => ?_, fun u i u' i' b hn iE hb lP => ?_⟩
 ·rw [hlen] at hu
  rw [ic]; exact JP.map at_ (St.NH hp u) (r1.slot u hu)
 ·by_cases hc : u = t /\ i = 0
  ·obtain ⟨rfl, rfl⟩ := hc
   rw [iq, hht]
   refine ⟨e, xs, by rw [<- hm2]; exact gf, hm3 size hz, lE.mono (fun b hb => ⟨.inr hb, fun gy => gW b (r.ub u 0 b lS gy) hb⟩), fun k x d hx _ _ => by simp [lL, hx]⟩
  ·rw [iw u i hc, fM u i hc]
   exact J0.map at_ (fun b k v hb hc => ⟨hc, hb⟩) (fun ho b => r1.ub u i b ho) (fun _ _ _ => rfl) (St.HH hp u i) (r1.obj u i)
 ·by_cases hc : u = t /\ i = 0
  ·obtain ⟨rfl, rfl⟩ := hc
   rw [hht] at hb ⊢; exact .inl (r.ub u 0 b lS hb)
  ·rw [fM u i hc] at hb ⊢; exact r1.ub u i b (iz u i hn) hb
 ·by_cases hc : u = t /\ i = 0
  ·obtain ⟨rfl, rfl⟩ := hc
   rw [hht] at hb
   rcases hb with hb | hb
   ·exact r.own u 0 b lS hb
   ·have := iI b hb; exact ⟨this.1, this.2.1, this.2.2.1⟩
  ·rw [fM u i hc] at hb; exact r1.own u i b (iz u i hn) hb
 ·have key : ∀ u i b, ¬ (u = t /\ i = 0) -> σ1.ob u i ≠ .none -> (h u i).u b -> (h' t 0).u b -> False := by
   intro u i b hc hn hb lP
   rw [hht] at lP
   rcases lP with lP | lP
   ·exact hc (r1.inj u i t 0 b hn gX hb lP)
   ·exact (iI b lP).2.2.2 u i hn hb
  by_cases hc : u = t /\ i = 0
  ·by_cases l7 : u' = t /\ i' = 0
   ·exact ⟨hc.1.trans l7.1.symm, hc.2.trans l7.2.symm⟩
   ·obtain ⟨rfl, rfl⟩ := hc
    rw [fM u' i' l7] at lP
    exact (key u' i' b l7 (iz u' i' iE) lP hb).elim
  ·rw [fM u i hc] at hb
   by_cases l7 : u' = t /\ i' = 0
   ·obtain ⟨rfl, rfl⟩ := l7
    exact (key u i b hc (iz u i hn) hb lP).elim
   ·rw [fM u' i' l7] at lP
    exact r1.inj u i u' i' b (iz u i hn) (iz u' i' iE) hb lP
theorem vL {T : TypeId} (my : o.o.op = .buildSlice T n parts) (hg : o.o.guard = none) (hd : o.o.dst = some d) (lz : A.bar o.o = true)
  (h1 : (σ.fresh d = true /\ d < σ.length) /\ XZ P T = true /\ Qc P (ZR P T) = true /\ 0 < P.cellsOf (ZR P T) /\ parts.toList.length = n /\ n * P.cellsOf (ZR P T) <= 16777216) (h2 : (zW P σ (ZR P T) (P.cellsOf (ZR P T)) parts.toList 0).1)
  (h3 : YW d (zW P σ (ZR P T) (P.cellsOf (ZR P T)) parts.toList 0).2.flatten = false)
  (h4 : Ku (σ.new d (.one (.sref d 0 0 (zW P σ (ZR P T) (P.cellsOf (ZR P T)) parts.toList 0).2.length)) [.lit (P.cellsOf (ZR P T)) (zW P σ (ZR P T) (P.cellsOf (ZR P T)) parts.toList 0).2]) (zW P σ (ZR P T) (P.cellsOf (ZR P T)) parts.toList 0).2 = some news /\
   KV (σ.new d (.one (.sref d 0 0 (zW P σ (ZR P T) (P.cellsOf (ZR P T)) parts.toList 0).2.length)) [.lit (P.cellsOf (ZR P T)) (zW P σ (ZR P T) (P.cellsOf (ZR P T)) parts.toList 0).2]) (zW P σ (ZR P T) (P.cellsOf (ZR P T)) parts.toList 0).2)
  (h5 : XH (zW P σ (ZR P T) (P.cellsOf (ZR P T)) parts.toList 0).2.flatten = L /\ L.Nodup /\ (d, 0) ∉ L)
  (h6 : ((σ.new d (.one (.sref d 0 0 (zW P σ (ZR P T) (P.cellsOf (ZR P T)) parts.toList 0).2.length)) [.lit (P.cellsOf (ZR P T)) (zW P σ (ZR P T) (P.cellsOf (ZR P T)) parts.toList 0).2]).Zz L).yS (At.isP d) = false)
  (h : @EI P (((σ.new d (.one (.sref d 0 0 (zW P σ (ZR P T) (P.cellsOf (ZR P T)) parts.toList 0).2.length)) [.lit (P.cellsOf (ZR P T)) (zW P σ (ZR P T) (P.cellsOf (ZR P T)) parts.toList 0).2]).Zz L).Zu d 0 (.arr true (P.cellsOf (ZR P T)) news)) A l k) : @SI P σ A o l k := by
 refine ⟨_, .inr ⟨lz, ?_, fun d' lL hc => Ql (JR (WH (fun e => lL zBm) hc)), fun hh => by simp [Vr, my] at hh, fun hh => by first | (simp [kc, my] at hh; done) | (unfold kc at hh; rw [my] at hh; split at hh <;> simp_all), fun hh _ => by first | (simp [KY, my] at hh; done) | (unfold KY at hh; rw [my] at hh; split at hh <;> simp_all)⟩, Jh h⟩
 rintro T0 B a w K Q' ⟨X, hh, r⟩ hK
 have hw : Region.wanted o.o (yielded A.ops a.tmps) = true := zBO
 rw [if_pos hw]
 refine R5 r my hd h1.1.1 h1.2.1 h1.2.2.1 h1.2.2.2.1 h1.2.2.2.2.1 h1.2.2.2.2.2 (Gk h2) h3 (fun a' w' hr hkp => hK a' w' ?_ hkp)
 obtain ⟨X', fM, r'⟩ := hr
 exact Rel.oG r' (by rw [St.Jt, if_pos ⟨rfl, h1.1.2⟩]; rfl) h4.1 h4.2 h5.1 h5.2.1 h5.2.2 h6
attribute [simp] At.isP
theorem YV.own (hs : YV P f args res) : JH P f true args res := by
 refine ⟨hs.1, fun T w l6 hT ha => (hs.2 T w l6 hT ha).mono ?_⟩
 rintro e w' ⟨vs, lu, he, hb, hf, hl, ⟨hlen, Sk, h1, h2, h3⟩⟩
 refine ⟨vs, lu, fun b => (w.heap.size <= b /\ b < w'.heap.size) /\ ∀ (k : Nat) (c : Value) (d : D), lu.flatten[k]? = some c -> res.flatten[k]? = some d -> d.scalar = false -> blk c ≠ some b, he, hb, fun b hb => hb.1, hf, qx hl (fun k x d hx hd => ?_), fun _ => ⟨fun i c d b hc hd ib bm => ?_, fun i j c c' d d' b hc hd l7 lL ib aP bm hbl' => ?_⟩⟩
 ·simp only [qb, if_true]
  have ho := h1 k x d hx hd
  cases ho with
  | int k n => exact .int _ _
  | bool b => exact .bool _
  | str s => exact .str _
  | unk v h => exact .unk _ h
  | sl v size rows S e' xs bM ho hz lP hl' hk bX lL =>
   refine ⟨e', xs, ho, hz, Z9.xk hl' (fun i y dd hy gY => (hk i y dd hy gY).rd (fun b k' hb => .inr ⟨h2 k b (bX i b hb).1, fun k2 c2 d2 dC dA bp hbl2 => ?_⟩))⟩
   have gm := h1 k2 c2 d2 dC dA
   have bN : Sk k2 b := by
    cases gm with
    | int k n => cases bp
    | bool b => cases bp
    | str s => cases bp
    | unk => cases bp
    | sl v2 aN aO S2 e2 xs2 Sk2 gm hz2 l0 bA cO lK hd2' => exact l0 b hbl2
   have := h3 k k2 b (bX i b hb).1 bN
   subst this
   rw [hx] at dC; cases dC
   exact (bX i b hb).2 hbl2
 ·have gm := h1 i c d hc hd
  have bN : Sk i b := by
   cases gm with
   | int k n => cases ib
   | bool b => cases ib
   | str s => cases ib
   | unk => cases ib
   | sl v2 aN aO S2 e2 xs2 Sk2 gm hz2 l0 bA cO lK hd2' => exact l0 b bm
  have := h2 i b bN
  exact ⟨this.1, this.2, fun hy => hy.2 i c d hc hd ib bm⟩
 ·have bN : ∀ (i : Nat) (c : Value) (d : D), lu.flatten[i]? = some c -> res.flatten[i]? = some d -> d.scalar = false -> blk c = some b -> Sk i b := by
   intro i c d hc hd ib bm
   have gm := h1 i c d hc hd
   cases gm with
   | int k n => cases ib
   | bool b => cases ib
   | str s => cases ib
   | unk => cases ib
   | sl v2 aN aO S2 e2 xs2 Sk2 gm hz2 l0 bA cO lK hd2' => exact l0 b bm
  exact h3 i j b (bN i c d hc hd ib bm) (bN j c' d' l7 lL aP hbl')
open Go.RowKit
def E3 (σ : St) (F : List (Nat × Nat)) : At -> At
 | .sref t j lo len => if inF F t j then (match σ.ob t j with | .arr _ s rows => .d (.sl s (cut rows lo len)) | _ => .any) else .sref t j lo len
 | .ptr t j i c => if inF F t j then .any else .ptr t j i c
 | .tref t j i c o => if inF F t j then .any else .tref t j i c o
 | x => x
def ox (σ : St) (F : List (Nat × Nat)) : V -> V
 | .one x => .one (E3 σ F x)
 | .agg xs => .agg (xs.map (E3 σ F))
 | .fix u (.one x) => .fix u (.one (E3 σ F x))
 | .fix u (.agg xs) => .fix u (.agg (xs.map (E3 σ F)))
 | _ => .any
def pJ (σ : St) (F : List (Nat × Nat)) (t j : Nat) (o : Ob) : Ob :=
 if inF F t j then .none else match o with | .box cs => .box (cs.map (E3 σ F)) | .lit _ _ => .none | o => o
def Am (σ : St) (F : List (Nat × Nat)) (t : Nat) : List Ob -> Nat -> List Ob
 | [], _ => []
 | o :: os, j => pJ σ F t j o :: Am σ F t os (j + 1)
def NK (σ : St) (F : List (Nat × Nat)) : List Ent -> Nat -> List Ent
 | [], _ => []
 | e :: es, t => (ox σ F e.1, Am σ F t e.2 0) :: NK σ F es (t + 1)
def St.frz (σ : St) (F : List (Nat × Nat)) : St := NK σ F σ 0
theorem E6 {F : List (Nat × Nat)} : ∀ {σ0 : St} {es : List Ent} {t d : Nat}, Xi es d = true -> Xi (NK σ0 F es t) d = true
 | σ0, [], t, d, h => by simp [Xi] at h
 | σ0, e :: es, t, 0, h => by
  rw [qd] at h ⊢
  rcases h with h | ⟨x, h⟩
  ·left; simp only [List.getElem?_cons_zero, Option.some.injEq] at h; subst h; rfl
  ·right; simp only [List.getElem?_cons_zero, Option.some.injEq] at h; subst h; exact ⟨x, rfl⟩
 | σ0, e :: es, t, d + 1, h => by
  have : Xi es d = true := by rw [qd] at h ⊢; simpa using h
  have := E6 (F := F) (σ0 := σ0) (es := es) (t := t + 1) this
  rw [qd] at this ⊢
  simpa [NK] using this
theorem nE (lz : A.bar o.o = true) (hw : Wk σ σ') (hc : ∀ d, Xi σ d = true -> Xi σ' d = true) (eu : Vr o.o = false) (hna : kc o.o = false) (eA : KY P o.o = false \/ OJ A.bar o.o = false) (h : @SI P σ' A o l k) : @SI P σ A o l k := by
 obtain ⟨σ'', hs, hr⟩ := h
 refine ⟨σ'', .inr ⟨lz, fun T0 B a w K Q gD hK => R1 hs T0 B a w K Q (hw T0 B a w gD) hK, fun d hd lp => ?_, fun hh => (by rw [eu] at hh; cases hh), fun hh => (by rw [hna] at hh; cases hh), fun hh ho => (by rcases eA with eA | eA <;> (first | (rw [eA] at hh; cases hh) | (rw [eA] at ho; cases ho)))⟩, hr⟩
 have h1 := hc d lp
 rcases hs with hs | hs
 ·exact Hi hs hd h1
 ·exact hs.2.2.1 d hd h1
theorem TA (F : List (Nat × Nat)) (lz : A.bar o.o = true) (hw : Rp σ [] F σ (σ.frz F) 0) (h : @SI P (σ.frz F) A o l k) (eu : Vr o.o = false := by exact rfl) (hna : kc o.o = false := by exact rfl) (eA : KY P o.o = false \/ OJ A.bar o.o = false := by first | exact .inl rfl | exact .inr rfl) : @SI P σ A o l k :=
 nE lz (XI [] F rfl hw) (fun _ hd => E6 hd) eu hna eA h
attribute [simp] E3 ox pJ Am NK St.frz
theorem o8 (P : Program) (q2 : Bool) (dg : σ.get d = .one (.sref u j 0 n)) (ho : σ.ob u j = .arr qq size rows) (hle : n <= rows.length) (hqq : q2 = true -> qq = true) (iJ : (σ.Zu u j .none).fresh d = true)
  (h : Wk ((σ.Zu u j .none).new d (.one (.sref d 0 0 (rows.take n).length)) [.arr q2 size (rows.take n)]) σ') : Wk σ σ' := by
 have e : (rows.take n).length = n := zA0
 rw [e] at h
 rintro T0 B a w ⟨X, hh, r⟩
 refine h T0 B a w ?_
 have hv : Ya P σ (Oper.mk (some d) (.move (.tmp d)) 0 "" #[] none).op 0 (.one (.sref u j 0 n)) := by
  show V.one (.sref u j 0 n) = look P σ 0 (.tmp d)
  rw [<- dg]; rfl
 have key : ∀ (K : Act -> World -> Prop) (Q : Exit -> Act -> World -> Prop), (∀ a' w', Jz T0 B ((σ.Zu u j .none).new d (.one (.sref d 0 0 n)) [.arr q2 size (rows.take n)]) a' w' -> Y8 B w w' -> K a' w') -> (Oper.mk (some d) (.move (.tmp d)) 0 "" #[] none).wp P a w K Q := by
  intro K Q hK
  cases qq with
  | false =>
   cases q2 with
   | false => exact uR r rfl hv ho hle iJ hK
   | true => cases hqq rfl
  | true =>
   cases q2 with
   | false => exact vc r rfl hv ho hle iJ hK
   | true => exact uH r rfl hv ho hle iJ hK
 have k2 := key (fun a' w' => w' = w -> Jz T0 B ((σ.Zu u j .none).new d (.one (.sref d 0 0 n)) [.arr q2 size (rows.take n)]) a' w') (fun _ _ _ => True) (fun a' w' hr _ _ => hr)
 unfold Oper.wp at k2
 simp only [execOp, Sem.run_pure, Oper.upon_value] at k2
 have k3 := k2 trivial
 have e2 : a.put (some d) (a.eval (.tmp d)) = a := by
  show { a with tmps := a.tmps.setIfInBounds d (a.tmps.getD d undef) } = a
  have : a.tmps.setIfInBounds d (a.tmps.getD d undef) = a.tmps := by
   apply Array.ext
   ·simp
   ·intro i h1 h2
    rw [Array.getElem_setIfInBounds]
    split
    ·rename_i hi; subst hi; simp [Array.getD, h2]
    ·rfl
  rw [this]
 rw [e2] at k3
 exact k3
open Go.RowKit
variable {gL : List Ob}
abbrev ptr (b : Nat) : Value := .pointer (some ⟨b, 0, none⟩)
abbrev E9 (T : CS) (w : World) (l6 : List Value) (args : List (List D)) : Prop := Z9 (fun v row => ∃ cs, yb v cs /\ Z9 (Rd T w) cs row) l6 args
def xt (n : Nat) (pre : List (List D)) (v : Value) (cells : List At) (gL : List Ob) (post : List (List D)) : St :=
 Oq pre ++ (.fix v (.one (.bptr pre.length 0)), .box cells :: gL) :: (Oq post ++ List.replicate (n - (pre.length + 1 + post.length)) (V.any, []))
theorem uK (post : List (List D)) (m t : Nat) : ∃ x, (match (Oq post ++ List.replicate m ((V.any, []) : Ent))[t]? with | some e => e | none => (V.any, [])) = (x, []) /\ (x = .any \/ ∃ r, post[t]? = some r /\ x = vOf (r.map .d)) := by
 rcases Nat.lt_or_ge t post.length with h | h
 ·rw [List.getElem?_append_left zBw, RF, List.getElem?_eq_getElem h]
  exact ⟨_, rfl, .inr ⟨_, rfl, rfl⟩⟩
 ·rw [List.getElem?_append_right zBw, List.getElem?_replicate]
  refine ⟨.any, ?_, .inl rfl⟩
  split
  ·rename_i e he
   split at he
   ·cases he; rfl
   ·cases he
  ·rfl
theorem tv (n : Nat) (pre : List (List D)) (v : Value) (cells : List At) (gL : List Ob) (post : List (List D)) (t : Nat) :
  (t = pre.length /\ (xt n pre v cells gL post)[t]? = some (.fix v (.one (.bptr pre.length 0)), .box cells :: gL)) \/
  (t ≠ pre.length /\ (∀ j, (xt n pre v cells gL post).ob t j = .none) /\ ((xt n pre v cells gL post).get t = .any \/ ∃ r, (xt n pre v cells gL post).get t = vOf (r.map .d) /\ ((t < pre.length /\ pre[t]? = some r) \/ (pre.length < t /\ post[t - pre.length - 1]? = some r)))) := by
 rcases Nat.lt_trichotomy t pre.length with h | h | h
 ·refine .inr ⟨zAA, ?_⟩
  have : (xt n pre v cells gL post)[t]? = some (vOf (pre[t].map .d), []) := by
   unfold xt
   rw [List.getElem?_append_left zBw, RF, List.getElem?_eq_getElem h]; rfl
  refine ⟨fun j => by unfold St.ob; rw [this]; simp [Yj], .inr ⟨pre[t], by unfold St.get; rw [this], .inl ⟨h, List.getElem?_eq_getElem h⟩⟩⟩
 ·refine .inl ⟨h, ?_⟩
  unfold xt
  rw [List.getElem?_append_right (by rw [Jg]; omega), Jg, h, Nat.sub_self]; rfl
 ·refine .inr ⟨zAA, ?_⟩
  have e1 : (xt n pre v cells gL post)[t]? = (Oq post ++ List.replicate (n - (pre.length + 1 + post.length)) ((V.any, []) : Ent))[t - pre.length - 1]? := by
   unfold xt
   rw [List.getElem?_append_right (by rw [Jg]; omega), Jg, show t - pre.length = (t - pre.length - 1) + 1 by omega, List.getElem?_cons_succ]; rfl
  obtain ⟨x, hx, hr⟩ := uK post (n - (pre.length + 1 + post.length)) (t - pre.length - 1)
  rw [<- e1] at hx
  constructor
  ·intro j
   unfold St.ob
   cases hq : (xt n pre v cells gL post)[t]? with
   | none => rfl
   | some e => rw [hq] at hx; simp only at hx; rw [hx]; simp [Yj]
  ·have hg : (xt n pre v cells gL post).get t = x := by
    unfold St.get
    cases hq : (xt n pre v cells gL post)[t]? with
    | none => rw [hq] at hx; simp only at hx; injection hx
    | some e => rw [hq] at hx; simp only at hx; rw [hx]
   rcases hr with rfl | ⟨r, hr, rfl⟩
   ·exact .inl hg
   ·exact .inr ⟨r, hg, .inr ⟨h, hr⟩⟩
theorem Eg {pre post : List (List D)} {cells : List At} {gC gR : List Value} (hd : Nat -> Hd)
  (hT : ∀ k i, T k i -> k < w.heap.size /\ k ≠ b /\ ¬ S k) (hS : ∀ k, S k -> k < w.heap.size /\ k ≠ b) (hb : b < w.heap.size) (h0 : hd 0 = Hd.of (ptr b))
  (gw : ∀ (h : Nat -> Nat -> Hd) (ob : Nat -> Nat -> Ob), (∀ j, h pre.length j = hd j) -> (∀ j, ob pre.length j = Yj (.box cells :: gL) j) -> J0 (Tof T (fun _ => False)) h ob w (hd 0) (.box cells))
  (iw : ∀ (h : Nat -> Nat -> Hd) (ob : Nat -> Nat -> Ob) (j : Nat), J0 (Tof T (fun _ => False)) h ob w (hd (j + 1)) (Yj gL j))
  (ir : ∀ j k, Yj gL j ≠ .none -> blk (hd (j + 1)).v = some k -> (hd (j + 1)).u k) (lE : ∀ j k, Yj gL j ≠ .none -> (hd (j + 1)).u k -> S k)
  (cy : ∀ i j k, Yj gL i ≠ .none -> Yj gL j ≠ .none -> (hd (i + 1)).u k -> (hd (j + 1)).u k -> i = j) (ha1 : E9 T w gC pre) (ha2 : E9 T w gR post) :
  Jz T (fun k => k < w.heap.size /\ k ≠ b /\ ¬ S k) (xt n pre (ptr b) cells gL post) { tmps := (gC ++ ptr b :: gR).toArray ++ Array.replicate (n - (gC ++ ptr b :: gR).toArray.size) undef, defers := [] } w := by
 have hl1 := ha1.length
 have bA := ha2.length
 have fI := tv n pre (ptr b) cells gL post
 have iT : ∀ j, (xt n pre (ptr b) cells gL post).ob pre.length j = Yj (.box cells :: gL) j := by
  intro j
  rcases fI pre.length with ⟨_, h⟩ | ⟨h, _⟩
  ·unfold St.ob; rw [h]
  ·exact absurd rfl h
 have bJ : ∀ t j, (xt n pre (ptr b) cells gL post).ob t j ≠ .none -> t = pre.length := by
  intro t j hn
  rcases fI t with ⟨h, _⟩ | ⟨_, h, _⟩
  ·exact h
  ·exact absurd (h j) hn
 have cL : ∀ b k v, T b k -> w.cell? ⟨b, k, none⟩ = some v -> w.cell? ⟨b, k, none⟩ = some v /\ Tof T (fun _ => False) b k := fun b k v hb hc => ⟨hc, .inl hb⟩
 have hu0 : ∀ k, (hd 0).u k ↔ k = b := fun k => by rw [h0]; simp [Hd.of, blk, eq_comm]
 have im : ∀ j, Yj (.box cells :: gL) j ≠ .none -> (j = 0 \/ ∃ i, j = i + 1 /\ Yj gL i ≠ .none) := by
  intro j hn
  cases j with
  | zero => exact .inl rfl
  | succ j => exact .inr ⟨j, rfl, by rw [WJ] at hn; exact hn⟩
 have hS' : ∀ j k, Yj (.box cells :: gL) j ≠ .none -> (hd j).u k -> k = b \/ S k := by
  intro j k hn hu
  rcases im j hn with rfl | ⟨i, rfl, hi⟩
  ·exact .inl ((hu0 k).1 hu)
  ·exact .inr (lE i k hi hu)
 have aM : ∀ {l6 : List Value} {args : List (List D)} {t : Nat} {r : List D}, E9 T w l6 args -> args[t]? = some r -> ∃ v, l6[t]? = some v /\ JP (Tof T (fun _ => False)) (fun t j => if t = pre.length then hd j else Hd.of undef) (xt n pre (ptr b) cells gL post).ob w (vOf (r.map .d)) v := by
  intro l6 args t r ha hr
  obtain ⟨v, hv, cs, hf, lC⟩ := ha.get' t r hr
  exact ⟨v, hv, (HG hf (VW (lC.imp fun _ _ => Rd.mono cL))).up⟩
 refine ⟨fun _ => False, fun t j => if t = pre.length then hd j else Hd.of undef, ?_⟩
 refine ⟨?_, rfl, (fun k hk => hk.1), (fun b hb => hb.elim), (fun k i hk => hT k i hk), fun t ht => ?_, fun t j => ?_, fun t j k hn hk => ?_, fun t j k hn hk => ?_, fun t j t' j' k hn iE hk gB => ?_⟩
 ·simp [xt, Jg, hl1, bA]; omega
 ·rcases fI t with ⟨rfl, h⟩ | ⟨lA, _, h⟩
  ·have fN : ((gC ++ ptr b :: gR).toArray ++ Array.replicate (n - (gC ++ ptr b :: gR).toArray.size) undef).getD pre.length undef = ptr b := by
    rw [Array.getD_eq_getD_getElem?, Array.getElem?_append_left zAk]
    simp [<- hl1]
   rw [fN]
   unfold St.get; rw [h]
   exact ⟨rfl, rfl, fun lI _ => ⟨b, by simp [h0, Hd.of], rfl⟩⟩
  ·rcases h with h | ⟨r, h, hr⟩
   ·rw [h]; trivial
   ·rw [h]
    rcases hr with ⟨lH, hr⟩ | ⟨lH, hr⟩
    ·obtain ⟨v, hv, gD⟩ := aM ha1 hr
     have fN : ((gC ++ ptr b :: gR).toArray ++ Array.replicate (n - (gC ++ ptr b :: gR).toArray.size) undef).getD t undef = v := by
      rw [Array.getD_eq_getD_getElem?, Array.getElem?_append_left zAk]
      simp [List.getElem?_append_left (show t < gC.length by omega), hv]
     simp only [fN]; exact gD
    ·obtain ⟨v, hv, gD⟩ := aM ha2 hr
     have hlt2 := (List.getElem?_eq_some_iff.1 hv).1
     have fN : ((gC ++ ptr b :: gR).toArray ++ Array.replicate (n - (gC ++ ptr b :: gR).toArray.size) undef).getD t undef = v := by
      rw [Array.getD_eq_getD_getElem?, Array.getElem?_append_left zAk]
      simp only [List.getElem?_toArray]
      rw [List.getElem?_append_right zAA, show t - gC.length = (t - pre.length - 1) + 1 by omega, List.getElem?_cons_succ, hv]; rfl
     simp only [fN]; exact gD
 ·by_cases hn : (xt n pre (ptr b) cells gL post).ob t j = .none
  ·rw [hn]; trivial
  ·obtain rfl := bJ t j hn
   rw [iT]
   simp only [if_true]
   cases j with
   | zero => exact gw _ _ (fun j => zAF) iT
   | succ j => rw [WJ]; exact iw _ _ j
 ·obtain rfl := bJ t j hn
  rw [iT] at hn
  simp only [if_true] at hk ⊢
  rcases im j hn with rfl | ⟨i, rfl, hi⟩
  ·rw [h0] at hk ⊢; exact hk
  ·exact ir i k hi hk
 ·obtain rfl := bJ t j hn
  rw [iT] at hn
  simp only [if_true] at hk
  rcases hS' j k hn hk with rfl | hs
  ·exact ⟨fun hh => hh.2.1 rfl, fun hh => hh, hb⟩
  ·exact ⟨fun hh => hh.2.2 hs, fun hh => hh, (hS k hs).1⟩
 ·obtain rfl := bJ t j hn
  obtain rfl := bJ t' j' iE
  rw [iT] at hn iE
  simp only [if_true] at hk gB
  refine ⟨rfl, ?_⟩
  rcases im j hn with rfl | ⟨i, rfl, hi⟩
  ·rcases im j' iE with rfl | ⟨i', rfl, hG⟩
   ·rfl
   ·exact absurd ((hu0 k).1 hk) (hS k (lE i' k hG gB)).2
  ·rcases im j' iE with rfl | ⟨i', rfl, hG⟩
   ·exact absurd ((hu0 k).1 gB) (hS k (lE i k hi hk)).2
   ·rw [cy i i' k hi hG hk gB]
open Go.RowKit
variable {dO : Array Value}
def pR (dp : Bool) (T : CS) (w : World) (b : Nat) (lD : List D) (res : List (List D)) (e : Ending) (w' : World) : Prop :=
 ∃ (vs : List Value) (lu : List (List Value)) (Y : Nat -> Prop), e = .returned (Rm vs) /\ Y8 (fun k => k < w.heap.size /\ k ≠ b) w w' /\ (∀ k, Y k -> w.heap.size <= k /\ k < w'.heap.size) /\
  (∃ cs e', w'.heap[b]? = some (.cells cs e' (0, 0)) /\ Z9 (Rd (Tof T Y) w') cs.toList lD) /\ Z9 yb vs lu /\ Z9 (fun (cs : List Value) (row : List D) => cs.length = row.length) lu res /\
  (if dp then KT w' lu.flatten res.flatten (fun k => w.heap.size <= k /\ k < w'.heap.size /\ ¬ Y k) else Z9 (fun cs row => Z9 (Rd (Tof T Y) w') cs row) lu res)
def xl (P : Program) (f : FuncId) (dp : Bool) (row : List D) (args : List (List D)) (lD : List D) (res : List (List D)) : Prop :=
 TL P f = true /\ ∀ (T : CS) (w : World) (b : Nat) (l6 : List Value), (∀ k i, T k i -> k < w.heap.size /\ k ≠ b) -> b < w.heap.size -> (∃ cs e, w.heap[b]? = some (.cells cs e (0, 0)) /\ Z9 (Rd T w) cs.toList row) ->
  E9 T w l6 args -> Calls P f (ptr b :: l6).toArray w (pR dp T w b lD res)
def oR (P : Program) (fn : Func) (v : Value) (dp : Bool) (lD : List D) (res : List (List D)) (e : Exit) (σ : St) : Prop :=
 (e = .ret \/ e = .normal) /\ (∃ gL, σ.head? = some (.fix v (.one (.bptr 0 0)), .box (lD.map .d) :: gL)) /\ ∃ hC, Se P σ fn.results.toList hC /\
  (if dp then Ku σ hC = some res /\ KV σ hC /\ (XH hC.flatten).Nodup else km σ hC = some res)
def Mx (P : Program) (f : FuncId) (args : List (List D)) (lD : List D) : Prop :=
 TL P f = true /\ ∀ (T : CS) (w : World) (l6 : List Value), (∀ k i, T k i -> k < w.heap.size) -> E9 T w l6 args ->
  Calls P f l6.toArray w fun e w' => ∃ b Y, e = .returned (ptr b) /\ Below w.heap.size w w' /\ w.heap.size <= b /\ b < w'.heap.size /\ (∀ k, Y k -> w.heap.size <= k /\ k < w'.heap.size /\ k ≠ b) /\ ∃ cs e', w'.heap[b]? = some (.cells cs e' (0, 0)) /\ Z9 (Rd (Tof T Y) w') cs.toList lD
def oE (P : Program) (fn : Func) (lD : List D) (e : Exit) (σ : St) : Prop :=
 (e = .ret \/ e = .normal) /\ ∃ u, Se P σ fn.results.toList [[.bptr u 0]] /\ σ.ob u 0 = .box (lD.map .d)
theorem PG {T : CS} {ob : Nat -> Nat -> Ob} : ∀ {row : List D} {cs : List Value}, Z9 (YF T h ob w) (row.map .d) cs -> Z9 (Rd T w) cs row
 | [], _, lC => by cases lC; exact .nil
 | _ :: _, _, lC => by cases lC with | cons h1 h2 => exact .cons h1 (PG h2)
theorem FK {c : Code} (hf : P.funcs[f]? = some fn) (hb : fn.body = some c) (lW : TL P f = true) {row : List D}
  (hw : ∀ v, AWP P c (oR P fn v dp lD res) (xt fn.ntmps [] v (row.map .d) [] args)) : xl P f dp row args lD res := by
 refine ⟨lW, fun T w b l6 hT lP ⟨cs0, e0, hh0, ao⟩ lF => calls_of_wp hf hb ?_⟩
 have dc := Eg (w := w) (T := T) (S := fun _ => False) (n := fn.ntmps) (b := b) (pre := []) (post := args) (cells := row.map .d) (gL := []) (gC := []) (gR := l6) (fun _ => Hd.of (ptr b))
  (fun k i hk => ⟨(hT k i hk).1, (hT k i hk).2, fun hh => hh⟩) (fun k hk => hk.elim) lP rfl
  (fun h ob _ _ => ⟨b, cs0, e0, rfl, hh0, VW (ao.imp fun _ _ => Rd.mono (fun b k v hb hc => ⟨hc, .inl hb⟩))⟩) (fun h ob j => by simp [Yj, J0]) (fun j k hn => by simp [Yj] at hn) (fun j k hn => by simp [Yj] at hn) (fun i j k hn => by simp [Yj] at hn) .nil lF
 simp only [List.nil_append] at dc
 refine wp_mono (hw (ptr b) T _ _ w dc) ?_
 rintro e a' w' ⟨σ', ⟨he, ⟨gL, cz⟩, hC, gH, lJ⟩, ⟨X, h, r⟩, lQ⟩
 obtain ⟨vs, lu, lT, l4, lC⟩ := Wo r gH
 have iS : 0 < σ'.length := by
  cases σ' with
  | nil => simp at cz
  | cons e σ => simp
 have bq : σ'.get 0 = .fix (ptr b) (.one (.bptr 0 0)) := by
  cases σ' with
  | nil => simp at cz
  | cons e σ => simp at cz; simp [St.get, cz]
 have ia : σ'.ob 0 0 = .box (lD.map .d) := by
  cases σ' with
  | nil => simp at cz
  | cons e σ => simp at cz; simp [St.ob, cz, Yj]
 have ep := r.slot 0 iS
 rw [bq] at ep
 obtain ⟨hveq, gi⟩ := ep
 obtain ⟨b1, ig, iW⟩ := gi.2 _ ia
 rw [hveq] at iW
 have gy : b1 = b := zBR
 subst gy
 have im := r.obj 0 0
 rw [ia] at im
 obtain ⟨b2, dO, e', l0, fM, fv⟩ := im
 rw [ig] at l0
 have gy : b2 = b1 := zAl
 subst gy
 have bK : Y8 (fun k => k < w.heap.size /\ k ≠ b2) w w' := ⟨lQ.os, lQ.tape, lQ.output, lQ.size, fun k hk => lQ.block k ⟨hk.1, hk.2, fun hh => hh⟩⟩
 have hnX : ∀ k, X k -> k = b2 -> False := by
  rintro k hx rfl
  have ir := r.ub 0 0 k zBg zBz
  exact (r.own 0 0 k zBg ir).2.1 hx
 have hXn : ∀ k, X k -> w.heap.size <= k /\ k < w'.heap.size := by
  intro k hk
  have h1 := r.hX k hk
  refine ⟨?_, h1.2⟩
  rcases Nat.lt_or_ge k w.heap.size with lH | fY
  ·exact absurd ⟨lH, fun hh => hnX k hk hh, fun hh => hh⟩ h1.1
  ·exact fY
 have goal : a'.defers = [] /\ ∃ v, (results fn a'.tmps).run P w' = .ok v w' /\ pR dp T w b2 lD res (.returned v) w' := by
  refine ⟨r.defers, _, lT, ?_⟩
  cases dp with
  | true =>
   simp only [if_true] at lJ
   obtain ⟨gT, gk, iV⟩ := lJ
   refine ⟨vs, lu, X, rfl, bK, hXn, ⟨dO, e', fM, PG fv⟩, l4, ?_, ?_⟩
   ·clear iV gk gH lT l4 hw
    induction lC generalizing res with
    | nil => simp [Ku] at gT; subst gT; exact .nil
    | cons h1 _ ih =>
     simp only [Ku] at gT
     split at gT
     ·rename_i row rs lv fC
      cases gT
      exact .cons (by rw [<- h1.length]; exact (qY lv).1) (ih fC)
     ·cases gT
   ·simp only [if_true]
    refine (RL r (qZ lC) (xq gT).1 (xe gk) iV).mono (fun k hk => ?_)
    have hg := r.z8 _ k hk
    refine ⟨?_, hg.2.2.1, hg.2.1⟩
    rcases Nat.lt_or_ge k w.heap.size with lH | fY
    ·refine absurd ⟨lH, ?_, fun hh => hh⟩ hg.1
     rintro rfl
     obtain ⟨p, hp, lA, hu⟩ := hk
     have ir := r.ub 0 0 k zBg zBz
     obtain ⟨e1, e2⟩ := r.inj p.1 p.2 0 0 k lA zBg hu ir
     obtain ⟨i, lo, len, hx⟩ := PN hp
     have hm := RK (xe gk) i _ hx
     rw [e1, e2] at hm
     obtain ⟨d, hd, hmd⟩ := (Z9.get (R := fun x d => mvD σ' x = some d) (Z9.xk (qY (xq gT).1).1 (fun i a b h1 h2 => (qY (xq gT).1).2 i a b h1 h2)) i _ hx)
     rw [e1, e2] at hmd
     simp [mvD, ia] at hmd
    ·exact fY
  | false =>
   simp only [Bool.false_eq_true, if_false] at lJ
   refine ⟨vs, lu, fun k => w.heap.size <= k /\ k < w'.heap.size, rfl, bK, fun k hk => hk, ⟨dO, e', fM, (PG fv).imp fun _ _ => Rd.mono (fun k i v hk hc => ⟨hc, ?_⟩)⟩, l4, ?_, ?_⟩
   ·rcases hk with hk | hk
    ·exact .inl hk
    ·exact .inr (hXn k hk)
   ·clear gH lT l4 hw
    induction lC generalizing res with
    | nil => simp [km] at lJ; subst lJ; exact .nil
    | cons h1 _ ih =>
     simp only [km] at lJ
     split at lJ
     ·rename_i row rs lv fC
      cases lJ
      exact .cons ((r.rowOf false lv h1 (fun hh => by cases hh)).length) (ih fC)
     ·cases lJ
   ·simp only [Bool.false_eq_true, if_false]
    refine SW r (fun k i hk => ?_) lJ lC
    rcases hk with hk | ⟨t, j, q, size, rows, ho, hk⟩
    ·rcases hk with hk | hk
     ·exact .inl hk
     ·exact .inr (hXn k hk)
    ·have lA : σ'.ob t j ≠ .none := zAr
     have lE := r.own t j k lA hk
     refine .inr ⟨?_, lE.2.2⟩
     rcases Nat.lt_or_ge k w.heap.size with lH | fY
     ·refine absurd ⟨lH, ?_, fun hh => hh⟩ lE.1
      rintro rfl
      have ir := r.ub 0 0 k zBg zBz
      obtain ⟨e1, e2⟩ := r.inj t j 0 0 k lA zBg hk ir
      rw [e1, e2, ia] at ho; cases ho
     ·exact fY
 rcases he with rfl | rfl
 ·exact goal
 ·exact goal
theorem Fp {c : Code} (hf : P.funcs[f]? = some fn) (hb : fn.body = some c) (lW : TL P f = true)
  (hw : AWP P c (oE P fn lD) (kJ fn.ntmps args)) : Mx P f args lD := by
 refine ⟨lW, fun T w l6 hT lF => calls_of_wp hf hb ?_⟩
 refine wp_mono (hw T (fun b => b < w.heap.size) _ w (GP hT lF)) ?_
 rintro e a' w' ⟨σ', ⟨he, u, gH, hobx⟩, ⟨X, h, r⟩, lQ⟩
 have gI : Below w.heap.size w w' := ⟨lQ.os, lQ.tape, lQ.output, lQ.size, lQ.block⟩
 obtain ⟨vs, lu, lT, l4, lC⟩ := Wo r gH
 cases lC with
 | cons h1 lC =>
  cases lC
  cases h1 with
  | @cons _ c0 _ _ hx h1 =>
   cases h1
   cases l4 with
   | @cons v0 _ _ _ hu hn =>
    cases hn
    have gr : v0 = c0 := by
     rcases hu with ⟨c', he', rfl, _⟩ | ⟨hn, _⟩
     ·cases he'; rfl
     ·simp at hn
    subst gr
    obtain ⟨b, ig, hv⟩ := hx.2 _ hobx
    have im := r.obj u 0
    rw [hobx] at im
    obtain ⟨b2, dO, e', l0, fM, fv⟩ := im
    rw [ig] at l0
    have gy : b2 = b := zAl
    subst gy
    have lA : σ'.ob u 0 ≠ .none := by rw [hobx]; simp
    have ir := r.ub u 0 b2 lA zBz
    have lE := r.own u 0 b2 lA ir
    have goal : a'.defers = [] /\ ∃ v, (results fn a'.tmps).run P w' = .ok v w' /\ ∃ b Y, Ending.returned v = .returned (ptr b) /\ Below w.heap.size w w' /\ w.heap.size <= b /\ b < w'.heap.size /\ (∀ k, Y k -> w.heap.size <= k /\ k < w'.heap.size /\ k ≠ b) /\ ∃ cs e', w'.heap[b]? = some (.cells cs e' (0, 0)) /\ Z9 (Rd (Tof T Y) w') cs.toList lD := by
     refine ⟨r.defers, _, lT, b2, X, by rw [hv]; rfl, gI, by have := lE.1; omega, lE.2.2, fun k hk => ?_, dO, e', fM, PG fv⟩
     have gB := r.hX k hk
     refine ⟨by have := gB.1; omega, gB.2, ?_⟩
     rintro rfl
     exact lE.2.1 hk
    rcases he with rfl | rfl
    ·exact goal
    ·exact goal
open Go.RowKit
variable {ts : List TypeId} {qs : List Bool} {rv : List ResultVar} {ops : Array Oper}
theorem we {ob : Nat -> Nat -> Ob} (hr : J0 T h ob w hd (.arr true size rows)) (hf : ∀ r ∈ rows, ∀ x ∈ r, x.scalar = true) : J0 T h ob w hd (.arr false size rows) := by
 obtain ⟨e, xs, ho, hz, ⟨hl, Sk, hk, _, _⟩, _⟩ := hr
 refine ⟨e, xs, ho, hz, Z9.xk hl (fun k x d hx hd => ?_)⟩
 obtain ⟨r0, fb, hdr⟩ := List.mem_flatten.1 (List.mem_of_getElem? hd)
 have ib := hf r0 fb d hdr
 have := hk k x d hx hd
 cases this with
 | int k n => exact .int _ _
 | bool b => exact .bool _
 | str s => exact .str _
 | unk v h => exact .unk _ h
 | sl => cases ib
theorem Rel.oH (r : Rel T0 B σ a w X h) (hf : σ.fresh d = true) (M : Nat -> Prop) (hM : ∀ b, M b -> ¬ B b /\ ¬ X b /\ b < w.heap.size /\ ∀ t j, σ.ob t j ≠ .none -> ¬ (h t j).u b) (qs : List Bool)
  (l4 : Z9 yb vs lu) (hlen : Z9 (fun (cs : List Value) (row : List D) => cs.length = row.length) lu res) (lE : KT w lu.flatten res.flatten M) (hq : xT qs res.flatten) : Jz T0 B (σ.new d (jv d res) (YR qs res.flatten)) (a.put (some d) (Rm vs)) w := by
 have lH := St.zO hf
 obtain ⟨dz, Sk, k1, k2, k3, k4⟩ := DS lE
 have lS : ∀ j, (σ.new d (jv d res) (YR qs res.flatten)).ob d j = Yj (YR qs res.flatten) j := fun j => by rw [St.Jt]; simp [lH]
 have htop := lE.top (T := Tof T0 X)
 have gd : Z9 (fun cs row => Z9 (WM (Tof T0 X) w) cs row) lu res := qx hlen (fun k x d hx hd => by
  obtain ⟨c, hc, ht⟩ := htop.get' k d hd
  rw [hx] at hc; cases hc; exact ht)
 refine ⟨X, fun t j => if t = d then dz j else h t j, ?_⟩
 refine r.wI hf M (Nat.le_refl _) (fun _ _ _ => rfl) (fun b hb => ⟨(hM b hb).1, (hM b hb).2.1, fun t j _ hn => (hM b hb).2.2.2 t j hn⟩) (fun b hb => hb) (fun b hb => .inl hb) (jv d res) (Rm vs) (YR qs res.flatten) dz ?_ (fun j => ?_) (fun j b lA hb => ?_) (fun j b lA hb => ?_) (fun j j' b lA l8 hb lP => ?_)
 ·exact GQ (h := fun t j => if t = d then dz j else h t j) (ob := (σ.new d (jv d res) (YR qs res.flatten)).ob) (t := d) l4 gd (fun i size rows hi => by
   obtain ⟨q, gj, _⟩ := (Yy qs res.flatten i hq).1 size rows hi
   exact ⟨q, by rw [lS]; exact gj⟩) (fun i c hi => by simp only [if_true]; exact k1 i c hi)
 ·by_cases lA : Yj (YR qs res.flatten) j = .none
  ·rw [lA]; trivial
  ·obtain ⟨size, rows, hj⟩ := (Yy qs res.flatten j hq).2 lA
   obtain ⟨q, gj, hqf⟩ := (Yy qs res.flatten j hq).1 size rows hj
   rw [gj]
   have := (k4 j size rows hj).2.2 (Tof T0 X) (fun t j => if t = d then dz j else h t j) (σ.new d (jv d res) (YR qs res.flatten)).ob
   cases q with
   | true => exact this
   | false => exact we this (hqf rfl)
 ·obtain ⟨size, rows, hj⟩ := (Yy qs res.flatten j hq).2 lA
  exact (k4 j size rows hj).2.1 b hb
 ·obtain ⟨size, rows, hj⟩ := (Yy qs res.flatten j hq).2 lA
  have := k2 j b ((k4 j size rows hj).1 b hb)
  exact ⟨.inr this, (hM b this).2.1, (hM b this).2.2.1⟩
 ·obtain ⟨size, rows, hj⟩ := (Yy qs res.flatten j hq).2 lA
  obtain ⟨lU, lM, fP⟩ := (Yy qs res.flatten j' hq).2 l8
  exact k3 j j' b ((k4 j size rows hj).1 b hb) ((k4 j' lU lM fP).1 b lP)
theorem Rel.vi (r : Rel T0 B σ a w X h) {cells : List At} (ho : σ.ob t 0 = .box cells) (hv : (h t 0).v = ptr b) (iZ : w.heap.size <= w'.heap.size) (hw : ∀ k, k < w.heap.size -> k ≠ b -> w'.heap[k]? = w.heap[k]?)
  (hX : ∀ b, X b -> X' b) (dB : ∀ b, X' b -> X b \/ (w.heap.size <= b /\ b < w'.heap.size)) (eg : ∃ cs e, w'.heap[b]? = some (.cells cs e (0, 0)) /\ Z9 (Rd (Tof T0 X') w') cs.toList lD) : Rel T0 B (σ.Zu t 0 (.box (lD.map .d))) a w' X' h := by
 have lS : σ.ob t 0 ≠ .none := zAr
 have lk : blk (h t 0).v = some b := by rw [hv]; rfl
 have ir := r.ub t 0 b lS lk
 have hbB := r.own t 0 b lS ir
 have hT : ∀ k i v, Tof T0 X k i -> w.cell? ⟨k, i, none⟩ = some v -> w'.cell? ⟨k, i, none⟩ = some v /\ Tof T0 X' k i := by
  intro k i v hk hc
  refine ⟨?_, hk.imp id (hX k)⟩
  have lA : k ≠ b := by
   rintro rfl
   rcases hk with hk | hk
   ·exact hbB.1 (r.hT _ _ hk)
   ·exact hbB.2.1 hk
  rw [World.cell?_of_block (hw k (r.Tlt hk) lA)]; exact hc
 have iw : ∀ u i, ¬ (u = t /\ i = 0) -> (σ.Zu t 0 (.box (lD.map .d))).ob u i = σ.ob u i := by
  intro u i lA
  rw [St.Xo σ t 0 _ u i lS, if_neg lA]
 have iq : (σ.Zu t 0 (.box (lD.map .d))).ob t 0 = .box (lD.map .d) := by rw [St.Xo σ t 0 _ t 0 lS]; simp
 have hcp : ∀ u i, Cpt h h σ.ob (σ.Zu t 0 (.box (lD.map .d))).ob u i := by
  intro u i
  by_cases hu : u = t /\ i = 0
  ·obtain ⟨rfl, rfl⟩ := hu
   refine ⟨fun q size rows lb => ?_, fun size rows lb => ?_, fun lI lb => ⟨rfl, cells, ho⟩⟩
   ·rw [iq] at lb; cases lb
   ·rw [iq] at lb; cases lb
  ·exact Cpt.same rfl (iw u i hu)
 have at_ : ∀ {x : At} {v : Value}, (fun _ => false : At -> Bool) x = false -> YF (Tof T0 X) h σ.ob w x v -> YF (Tof T0 X') h (σ.Zu t 0 (.box (lD.map .d))).ob w' x v := fun _ rx => YF.sL hT hcp rx
 have iz : ∀ u i, (σ.Zu t 0 (.box (lD.map .d))).ob u i ≠ .none -> σ.ob u i ≠ .none := by
  intro u i hn
  by_cases hu : u = t /\ i = 0
  ·obtain ⟨rfl, rfl⟩ := hu; exact lS
  ·rw [iw u i hu] at hn; exact hn
 refine ⟨by rw [r.size, St.XW], r.defers, fun b hb => Nat.lt_of_lt_of_le (r.hB b hb) iZ, fun k hk => ?_, r.hT, fun u hu => ?_, fun u i => ?_, fun u i k hn => r.ub u i k (iz u i hn), fun u i k hn hk => ?_, fun u i u' i' k hn iE => r.inj u i u' i' k (iz u i hn) (iz u' i' iE)⟩
 ·rcases dB k hk with hk | hk
  ·have := r.hX k hk; exact ⟨this.1, zAA⟩
  ·exact ⟨fun gy => by have := r.hB k gy; omega, hk.2⟩
 ·rw [St.XW] at hu
  rw [St.QI]; exact JP.map at_ (qH _) (r.slot u hu)
 ·by_cases hu : u = t /\ i = 0
  ·obtain ⟨rfl, rfl⟩ := hu
   rw [iq]
   obtain ⟨cs, e, hh, lC⟩ := eg
   exact ⟨b, cs, e, hv, hh, VW lC⟩
  ·rw [iw u i hu]
   exact J0.map at_ hT (fun ho b => r.ub u i b ho) (fun hn k hk => hw k (r.own u i k hn hk).2.2 (fun e => by
    rw [e] at hk
    obtain ⟨e1, e2⟩ := r.inj u i t 0 b hn lS hk ir
    exact hu ⟨e1, e2⟩)) (VR _) (r.obj u i)
 ·have := r.own u i k (iz u i hn) hk
  refine ⟨this.1, fun hx => ?_, zAA⟩
  rcases dB k hx with hx | hx
  ·exact this.2.1 hx
  ·omega
def BM (dp : Bool) (σ : St) (d : Nat) (res : List (List D)) (qs : List Bool) : St := match dp with | true => σ.new d (jv d res) (YR qs res.flatten) | false => σ.put d (qo res)
theorem Li (r : Rel T0 B σ a w X h) {o : Oper} {xs : List Operand} {t0 : TypeId} {row : List D} (qs : List Bool) (my : o.op = .call cl) (hc : cl.callee = .value (.func f)) (hd : o.dst = some d)
  (ha : cl.args.toList = x0 :: xs) (hg : gOf (look P σ t0 x0) = true) (hx : unc (look P σ t0 x0) = .one (.bptr t 0)) (ho : σ.ob t 0 = .box (row.map .d)) (lF : Qz P σ xs ts lO) (ld : Yd P σ xs ts = true) (hs : xl P f dp row lO lD res)
  (iJ : dp = true -> (σ.Zu t 0 (.box (lD.map .d))).fresh d = true /\ xT qs res.flatten)
  (hK : ∀ a' w', Jz T0 B (BM dp (σ.Zu t 0 (.box (lD.map .d))) d res qs) a' w' -> Y8 B w w' -> K a' w') : o.wp P a w K Q := by
 have lS : σ.ob t 0 ≠ .none := zAr
 have har := r.arg (P := P) t0 x0 hx hg
 obtain ⟨b, ig, hv⟩ := har.2 _ ho
 have im := r.obj t 0
 rw [ho] at im
 obtain ⟨b2, cs, e, l0, hh, lC⟩ := im
 rw [ig] at l0
 have gy : b2 = b := zAl
 subst gy
 have lk : blk (h t 0).v = some b2 := zBz
 have ir := r.ub t 0 b2 lS lk
 have lE := r.own t 0 b2 lS ir
 have fB := r.Qz true lF (fun _ => ld)
 simp only [if_true] at fB
 unfold Oper.wp
 rw [UH my hc hs.1, Oper.upon_enter]
 rw [show (cl.args.toList.map a.eval).toArray = (ptr b2 :: xs.map a.eval).toArray by rw [ha]; simp [hv]]
 have hT : ∀ k i, Tof T0 X k i -> k < w.heap.size /\ k ≠ b2 := by
  intro k i hk
  refine ⟨r.Tlt hk, ?_⟩
  rintro rfl
  rcases hk with hk | hk
  ·exact lE.1 (r.hT _ _ hk)
  ·exact lE.2.1 hk
 refine (hs.2 (Tof T0 X) w b2 _ hT lE.2.2 ⟨cs, e, hh, PG lC⟩ fB).mono ?_
 rintro e' w' ⟨vs, lu, Y, rfl, lQ, hY, ⟨dO, e2, fM, fv⟩, l4, hlen, gH⟩
 rw [hd]
 have cL : ∀ {v : Value} {x : D}, Rd (Tof (Tof T0 X) Y) w' v x -> Rd (Tof T0 (fun k => X k \/ Y k)) w' v x := fun hr => hr.mono (fun k i v hk hc => ⟨hc, by
  rcases hk with (hk | hk) | hk
  ·exact .inl hk
  ·exact .inr (.inl hk)
  ·exact .inr (.inr hk)⟩)
 have r1 := r.vi (w' := w') (X' := fun k => X k \/ Y k) (lD := lD) ho ig lQ.size (fun k hk lA => lQ.block k ⟨hk, lA⟩) (fun k hk => .inl hk) (fun k hk => hk.imp id (hY k)) ⟨dO, e2, fM, fv.imp fun _ _ => cL⟩
 have hBk : Y8 B w w' := ⟨lQ.os, lQ.tape, lQ.output, lQ.size, fun k hk => lQ.block k ⟨r.hB k hk, fun e => lE.1 (e ▸ hk)⟩⟩
 cases dp with
 | false =>
  simp only [Bool.false_eq_true, if_false] at gH
  exact hK _ _ ⟨_, _, r1.put d _ _ (DE l4 (Mh (fun _ _ _ _ _ => cL) gH))⟩ hBk
 | true =>
  simp only [if_true] at gH
  obtain ⟨hfr1, hq⟩ := iJ rfl
  refine hK _ _ (r1.oH hfr1 (fun k => w.heap.size <= k /\ k < w'.heap.size /\ ¬ Y k) (fun k hk => ⟨fun hb => by have := r.hB k hb; omega, ?_, hk.2.1, fun u j hn hu => ?_⟩) qs l4 hlen gH hq) hBk
  ·rintro (hx | hy)
   ·have := (r.hX k hx).2; omega
   ·exact hk.2.2 hy
  ·have iE : σ.ob u j ≠ .none := by
    by_cases hc : u = t /\ j = 0
    ·obtain ⟨rfl, rfl⟩ := hc; exact lS
    ·rw [St.Xo σ t 0 _ u j lS, if_neg hc] at hn; exact hn
   have := (r.own u j k iE hu).2.2; omega
theorem Bb (r : Rel T0 B σ a w X h) {o : Oper} (my : o.op = .call cl) (hc : cl.callee = .value (.func f)) (hd : o.dst = some d) (iJ : σ.fresh d = true)
  (lF : Qz P σ cl.args.toList cl.argTypes.toList lO) (ld : Yd P σ cl.args.toList cl.argTypes.toList = true) (hs : Mx P f lO lD)
  (hK : ∀ a' w', Jz T0 B (σ.new d (.one (.bptr d 0)) [.box (lD.map .d)]) a' w' -> Y8 B w w' -> K a' w') : o.wp P a w K Q := by
 have lH := St.zO iJ
 have fB := r.Qz true lF (fun _ => ld)
 simp only [if_true] at fB
 unfold Oper.wp
 rw [UH my hc hs.1, Oper.upon_enter]
 refine (hs.2 (Tof T0 X) w _ (fun k i hk => r.Tlt hk) fB).mono ?_
 rintro e' w' ⟨b, Y, rfl, gI, ig, l0, hY, dO, e2, fM, fv⟩
 rw [hd]
 have cL : ∀ {v : Value} {x : D}, Rd (Tof (Tof T0 X) Y) w' v x -> Rd (Tof T0 (fun k => X k \/ Y k)) w' v x := fun hr => hr.mono (fun k i v hk hc => ⟨hc, by
  rcases hk with (hk | hk) | hk
  ·exact .inl hk
  ·exact .inr (.inl hk)
  ·exact .inr (.inr hk)⟩)
 have lS : (σ.new d (.one (.bptr d 0)) [.box (lD.map .d)]).ob d 0 = .box (lD.map .d) := zA2
 refine hK _ _ ⟨fun k => X k \/ Y k, fun t j => if t = d then Hd.of (ptr b) else h t j, ?_⟩ (Y8.Nh gI r.hB)
 refine r.new iJ (Below.grownBy gI) (fun k hk => .inl hk) (fun k hk => hk.imp id (fun hy => ⟨(hY k hy).1, (hY k hy).2.1⟩)) _ _ _ (fun _ => Hd.of (ptr b)) ⟨rfl, fun cells _ => ⟨b, by simp [Hd.of], rfl⟩⟩ (fun j => ?_) (fun j k _ hk => hk) (fun j k _ hk => ?_) (fun i j k hi hj _ _ => ?_)
 ·cases j with
  | zero => exact ⟨b, dO, e2, rfl, fM, VW (fv.imp fun _ _ => cL)⟩
  | succ j => simp [Yj, J0]
 ·simp [Hd.of, blk] at hk; subst hk
  refine ⟨ig, ?_, l0⟩
  rintro (hx | hy)
  ·have := (r.hX _ hx).2; omega
  ·exact (hY _ hy).2.2 rfl
 ·have hz : ∀ j, Yj [Ob.box (lD.map .d)] j ≠ .none -> j = 0 := by
   intro j hj
   cases j with
   | zero => rfl
   | succ j => simp [Yj] at hj
  rw [hz i hi, hz j hj]
section
theorem Gx {d' : Nat} (lA : d ≠ d') (lp : Xi σ d = true) : Xi (BM dp σ d' res qs) d = true := by
 cases dp with
 | false => exact Mv lA lp
 | true => exact WH lA lp
attribute [simp] BM
theorem yi {c : Code} (hf : P.funcs[f]? = some fn) (hb : fn.body = some c) (lW : TL P f = true) {row : List D}
  (hw : ∀ v, @WI P (xt fn.ntmps [] v (row.map .d) [] args) ⟨c⟩ (.fin (oR P fn v dp lD res))) : xl P f dp row args lD res := FK hf hb lW (fun v => V7 (hw v))
theorem qF (hf : fn.results = rv.toArray) (h : (KC P σ rv).1 /\ σ.head? = some (.fix v (.one (.bptr 0 0)), .box (lD.map .d) :: (σ.head?.map (fun e => e.2.tail)).getD []) /\
  (if dp then Ku σ (KC P σ rv).2 = some res /\ KV σ (KC P σ rv).2 /\ (XH (KC P σ rv).2.flatten).Nodup else km σ (KC P σ rv).2 = some res)) : oR P fn v dp lD res .ret σ :=
 ⟨.inl rfl, ⟨_, h.2.1⟩, _, by rw [hf]; exact Ty h.1, h.2.2⟩
theorem uE {c : Code} (hf : P.funcs[f]? = some fn) (hb : fn.body = some c) (lW : TL P f = true)
  (hw : @WI P (kJ fn.ntmps args) ⟨c⟩ (.fin (oE P fn lD))) : Mx P f args lD := Fp hf hb lW (V7 hw)
theorem nZ (u : Nat) (hf : fn.results = rv.toArray) (h : (KC P σ rv).1 /\ (KC P σ rv).2 = [[.bptr u 0]] /\ σ.ob u 0 = .box (lD.map .d)) : oE P fn lD .ret σ :=
 ⟨.inl rfl, u, by rw [hf, <- h.2.1]; exact Ty h.1, h.2.2⟩
theorem wF {o : Oper} {xs : List Operand} {t0 : TypeId} {row : List D} (qs : List Bool) (my : o.op = .call cl) (hc : cl.callee = .value (.func f)) (eT : o.guard = none) (hd : o.dst = some d)
  (ha : cl.args.toList = x0 :: xs) (hs : xl P f dp row lO lD res) (hg : gOf (look P σ t0 x0) = true) (hx : unc (look P σ t0 x0) = .one (.bptr t 0)) (ho : σ.ob t 0 = .box (row.map .d))
  (lF : Qz P σ xs ts lO) (ld : Yd P σ xs ts = true) (iJ : dp = true -> (σ.Zu t 0 (.box (lD.map .d))).fresh d = true /\ xT qs res.flatten) : oa P ops o σ (BM dp (σ.Zu t 0 (.box (lD.map .d))) d res qs) := by
 have hm : ∀ z ∈ x0 :: xs, z ∈ o.op.operands.toList := fun z hz => by rw [my]; exact yF (by rw [ha]; exact hz)
 refine ⟨d, t, row.map .d, lD.map .d, (cond dp (jv d res) (qo res)), (cond dp (some (YR qs res.flatten)) none), hd, ho, ⟨x0, xs, ⟨f, cl.argTypes, ?_⟩, t0, hx⟩, fun u => ⟨UI _, UI _⟩, fun u hu => ?_, fun hn => ?_, ?_, fun σ2 hl e7 lS hfr2 => ?_⟩
 ·rw [my]
  obtain ⟨c1, c2, c3⟩ := cl
  simp only at hc ha ⊢
  rw [hc, <- ha]
 ·cases dp with
  | true =>
   have hu := hu.resolve_left zAF
   exact ⟨Hs hu res, fun l hl => by cases hl; exact yw u qs _⟩
  | false => exact ⟨ES u res, fun l hl => by cases hl⟩
 ·cases dp with
  | true => exact (iJ rfl).1
  | false => exact absurd rfl hn
 ·cases dp <;> rfl
 ·have l3 : Sub P o.op.operands.toList σ σ2 := ⟨hl, e7, lS⟩
  have hsx : Sub P xs σ σ2 := ⟨hl, fun z hz => e7 z (hm z (by simp [hz])), fun z hz => lS z (hm z (by simp [hz]))⟩
  have h0 := e7 x0 (hm x0 zAF) t0
  have gm : σ2.ob t 0 = .box (row.map .d) := by
   rw [<- ho]
   exact lS x0 (hm x0 zAF) t0 t (QX hx zAs) 0 zAr
  have e : yx t d (lD.map .d) (cond dp (jv d res) (qo res)) (cond dp (some (YR qs res.flatten)) none) σ2 = BM dp (σ2.Zu t 0 (.box (lD.map .d))) d res qs := by cases dp <;> rfl
  rw [e]
  refine ⟨?_, fun d' lL lp => Gx (fun e => lL zBm) (Ql lp)⟩
  rintro T0 B a w K Q' ⟨X, hh, r⟩ hK
  have hw : Region.wanted o (yielded ops a.tmps) = true := zBf
  rw [if_pos hw]
  refine Li r qs my hc hd ha (by rw [<- h0]; exact hg) (by rw [<- h0]; exact hx) gm (WO hsx lF) (by rw [ks hsx]; exact ld) hs (fun hdp => ⟨?_, (iJ hdp).2⟩) hK
  subst hdp
  exact hfr2 zAF
theorem pX {xs : List Operand} {t0 : TypeId} {row : List D} (qs : List Bool) (my : o.o.op = .call cl) (hc : cl.callee = .value (.func f)) (eT : o.o.guard = none) (hd : o.o.dst = some d) (lz : A.bar o.o = true)
  (ha : cl.args.toList = x0 :: xs) (_hat : cl.argTypes.toList = t0 :: ts) (hs : xl P f dp row lO lD res) (hx : gOf (look P σ t0 x0) = true /\ unc (look P σ t0 x0) = .one (.bptr t 0)) (ho : σ.ob t 0 = .box (row.map .d))
  (lF : (XU P σ xs ts).1) (lN : (XU P σ xs ts).2 = some lO) (ld : Yd P σ xs ts = true) (iJ : dp = true -> (σ.Zu t 0 (.box (lD.map .d))).fresh d = true /\ xT qs res.flatten)
  (h : @EI P (BM dp (σ.Zu t 0 (.box (lD.map .d))) d res qs) A l k) : @SI P σ A o l k := by
 refine ⟨_, .inr ⟨lz, ?_, fun d' lL lp => Gx (fun e => lL zBm) (Ql lp), fun hh => by simp [Vr, my] at hh, fun hh => by first | (simp [kc, my] at hh; done) | (unfold kc at hh; rw [my] at hh; split at hh <;> simp_all), fun _ _ => wF qs my hc eT hd ha hs hx.1 hx.2 ho (qV lF lN) ld iJ⟩, Jh h⟩
 rintro T0 B a w K Q' ⟨X, hh, r⟩ hK
 have hw : Region.wanted o.o (yielded A.ops a.tmps) = true := zBf
 rw [if_pos hw]
 exact Li r qs my hc hd ha hx.1 hx.2 ho (qV lF lN) ld hs iJ hK
theorem nD (my : o.o.op = .call cl) (hc : cl.callee = .value (.func f)) (eT : o.o.guard = none) (hd : o.o.dst = some d) (lz : A.bar o.o = true) (hs : Mx P f lO lD)
  (lF : (XU P σ cl.args.toList cl.argTypes.toList).1) (lN : (XU P σ cl.args.toList cl.argTypes.toList).2 = some lO) (ld : Yd P σ cl.args.toList cl.argTypes.toList = true) (iJ : σ.fresh d = true)
  (h : @EI P (σ.new d (.one (.bptr d 0)) [.box (lD.map .d)]) A l k) (eA : KY P o.o = false := by exact rfl) : @SI P σ A o l k := by
 refine ⟨_, .inr ⟨lz, ?_, fun d' lL lp => WH (fun e => lL zBm) lp, fun hh => by simp [Vr, my] at hh, fun hh => by first | (simp [kc, my] at hh; done) | (unfold kc at hh; rw [my] at hh; split at hh <;> simp_all), fun hh _ => by rw [eA] at hh; cases hh⟩, Jh h⟩
 rintro T0 B a w K Q' ⟨X, hh, r⟩ hK
 have hw : Region.wanted o.o (yielded A.ops a.tmps) = true := zBf
 rw [if_pos hw]
 exact Bb r my hc hd iJ (qV lF lN) ld hs hK
end
open Go.RowKit
variable {eO : List At}
def pU (w : World) (S : Nat -> Prop) (b : Nat) (lD : List D) (e : Ending) (w' : World) : Prop :=
 e = .returned (.tuple #[]) /\ Y8 (fun k => k < w.heap.size /\ k ≠ b /\ ¬ S k) w w' /\ ∃ cs e', w'.heap[b]? = some (.cells cs e' (0, 0)) /\ KT w' cs.toList lD (fun k => (S k \/ (w.heap.size <= k /\ k < w'.heap.size)) /\ k ≠ b)
def G9 (P : Program) (f : FuncId) (args : List (List D)) (row lD : List D) : Prop :=
 TL P f = true /\ ∀ (T : CS) (S : Nat -> Prop) (w : World) (b : Nat) (l6 : List Value), (∀ k i, T k i -> k < w.heap.size /\ k ≠ b /\ ¬ S k) -> (∀ k, S k -> k < w.heap.size /\ k ≠ b) -> b < w.heap.size ->
  (∃ cs e, w.heap[b]? = some (.cells cs e (0, 0)) /\ KT w cs.toList row S) -> E9 T w l6 args -> Calls P f (l6 ++ [ptr b]).toArray w (pU w S b lD)
def pr (P : Program) (fn : Func) (p : Nat) (v : Value) (lD : List D) (e : Exit) (σ : St) : Prop :=
 (e = .ret \/ e = .normal) /\ Se P σ fn.results.toList [] /\ ∃ eO gL, σ[p]? = some (.fix v (.one (.bptr p 0)), .box eO :: gL) /\ J5 σ eO = some lD /\ Qe σ eO /\ (XH eO).Nodup
def nM (n : Nat) (sz : Nat) (rows : List (List D)) (args : List (List D)) : St := (.one (.sref 0 0 0 rows.length), [.arr false sz rows]) :: (Oq args ++ List.replicate (n - (args.length + 1)) (V.any, []))
def At.isO (u : Nat) : At -> Bool
 | .sref t _ _ _ => t == u
 | .ptr t _ _ _ => t == u
 | .tref t _ _ _ _ => t == u
 | _ => false
theorem vE {row : List D} (hq : xT qs row) (k4 : ∀ j size rows, row[j]? = some (.sl size rows) -> ∀ T h ob, J0 T h ob w (hf j) (.arr true size rows)) (T : CS) (ob : Nat -> Nat -> Ob) (j : Nat) : J0 T h ob w (hf j) (Yj (YR qs row) j) := by
 by_cases lA : Yj (YR qs row) j = .none
 ·rw [lA]; trivial
 ·obtain ⟨size, rows, hj⟩ := (Yy qs row j hq).2 lA
  obtain ⟨q, gj, hqf⟩ := (Yy qs row j hq).1 size rows hj
  rw [gj]
  have := k4 j size rows hj T h ob
  cases q with
  | true => exact this
  | false => exact we this (hqf rfl)
theorem FZ {c : Code} (hf : P.funcs[f]? = some fn) (hb : fn.body = some c) (lW : TL P f = true) {row : List D} (qs : List Bool) (hq : xT qs row)
  (hw : ∀ v, AWP P c (pr P fn args.length v lD) (xt fn.ntmps args v (K1 args.length 1 row) (YR qs row) [])) : G9 P f args row lD := by
 refine ⟨lW, fun T S w b l6 hT hS lP ⟨cs0, e0, hh0, eF⟩ lF => calls_of_wp hf hb ?_⟩
 obtain ⟨dz, Sk, k1, k2, k3, k4⟩ := DS eF
 have dc := Eg (w := w) (T := T) (S := S) (n := fn.ntmps) (b := b) (pre := args) (post := []) (cells := K1 args.length 1 row) (gL := YR qs row) (gC := l6) (gR := []) (fun j => match j with | 0 => Hd.of (ptr b) | j + 1 => dz j)
  hT hS lP rfl (fun h ob hh lS => ⟨b, cs0, e0, rfl, hh0, SQ eF.top (fun i size rows hi => by
    obtain ⟨q, gj, _⟩ := (Yy qs row i hq).1 size rows hi
    exact ⟨q, by rw [lS, Nat.add_comm, WJ]; exact gj⟩) (fun i c hc => by rw [hh, Nat.add_comm]; exact k1 i c hc)⟩)
  (fun h ob j => vE hq (fun j size rows hj => (k4 j size rows hj).2.2) _ _ j)
  (fun j k hn hk => by
   obtain ⟨size, rows, hj⟩ := (Yy qs row j hq).2 hn
   exact (k4 j size rows hj).2.1 k hk)
  (fun j k hn hk => by
   obtain ⟨size, rows, hj⟩ := (Yy qs row j hq).2 hn
   exact k2 j k ((k4 j size rows hj).1 k hk))
  (fun i j k hn iE hk gB => by
   obtain ⟨size, rows, hj⟩ := (Yy qs row i hq).2 hn
   obtain ⟨lU, lM, fP⟩ := (Yy qs row j hq).2 iE
   exact k3 i j k ((k4 i size rows hj).1 k hk) ((k4 j lU lM fP).1 k gB)) lF .nil
 refine wp_mono (hw (ptr b) T _ _ w dc) ?_
 rintro e a' w' ⟨σ', ⟨he, gH, eO, gL, fI, gT, gk, iV⟩, ⟨X, h, r⟩, lQ⟩
 obtain ⟨vs, lu, lT, l4, lC⟩ := Wo r gH
 cases lC
 cases l4
 have iS : args.length < σ'.length := (List.getElem?_eq_some_iff.1 fI).1
 have bq : σ'.get args.length = .fix (ptr b) (.one (.bptr args.length 0)) := by unfold St.get; rw [fI]
 have ia : σ'.ob args.length 0 = .box eO := by unfold St.ob; rw [fI]; rfl
 have ep := r.slot _ iS
 rw [bq] at ep
 obtain ⟨hveq, gi⟩ := ep
 obtain ⟨b1, ig, iW⟩ := gi.2 _ ia
 rw [hveq] at iW
 have gy : b1 = b := zBR
 subst gy
 have im := r.obj args.length 0
 rw [ia] at im
 obtain ⟨b2, dO, e', l0, fM, fv⟩ := im
 rw [ig] at l0
 have gy : b2 = b1 := zAl
 subst gy
 have ir := r.ub args.length 0 b2 zBg zBz
 have goal : a'.defers = [] /\ ∃ v, (results fn a'.tmps).run P w' = .ok v w' /\ pU w S b2 lD (.returned v) w' := by
  refine ⟨r.defers, _, lT, rfl, lQ, dO, e', fM, (RL r fv gT gk iV).mono (fun k hk => ?_)⟩
  have hg := r.z8 _ k hk
  have lA : k ≠ b2 := by
   rintro rfl
   obtain ⟨p, hp, lA, hu⟩ := hk
   obtain ⟨e1, e2⟩ := r.inj p.1 p.2 args.length 0 k lA zBg hu ir
   obtain ⟨i, lo, len, hx⟩ := PN hp
   obtain ⟨d, hd, hmd⟩ := (Z9.get (R := fun x d => mvD σ' x = some d) (Z9.xk (qY gT).1 (fun i a b h1 h2 => (qY gT).2 i a b h1 h2)) i _ hx)
   rw [e1, e2] at hmd
   simp [mvD, ia] at hmd
  refine ⟨?_, lA⟩
  by_cases hs : S k
  ·exact .inl hs
  ·refine .inr ⟨?_, hg.2.2.1⟩
   rcases Nat.lt_or_ge k w.heap.size with lH | fY
   ·exact absurd ⟨lH, lA, hs⟩ hg.1
   ·exact fY
 rcases he with rfl | rfl
 ·exact goal
 ·exact goal
theorem Rel.nG (r : Rel T0 B σ a w X h) {cells : List At} (ho : σ.ob u 0 = .box cells) (hv : (h u 0).v = ptr b) (lH : u < σ.length) (M S' : Nat -> Prop) (iZ : w.heap.size <= w'.heap.size) (hw : ∀ k, k < w.heap.size -> k ≠ b -> ¬ M k -> w'.heap[k]? = w.heap[k]?)
  (hm : ∀ k, M k -> ¬ B k /\ ¬ X k /\ ∀ t j, σ.ob t j ≠ .none -> ¬ (h t j).u k) (cG : (σ.Zu u 0 .none).yS (At.isO u) = false) (hq : xT qs lD) {e' : TypeId} (fM : w'.heap[b]? = some (.cells dO e' (0, 0)))
  (lE : KT w' dO.toList lD S') (hS' : ∀ k, S' k -> (w.heap.size <= k \/ M k) /\ k < w'.heap.size /\ k ≠ b) : Jz T0 B (σ.new u (σ.get u) (.box (K1 u 1 lD) :: YR qs lD)) a w' := by
 have lS : σ.ob u 0 ≠ .none := zAr
 have lk : blk (h u 0).v = some b := by rw [hv]; rfl
 have ir := r.ub u 0 b lS lk
 have hbB := r.own u 0 b lS ir
 obtain ⟨dz, Sk, k1, k2, k3, k4⟩ := DS lE
 generalize hσ : σ.new u (σ.get u) (.box (K1 u 1 lD) :: YR qs lD) = σ2
 have dP : ∀ j, σ2.ob u j = Yj (.box (K1 u 1 lD) :: YR qs lD) j := fun j => by rw [<- hσ, St.Jt]; simp [lH]
 have gX : ∀ t j, t ≠ u -> σ2.ob t j = σ.ob t j := fun t j lA => by rw [<- hσ, St.Jt, if_neg (fun hh => lA hh.1)]
 have ic : ∀ t, σ2.get t = σ.get t := by
  intro t
  rw [<- hσ, St.VL]
  split
  ·rename_i hh; rw [hh.1]
  ·rfl
 have hlen : σ2.length = σ.length := by rw [<- hσ, St.WB]
 let lL : Nat -> Hd := fun j => match j with | 0 => h u 0 | j + 1 => dz j
 let h' : Nat -> Nat -> Hd := fun t j => if t = u then lL j else h t j
 have hT : ∀ k i v, Tof T0 X k i -> w.cell? ⟨k, i, none⟩ = some v -> w'.cell? ⟨k, i, none⟩ = some v /\ Tof T0 X k i := by
  intro k i v hk hc
  refine ⟨?_, hk⟩
  have lA : k ≠ b := by
   rintro rfl
   rcases hk with hk | hk
   ·exact hbB.1 (r.hT _ _ hk)
   ·exact hbB.2.1 hk
  have bV : ¬ M k := by
   intro hmk
   rcases hk with hk | hk
   ·exact (hm k hmk).1 (r.hT _ _ hk)
   ·exact (hm k hmk).2.1 hk
  rw [World.cell?_of_block (hw k (r.Tlt hk) lA bV)]; exact hc
 have at_ : ∀ {x : At} {v : Value}, At.isO u x = false -> YF (Tof T0 X) h σ.ob w x v -> YF (Tof T0 X) h' σ2.ob w' x v := by
  intro x v bl rx
  cases x with
  | any => exact rx
  | d x => exact Rd.mono hT rx
  | nil s => exact rx
  | sref t j lo len =>
   have lA : t ≠ u := by simpa [At.isO] using bl
   simp only [YF, h', if_neg lA, gX t j lA]; exact rx
  | ptr t j i c =>
   have lA : t ≠ u := by simpa [At.isO] using bl
   simp only [YF, h', if_neg lA, gX t j lA]; exact rx
  | tref t j i c o =>
   have lA : t ≠ u := by simpa [At.isO] using bl
   simp only [YF, h', if_neg lA, gX t j lA]; exact rx
  | bptr t c =>
   by_cases hc : t = u
   ·subst hc
    refine ⟨rx.1, fun lI _ => ?_⟩
    simp only [h', if_true, lL]; exact rx.2 _ ho
   ·simp only [YF, h', if_neg hc, gX t 0 hc]; exact rx
  | fn f t =>
   by_cases hc : t = u
   ·subst hc
    refine ⟨rx.1, fun lI _ => ?_⟩
    simp only [h', if_true, lL]; exact rx.2 _ ho
   ·simp only [YF, h', if_neg hc, gX t 0 hc]; exact rx
  | rptr rr c =>
   obtain ⟨b, off, g, e, hk⟩ := rx
   exact ⟨b, off, g, e, fun k d hd => ⟨(hT _ _ _ (hk k d hd).2.1 (hk k d hd).1).1, (hk k d hd).2.1, Rd.mono hT (hk k d hd).2.2⟩⟩
 have im : ∀ j, Yj (.box (K1 u 1 lD) :: YR qs lD) j ≠ .none -> j = 0 \/ ∃ i size rows, j = i + 1 /\ lD[i]? = some (.sl size rows) := by
  intro j hn
  cases j with
  | zero => exact .inl rfl
  | succ j =>
   rw [WJ] at hn
   obtain ⟨size, rows, hj⟩ := (Yy qs lD j hq).2 hn
   exact .inr ⟨j, size, rows, rfl, hj⟩
 have hu0 : ∀ k, (h u 0).u k -> k < w.heap.size /\ ¬ M k /\ ¬ B k /\ ¬ X k := fun k hk => ⟨(r.own u 0 k lS hk).2.2, fun hmk => (hm k hmk).2.2 u 0 lS hk, (r.own u 0 k lS hk).1, (r.own u 0 k lS hk).2.1⟩
 have hfu : ∀ i size rows k, lD[i]? = some (.sl size rows) -> (dz i).u k -> (w.heap.size <= k \/ M k) /\ k < w'.heap.size /\ k ≠ b := fun i size rows k hi hk => hS' k (k2 i k ((k4 i size rows hi).1 k hk))
 have hkeepu : ∀ t j, t ≠ u -> σ.ob t j ≠ .none -> ∀ k, (h t j).u k -> w'.heap[k]? = w.heap[k]? := by
  intro t j lA hn k hk
  refine hw k (r.own t j k hn hk).2.2 ?_ (fun hmk => (hm k hmk).2.2 t j hn hk)
  rintro rfl
  exact lA (r.inj t j u 0 k hn lS hk ir).1
 refine ⟨X, h', by rw [r.size, hlen], r.defers, fun k hk => Nat.lt_of_lt_of_le (r.hB k hk) iZ, fun k hk => ⟨(r.hX k hk).1, Nat.lt_of_lt_of_le (r.hX k hk).2 iZ⟩, r.hT, fun t ht => ?_, fun t j => ?_, fun t j k hn hk => ?_, fun t j k hn hk => ?_, fun t j t' j' k hn iE hk gB => ?_⟩
 ·rw [hlen] at ht
  rw [ic]
  have hp : (σ.get t).yS (At.isO u) = false := by have := St.NH cG t; rwa [St.QI] at this
  exact JP.map at_ hp (r.slot t ht)
 ·by_cases hc : t = u
  ·subst hc
   rw [dP]
   cases j with
   | zero =>
    simp only [h', if_true, lL, DF]
    exact ⟨b, dO, e', hv, fM, SQ lE.top (fun i size rows hi => by
     obtain ⟨q, gj, _⟩ := (Yy qs lD i hq).1 size rows hi
     exact ⟨q, by rw [dP, Nat.add_comm, WJ]; exact gj⟩) (fun i c hc => by simp only [if_true, Nat.add_comm 1 i]; exact k1 i c hc)⟩
   | succ j =>
    simp only [h', if_true, lL, WJ]
    exact vE hq (fun j size rows hj => (k4 j size rows hj).2.2) _ _ j
  ·rw [gX t j hc]
   simp only [h', if_neg hc]
   by_cases hn : σ.ob t j = .none
   ·rw [hn]; trivial
   ·have hp : xE (At.isO u) [σ.ob t j] = false := by
     have := St.HH cG t j
     rwa [St.TE, if_neg (fun hh => hc hh.1)] at this
    exact J0.map at_ hT (fun ho b => r.ub t j b ho) (fun hn k hk => hkeepu t j hc hn k hk) hp (r.obj t j)
 ·by_cases hc : t = u
  ·subst hc
   rw [dP] at hn
   rcases im j hn with rfl | ⟨i, size, rows, rfl, hi⟩
   ·simp only [h', if_true, lL] at hk ⊢; exact r.ub t 0 k lS hk
   ·simp only [h', if_true, lL] at hk ⊢; exact (k4 i size rows hi).2.1 k hk
  ·rw [gX t j hc] at hn
   simp only [h', if_neg hc] at hk ⊢; exact r.ub t j k hn hk
 ·by_cases hc : t = u
  ·subst hc
   rw [dP] at hn
   rcases im j hn with rfl | ⟨i, size, rows, rfl, hi⟩
   ·simp only [h', if_true, lL] at hk
    have := hu0 k hk; exact ⟨this.2.2.1, this.2.2.2, zAA⟩
   ·simp only [h', if_true, lL] at hk
    have := hfu i size rows k hi hk
    rcases this.1 with h1 | h1
    ·exact ⟨fun hb => by have := r.hB k hb; omega, fun hx => by have := (r.hX k hx).2; omega, this.2.1⟩
    ·exact ⟨(hm k h1).1, (hm k h1).2.1, this.2.1⟩
  ·rw [gX t j hc] at hn
   simp only [h', if_neg hc] at hk
   have := r.own t j k hn hk; exact ⟨this.1, this.2.1, zAA⟩
 ·have key : ∀ t j i k, t ≠ u -> σ.ob t j ≠ .none -> (h t j).u k -> Yj (.box (K1 u 1 lD) :: YR qs lD) i ≠ .none -> (lL i).u k -> False := by
   intro t j i k lA hn hk iE gB
   rcases im i iE with rfl | ⟨i, size, rows, rfl, hi⟩
   ·exact lA (r.inj t j u 0 k hn lS hk gB).1
   ·have h1 := hfu i size rows k hi gB
    have h2 := r.own t j k hn hk
    rcases h1.1 with h3 | h3
    ·omega
    ·exact (hm k h3).2.2 t j hn hk
  by_cases hc : t = u
  ·by_cases l7 : t' = u
   ·subst hc; subst l7
    rw [dP] at hn iE
    simp only [h', if_true] at hk gB
    refine ⟨rfl, ?_⟩
    rcases im j hn with rfl | ⟨i, size, rows, rfl, hi⟩
    ·rcases im j' iE with rfl | ⟨i', lU, lM, rfl, hG⟩
     ·rfl
     ·have h1 := hu0 k hk
      have h2 := hfu i' lU lM k hG gB
      rcases h2.1 with h3 | h3
      ·omega
      ·exact absurd h3 h1.2.1
    ·rcases im j' iE with rfl | ⟨i', lU, lM, rfl, hG⟩
     ·have h1 := hu0 k gB
      have h2 := hfu i size rows k hi hk
      rcases h2.1 with h3 | h3
      ·omega
      ·exact absurd h3 h1.2.1
     ·rw [k3 i i' k ((k4 i size rows hi).1 k hk) ((k4 i' lU lM hG).1 k gB)]
   ·subst hc
    rw [dP] at hn
    rw [gX t' j' l7] at iE
    simp only [h', if_true, if_neg l7] at hk gB
    exact (key t' j' j k l7 iE gB hn hk).elim
  ·rw [gX t j hc] at hn
   simp only [h', if_neg hc] at hk
   by_cases l7 : t' = u
   ·subst l7
    rw [dP] at iE
    simp only [h', if_true] at gB
    exact (key t j j' k hc hn hk iE gB).elim
   ·rw [gX t' j' l7] at iE
    simp only [h', if_neg l7] at gB
    exact r.inj t j t' j' k hn iE hk gB
open Go.RowKit
theorem Ad {o : Oper} {x : Value} (my : o.op = .call c) (hc : c.callee = .value (.tmp t)) (hv : a.tmps.getD t undef = .func (.func f) #[] #[x]) (hf : TL P f = true) :
  (execOp a.eval o).run P w = .ok (.enter f (c.args.toList.map a.eval ++ [x]).toArray) w := by
 unfold TL at hf
 split at hf
 ·rename_i fn hfn
  simp only [Bool.and_eq_true, bne_iff_ne, ne_eq] at hf
  obtain ⟨cd, hb⟩ := Option.isSome_iff_exists.1 hf.1
  obtain ⟨callee, args, eO⟩ := c
  simp only at hc; subst hc
  have hm : (args.toList.map a.eval ++ [x]).toArray = args.map a.eval ++ #[x] := by apply Array.toList_inj.1; simp
  have he : a.eval (.tmp t) = .func (.func f) #[] #[x] := hv
  rw [hm]
  simp [execOp, my, resolve, he, Deferred.ofValue, invoke, callFunc, hfn, hf.2, hb]
 ·cases hf
theorem Cs (r : Rel T0 B σ a w X h) {o : Oper} {row : List D} {cells : List At} (qs : List Bool) (my : o.op = .call cl) (hc : cl.callee = .value (.tmp tf)) (hx : σ.get tf = .one (.fn f u)) (ho : σ.ob u 0 = .box cells) (lH : u < σ.length)
  (lF : Qz P σ cl.args.toList cl.argTypes.toList lO) (ld : Yd P σ cl.args.toList cl.argTypes.toList = true) (hs : G9 P f lO row lD) (gT : J5 σ cells = some row) (gk : Qe σ cells) (iV : (XH cells).Nodup) (hnu : (u, 0) ∉ XH cells)
  (cG : ((σ.Zz (XH cells)).Zu u 0 .none).yS (At.isO u) = false) (hq : xT qs lD)
  (hK : ∀ a' w', Jz T0 B (match o.dst with | some d => ((σ.Zz (XH cells)).new u (σ.get u) (.box (K1 u 1 lD) :: YR qs lD)).put d .any | none => (σ.Zz (XH cells)).new u (σ.get u) (.box (K1 u 1 lD) :: YR qs lD)) a' w' -> Y8 B w w' -> K a' w') : o.wp P a w K Q := by
 have lS : σ.ob u 0 ≠ .none := zAr
 have hfn := r.get tf
 rw [hx] at hfn
 obtain ⟨b, ig, hv⟩ := hfn.2 _ ho
 have im := r.obj u 0
 rw [ho] at im
 obtain ⟨b2, cs, e, l0, hh, lC⟩ := im
 rw [ig] at l0
 have gy : b2 = b := zAl
 subst gy
 have ir := r.ub u 0 b2 lS zBz
 have lE := r.own u 0 b2 lS ir
 have fB := r.Qz true lF (fun _ => ld)
 simp only [if_true] at fB
 have cB : ∀ k, zV σ h (XH cells) k -> k < w.heap.size /\ k ≠ b2 := by
  rintro k ⟨p, hp, lA, hu⟩
  refine ⟨(r.own _ _ k lA hu).2.2, ?_⟩
  rintro rfl
  obtain ⟨e1, e2⟩ := r.inj p.1 p.2 u 0 k lA lS hu ir
  exact hnu (by rw [<- e1, <- e2]; exact hp)
 have iI := r.z8 (XH cells)
 have hT : ∀ k i, Tof T0 X k i -> k < w.heap.size /\ k ≠ b2 /\ ¬ zV σ h (XH cells) k := by
  intro k i hk
  refine ⟨r.Tlt hk, ?_, fun hg => ?_⟩
  ·rintro rfl
   rcases hk with hk | hk
   ·exact lE.1 (r.hT _ _ hk)
   ·exact lE.2.1 hk
  ·rcases hk with hk | hk
   ·exact (iI k hg).1 (r.hT _ _ hk)
   ·exact (iI k hg).2.1 hk
 unfold Oper.wp
 rw [Ad my hc hv hs.1, Oper.upon_enter]
 refine (hs.2 (Tof T0 X) (zV σ h (XH cells)) w b2 _ hT cB lE.2.2 ⟨cs, e, hh, RL r lC gT gk iV⟩ fB).mono ?_
 rintro e' w' ⟨rfl, lQ, dO, e2, fM, iK⟩
 have r1 := r.Zz (XH cells)
 have ho1 : (σ.Zz (XH cells)).ob u 0 = .box cells := by rw [St.Kn, if_neg hnu, ho]
 have R := r1.nG (w' := w') (lD := lD) (qs := qs) ho1 ig (by rw [St.KS]; exact lH) (zV σ h (XH cells)) _ lQ.size (fun k hk lA hg => lQ.block k ⟨hk, lA, hg⟩) (fun k hk => ⟨(iI k hk).1, (iI k hk).2.1, (iI k hk).2.2.2⟩) cG hq fM iK (fun k hk => ⟨hk.1.elim .inr (fun h1 => .inl h1.1), by
  rcases hk.1 with h1 | h1
  ·have := (cB k h1).1; have := lQ.size; omega
  ·exact h1.2, hk.2⟩)
 rw [St.yr] at R
 have hBk : Y8 B w w' := ⟨lQ.os, lQ.tape, lQ.output, lQ.size, fun k hk => lQ.block k ⟨r.hB k hk, fun e => lE.1 (e ▸ hk), fun hg => (iI k hg).1 hk⟩⟩
 cases hd : o.dst with
 | none =>
  rw [hd] at hK
  exact hK _ _ R hBk
 | some d =>
  rw [hd] at hK
  obtain ⟨X2, h2, R2⟩ := R
  exact hK _ _ ⟨X2, h2, R2.put d .any _ trivial⟩ hBk
theorem Az (r : Rel T0 B σ a w X h) {o : Oper} (my : o.op = .makeFunc (.func f) #[] #[x]) (hd : o.dst = some d) (hg : gOf (look P σ 0 x) = true) (hx : unc (look P σ 0 x) = .one (.bptr t 0)) {cells : List At} (ho : σ.ob t 0 = .box cells)
  (hK : ∀ a' w', Jz T0 B (σ.put d (.one (.fn f t))) a' w' -> Y8 B w w' -> K a' w') : o.wp P a w K Q := by
 have har := r.arg (P := P) 0 x hx hg
 obtain ⟨b, ig, hv⟩ := har.2 _ ho
 exact Ud (v := .one (.fn f t)) r hd ⟨.func (.func f) #[] #[a.eval x], by simp [execOp, my, Instr.makeFunc], ⟨rfl, fun lI _ => ⟨b, ig, by rw [hv]⟩⟩⟩ hK
theorem ow {cells : List At} (my : o.o.op = .makeFunc (.func f) #[] #[x]) (eT : o.o.guard = none) (hd : o.o.dst = some d) (lz : A.bar o.o = true) (hx : gOf (look P σ 0 x) = true /\ unc (look P σ 0 x) = .one (.bptr t 0)) (ho : σ.ob t 0 = .box cells)
  (h : @EI P (σ.put d (.one (.fn f t))) A l k) : @SI P σ A o l k := by
 refine ⟨_, .inr ⟨lz, ?_, fun d' lL lp => Mv (fun e => lL zBm) lp, fun hh => by simp [Vr, my] at hh, fun hh => by first | (simp [kc, my] at hh; done) | (unfold kc at hh; rw [my] at hh; split at hh <;> simp_all), fun hh _ => by first | (simp [KY, my] at hh; done) | (unfold KY at hh; rw [my] at hh; split at hh <;> simp_all)⟩, Jh h⟩
 rintro T0 B a w K Q' ⟨X, hh, r⟩ hK
 have hw : Region.wanted o.o (yielded A.ops a.tmps) = true := zBf
 rw [if_pos hw]
 exact Az r my hd hx.1 hx.2 ho hK
theorem vd {c : Code} (hf : P.funcs[f]? = some fn) (hb : fn.body = some c) (lW : TL P f = true) {row : List D} (qs : List Bool) (hq : xT qs row)
  (hw : ∀ v, @WI P (xt fn.ntmps args v (K1 args.length 1 row) (YR qs row) []) ⟨c⟩ (.fin (pr P fn args.length v lD))) : G9 P f args row lD := FZ hf hb lW qs hq (fun v => V7 (hw v))
theorem oW {p : Nat} (hf : fn.results = #[]) (h : σ[p]? = some (.fix v (.one (.bptr p 0)), .box eO :: ((σ[p]?).map (fun e => e.2.tail)).getD []) /\ J5 σ eO = some lD /\ Qe σ eO /\ (XH eO).Nodup) (he : e = .ret \/ e = .normal) : pr P fn p v lD e σ :=
 ⟨he, by rw [hf]; rfl, eO, _, h.1, h.2.1, h.2.2.1, h.2.2.2⟩
theorem HQ {row : List D} {cells : List At} (qs : List Bool) (my : o.o.op = .call cl) (hc : cl.callee = .value (.tmp tf)) (eT : o.o.guard = none) (lz : A.bar o.o = true) (hs : G9 P f lO row lD) (hx : σ.get tf = .one (.fn f u)) (ho : σ.ob u 0 = .box cells) (lH : u < σ.length)
  (lF : (XU P σ cl.args.toList cl.argTypes.toList).1) (lN : (XU P σ cl.args.toList cl.argTypes.toList).2 = some lO) (ld : Yd P σ cl.args.toList cl.argTypes.toList = true) (gT : J5 σ cells = some row) (gk : Qe σ cells) (iV : (XH cells).Nodup) (hnu : (u, 0) ∉ XH cells) (lp : Xi σ u = false)
  (cG : ((σ.Zz (XH cells)).Zu u 0 .none).yS (At.isO u) = false) (hq : xT qs lD)
  (h : @EI P (match o.o.dst with | some d => ((σ.Zz (XH cells)).new u (σ.get u) (.box (K1 u 1 lD) :: YR qs lD)).put d .any | none => (σ.Zz (XH cells)).new u (σ.get u) (.box (K1 u 1 lD) :: YR qs lD)) A l k) : @SI P σ A o l k := by
 refine ⟨_, .inr ⟨lz, ?_, fun d' lL l7 => ?_, fun hh => by simp [Vr, my] at hh, fun hh => by first | (simp [kc, my] at hh; done) | (unfold kc at hh; rw [my] at hh; split at hh <;> simp_all), fun hh _ => by first | (simp [KY, my] at hh; done) | (unfold KY at hh; rw [my] at hh; split at hh <;> simp_all)⟩, Jh h⟩
 ·rintro T0 B a w K Q' ⟨X, hh, r⟩ hK
  have hw : Region.wanted o.o (yielded A.ops a.tmps) = true := zBf
  rw [if_pos hw]
  exact Cs r qs my hc hx ho lH (qV lF lN) ld hs gT gk iV hnu cG hq hK
 ·have h1 := WH (v := σ.get u) (os := .box (K1 u 1 lD) :: YR qs lD) (fun e => by rw [e, lp] at l7; cases l7) (JR (l := XH cells) l7)
  cases hd : o.o.dst with
  | none => exact h1
  | some d => exact Mv (fun e => lL zBm) h1
attribute [simp] xt nM At.isO
open Go.RowKit
open Go.RowKit
theorem cR {own : Bool} (hs : JH P f own rows res) (h : @EI P (σ.put d (qo res)) A l k) (my : o.o.op = .call c := by exact rfl) (hc : c.callee = .value (.func f) := by exact rfl) (hg : o.o.guard = none := by exact rfl) (hd : o.o.dst = some d := by exact rfl)
  (lN : (XU P σ c.args.toList c.argTypes.toList).2 = some rows := by simp) (lF : (XU P σ c.args.toList c.argTypes.toList).1 := by simp) (ld : Yd P σ c.args.toList c.argTypes.toList = true \/ Kf own res := by simp) : @SI P σ A o l k :=
 HM my hc hg hd hs lN lF ld h
theorem cD (qs : List Bool) (hs : YV P f rows res) (h : @EI P (σ.new d (jv d res) (YR qs res.flatten)) A l k) (my : o.o.op = .call c := by exact rfl) (hc : c.callee = .value (.func f) := by exact rfl) (hg : o.o.guard = none := by exact rfl) (hd : o.o.dst = some d := by exact rfl)
  (lN : (XU P σ c.args.toList c.argTypes.toList).2 = some rows := by simp) (lF : (XU P σ c.args.toList c.argTypes.toList).1 := by simp) (hq : xT qs res.flatten := by simp) (hf : σ.fresh d = true := by simp) : @SI P σ A o l k := Dr qs my hc hg hd hs lN lF hq hf h
theorem cC {b : Bool} {x : xo} (c : Bool) (ht : VF σ -> c = true -> @WI P σ x k) (hf : VF σ -> c = false -> @WI P σ y k) (hc : c = b := by simp) : @CI P b σ x y k := NL hc ht hf
@[simp] abbrev eI (t : Nat) (n : Int) : Nat × V × List Ob := (t, .one (.d (.int .i64 n)), [])
@[simp] abbrev eB (t : Nat) (b : Bool) : Nat × V × List Ob := (t, .one (.d (.bool b)), [])
@[simp] abbrev eL {α : Type} (t s : Nat) (l : List α) (f : α -> List D) : Nat × V × List Ob := (t, .one (.d (.sl s (l.map f))), [])
@[simp] abbrev eP (t u c : Nat) : Nat × V × List Ob := (t, .one (.bptr u c), [])
@[simp] abbrev eG (t : Nat) (xs : List At) : Nat × V × List Ob := (t, .agg xs, [])
@[simp] abbrev eX (t : Nat) (xs : List At) : Nat × V × List Ob := (t, .one (.bptr t 0), [.box xs])
open Go.RowKit
variable {br : Oper -> Bool}
structure Me {α : Type} (x y : α) : Prop where
 h : x = y
structure Bx (p : Prop) : Prop where
 h : p
theorem me {α : Type} {x y : α} (h : x = y) : Me x y := ⟨h⟩
theorem ms {α β : Type} {x y y' : α} {l r : β} (f : Me x y) (e : Me l r) (h : l = r -> y = y' := by intro e; simp only [e]; exact rfl) : Me x y' := ⟨f.h.trans (h e.h)⟩
theorem an (h : p) (k : q) : p /\ q := ⟨h, k⟩
theorem ix {α : Type} {v : Nat} {l : List α} (h : decide ((v : Int) < (l.length : Int)) = true) : v < l.length := zBd
theorem ml {α : Type} (l : List α) (m : q) (h : q -> l.length <= 9223372036854775807 := by intro m; simpa using m) : l.length <= 9223372036854775807 := h m
theorem wr (n : Nat) (h : (n : Int) + 1 <= 9223372036854775807 := by first | omega | (simp only [decide_eq_true_eq, decide_eq_false_iff_not, beq_iff_eq, beq_eq_false_iff_ne, bne_iff_ne, ne_eq, Bool.or_eq_false_iff, Bool.or_eq_true, Bool.and_eq_true, Bool.not_eq_true', Bool.not_eq_false'] at *; omega)) : IntKind.i64.wrap ((n : Int) + 1) = (n : Int) + 1 := YN zAA zAA
theorem so {own : Bool} {args res : List (List D)} (hf : P.funcs[f]? = some fn) (hn : fn.ntmps = n) (h : p) {c : Code} (hb : fn.body = some c := by exact rfl) (lW : TL P f = true := by kernel_rfl)
  (kk : Bx p -> @WI P (kJ n args) ⟨c⟩ (.fin (Cy P fn own res)) := by exact zB1) : JH P f own args res := sE hf hb lW (by rw [hn]; exact kk ⟨h⟩)
theorem soD {args res : List (List D)} (hf : P.funcs[f]? = some fn) (hn : fn.ntmps = n) (h : p) {c : Code} (hb : fn.body = some c := by exact rfl) (lW : TL P f = true := by kernel_rfl)
  (kk : Bx p -> @WI P (kJ n args) ⟨c⟩ (.fin (vx P fn res)) := by exact zB1) : YV P f args res := vy hf hb lW (by rw [hn]; exact kk ⟨h⟩)
theorem cF {α : Type} {u y z : α} {b c : Bool} {xc yc : xo} (f : Me u (bif c then y else z)) (ht : VF σ -> c = true -> Me u y -> p) (hf : VF σ -> c = false -> Me u z -> q) (hc : c = b := by simp) (kt : Bx p -> @WI P σ xc k := by exact zB1) (kf : Bx q -> @WI P σ yc k := by exact zB1) : @CI P b σ xc yc k :=
 NL hc (fun s h => kt ⟨(ht s h ⟨f.h.trans zBI⟩)⟩) (fun s h => kf ⟨(hf s h ⟨f.h.trans zBI⟩)⟩)
theorem cFt {α : Type} {u y z : α} {b c : Bool} {xc : xo} (f : Me u (bif c then y else z)) (ht : VF σ -> c = true -> Me u y -> p) (hf : VF σ -> c = false -> Me u z -> @WI P σ yc k) (hc : c = b := by simp) (kt : Bx p -> @WI P σ xc k := by exact zB1) : @CI P b σ xc yc k :=
 NL hc (fun s h => kt ⟨(ht s h ⟨f.h.trans zBI⟩)⟩) (fun s h => (hf s h ⟨f.h.trans zBI⟩))
theorem cFf {α : Type} {u y z : α} {b c : Bool} {yc : xo} (f : Me u (bif c then y else z)) (ht : VF σ -> c = true -> Me u y -> @WI P σ xc k) (hf : VF σ -> c = false -> Me u z -> q) (hc : c = b := by simp) (kf : Bx q -> @WI P σ yc k := by exact zB1) : @CI P b σ xc yc k :=
 NL hc (fun s h => (ht s h ⟨f.h.trans zBI⟩)) (fun s h => kf ⟨(hf s h ⟨f.h.trans zBI⟩)⟩)
theorem cFo {α : Type} {u y z : α} {b c : Bool} (f : Me u (bif c then y else z)) (ht : VF σ -> c = true -> Me u y -> @WI P σ xc k) (hf : VF σ -> c = false -> Me u z -> @WI P σ yc k) (hc : c = b := by simp) : @CI P b σ xc yc k :=
 NL hc (fun s h => (ht s h ⟨f.h.trans zBI⟩)) (fun s h => (hf s h ⟨f.h.trans zBI⟩))
theorem cK {α : Type} {u y z : α} {b c : Bool} {xc yc : xo} (f : Me u (bif c then y else z)) (ht : VF σ -> c = true -> Me u y -> p) (hf : VF σ -> c = false -> Me u z -> q) (hc : c = b := by first | (simp [G]; done) | grind) (kt : Bx p -> @WI P σ xc k := by exact zB4) (kf : Bx q -> @WI P σ yc k := by exact zB4) : @CI P b σ xc yc k :=
 NL hc (fun s h => kt ⟨(ht s h ⟨f.h.trans zBI⟩)⟩) (fun s h => kf ⟨(hf s h ⟨f.h.trans zBI⟩)⟩)
theorem cKt {α : Type} {u y z : α} {b c : Bool} {xc : xo} (f : Me u (bif c then y else z)) (ht : VF σ -> c = true -> Me u y -> p) (hf : VF σ -> c = false -> Me u z -> @WI P σ yc k) (hc : c = b := by first | (simp [G]; done) | grind) (kt : Bx p -> @WI P σ xc k := by exact zB4) : @CI P b σ xc yc k :=
 NL hc (fun s h => kt ⟨(ht s h ⟨f.h.trans zBI⟩)⟩) (fun s h => (hf s h ⟨f.h.trans zBI⟩))
theorem cKo {α : Type} {u y z : α} {b c : Bool} (f : Me u (bif c then y else z)) (ht : VF σ -> c = true -> Me u y -> @WI P σ xc k) (hf : VF σ -> c = false -> Me u z -> @WI P σ yc k) (hc : c = b := by first | (simp [G]; done) | grind) : @CI P b σ xc yc k :=
 NL hc (fun s h => (ht s h ⟨f.h.trans zBI⟩)) (fun s h => (hf s h ⟨f.h.trans zBI⟩))
theorem cY {c b : Bool} {xc yc : xo} (h : c = true) (kk : p) (hc : c = b := by simp) (kt : Bx p -> @WI P σ xc k := by exact zB1) : @CI P b σ xc yc k := NL hc (fun _ g => kt ⟨kk⟩) (fun _ g => absurd (h.symm.trans g) zAE)
theorem cRg {A : Kj} {l : zP} {d : Nat} {own : Bool} (hs : JH P f own rows res) (h : p) (my : o.o.op = .call c := by exact rfl) (hc : c.callee = .value (.func f) := by exact rfl) (hg : o.o.guard = none := by exact rfl) (hd : o.o.dst = some d := by exact rfl) (lN : (XU P σ c.args.toList c.argTypes.toList).2 = some rows := by simp) (lF : (XU P σ c.args.toList c.argTypes.toList).1 := by simp) (ld : Yd P σ c.args.toList c.argTypes.toList = true \/ Kf own res := by simp) (kk : Bx p -> @EI P (σ.put d (qo res)) A l k := by exact zB4) : @SI P σ A o l k := HM my hc hg hd hs lN lF ld (kk ⟨h⟩)
theorem cRs {A : Kj} {l : zP} {d : Nat} {own : Bool} (hs : JH P f own rows res) (h : p) (my : o.o.op = .call c := by exact rfl) (hc : c.callee = .value (.func f) := by exact rfl) (hg : o.o.guard = none := by exact rfl) (hd : o.o.dst = some d := by exact rfl) (lN : (XU P σ c.args.toList c.argTypes.toList).2 = some rows := by simp) (lF : (XU P σ c.args.toList c.argTypes.toList).1 := by simp) (ld : Yd P σ c.args.toList c.argTypes.toList = true \/ Kf own res := by simp) (kk : Bx p -> @EI P (σ.put d (qo res)) A l k := by exact zB1) : @SI P σ A o l k := HM my hc hg hd hs lN lF ld (kk ⟨h⟩)
theorem cRf {A : Kj} {l : zP} {d : Nat} {own : Bool} (F : q) (hs : JH P f own rows res) (h : p) (my : o.o.op = .call c := by exact rfl) (hc : c.callee = .value (.func f) := by exact rfl) (hg : o.o.guard = none := by exact rfl) (hd : o.o.dst = some d := by exact rfl) (lN : (XU P σ c.args.toList c.argTypes.toList).2 = some rows := by simp) (lF : (XU P σ c.args.toList c.argTypes.toList).1 := by simp) (ld : Yd P σ c.args.toList c.argTypes.toList = true \/ Kf own res := by simp) (kk : q -> Bx p -> @EI P (σ.put d (qo res)) A l k := by (intro F z; simp [F, Go.Vm.ZE]; (repeat (with_reducible refine Go.Mo.sd ?_)); exact z.h)) : @SI P σ A o l k := HM my hc hg hd hs lN lF ld (kk F ⟨h⟩)
theorem cOs {A : Kj} {l : zP} {d : Nat} (hs : JH P f true rows res) (h : p) (my : o.o.op = .call c := by exact rfl) (hc : c.callee = .value (.func f) := by exact rfl) (hg : o.o.guard = none := by exact rfl) (hd : o.o.dst = some d := by exact rfl) (lN : (XU P σ c.args.toList c.argTypes.toList).2 = some rows := by simp) (lF : (XU P σ c.args.toList c.argTypes.toList).1 := by simp) (ld : Yd P σ c.args.toList c.argTypes.toList = true \/ Kf true res := by simp) (hf : σ.fresh d = true := by simp) (kk : Bx p -> @EI P (σ.new d (jv d res) (xm res.flatten)) A l k := by exact zB1) : @SI P σ A o l k := sF my hc hg hd hs lN lF ld hf (kk ⟨h⟩)
theorem cDg {A : Kj} {l : zP} {d : Nat} (qs : List Bool) (hs : YV P f rows res) (h : p) (my : o.o.op = .call c := by exact rfl) (hc : c.callee = .value (.func f) := by exact rfl) (hg : o.o.guard = none := by exact rfl) (hd : o.o.dst = some d := by exact rfl) (lN : (XU P σ c.args.toList c.argTypes.toList).2 = some rows := by simp) (lF : (XU P σ c.args.toList c.argTypes.toList).1 := by simp) (hq : xT qs res.flatten := by simp [-Bool.exists_bool, -Bool.forall_bool]) (hf : σ.fresh d = true := by simp) (kk : Bx p -> @EI P (σ.new d (jv d res) (YR qs res.flatten)) A l k := by exact zB4) : @SI P σ A o l k := Dr qs my hc hg hd hs lN lF hq hf (kk ⟨h⟩)
theorem cDs {A : Kj} {l : zP} {d : Nat} (qs : List Bool) (hs : YV P f rows res) (h : p) (my : o.o.op = .call c := by exact rfl) (hc : c.callee = .value (.func f) := by exact rfl) (hg : o.o.guard = none := by exact rfl) (hd : o.o.dst = some d := by exact rfl) (lN : (XU P σ c.args.toList c.argTypes.toList).2 = some rows := by simp) (lF : (XU P σ c.args.toList c.argTypes.toList).1 := by simp) (hq : xT qs res.flatten := by simp [-Bool.exists_bool, -Bool.forall_bool]) (hf : σ.fresh d = true := by simp) (kk : Bx p -> @EI P (σ.new d (jv d res) (YR qs res.flatten)) A l k := by exact zB1) : @SI P σ A o l k := Dr qs my hc hg hd hs lN lF hq hf (kk ⟨h⟩)
theorem cDf {A : Kj} {l : zP} {d : Nat} (F : q) (qs : List Bool) (hs : YV P f rows res) (h : p) (my : o.o.op = .call c := by exact rfl) (hc : c.callee = .value (.func f) := by exact rfl) (hg : o.o.guard = none := by exact rfl) (hd : o.o.dst = some d := by exact rfl) (lN : (XU P σ c.args.toList c.argTypes.toList).2 = some rows := by simp) (lF : (XU P σ c.args.toList c.argTypes.toList).1 := by simp) (hq : xT qs res.flatten := by simp [-Bool.exists_bool, -Bool.forall_bool]) (hf : σ.fresh d = true := by simp) (kk : q -> Bx p -> @EI P (σ.new d (jv d res) (YR qs res.flatten)) A l k := by (intro F z; simp [F, Go.Vm.ZE]; (repeat (with_reducible refine Go.Mo.sd ?_)); exact z.h)) : @SI P σ A o l k := Dr qs my hc hg hd hs lN lF hq hf (kk F ⟨h⟩)
theorem cGo {j dj : Nat} {want own : Bool} {res : List D} (hs : g = true -> JH P f own rows [res]) (h : @EI P (σ.put d (.cnd g (qo [res]))) A l k) (my : o.o.op = .call c := by exact rfl) (hc : c.callee = .value (.func f) := by exact rfl) (hg : o.o.guard = some (j, want) := by exact rfl) (hd : o.o.dst = some d := by exact rfl) (gE : (A.ops[j]?).bind (·.dst) = some dj := by exact rfl) (gN : jB want (σ.get dj) = some g := by exact rfl) (lN : (XU P σ c.args.toList c.argTypes.toList).2 = some rows := by first | (simp; done) | (simp [G]; done) | (simp [G]; omega) | (simp_all; done)) (lH : dj < σ.length := by first | (simp; done) | (simp [G]; done) | (simp [G]; omega) | (simp_all; done)) (lF : g = true -> (XU P σ c.args.toList c.argTypes.toList).1 := by first | (simp; done) | (simp [G]; done) | (simp [G]; omega) | (simp_all; done)) (ld : Yd P σ c.args.toList c.argTypes.toList = true \/ Kf own [res] := by first | (simp; done) | (simp [G]; done) | (simp [G]; omega) | (simp_all; done)) : @SI P σ A o l k := DT my hc hg hd gE gN hs lN lH lF ld h
theorem cGg {A : Kj} {l : zP} {d : Nat} {j dj : Nat} {want own : Bool} {res : List D} (hs : g = true -> JH P f own rows [res]) (h : p) (my : o.o.op = .call c := by exact rfl) (hc : c.callee = .value (.func f) := by exact rfl) (hg : o.o.guard = some (j, want) := by exact rfl) (hd : o.o.dst = some d := by exact rfl) (gE : (A.ops[j]?).bind (·.dst) = some dj := by exact rfl) (gN : jB want (σ.get dj) = some g := by exact rfl) (lN : (XU P σ c.args.toList c.argTypes.toList).2 = some rows := by first | (simp; done) | (simp [G]; done) | (simp [G]; omega) | (simp_all; done)) (lH : dj < σ.length := by first | (simp; done) | (simp [G]; done) | (simp [G]; omega) | (simp_all; done)) (lF : g = true -> (XU P σ c.args.toList c.argTypes.toList).1 := by first | (simp; done) | (simp [G]; done) | (simp [G]; omega) | (simp_all; done)) (ld : Yd P σ c.args.toList c.argTypes.toList = true \/ Kf own [res] := by first | (simp; done) | (simp [G]; done) | (simp [G]; omega) | (simp_all; done)) (kk : Bx p -> @EI P (σ.put d (.cnd g (qo [res]))) A l k := by exact zB4) : @SI P σ A o l k := DT my hc hg hd gE gN hs lN lH lF ld (kk ⟨h⟩)
theorem cGs {A : Kj} {l : zP} {d : Nat} {j dj : Nat} {want own : Bool} {res : List D} (hs : g = true -> JH P f own rows [res]) (h : p) (my : o.o.op = .call c := by exact rfl) (hc : c.callee = .value (.func f) := by exact rfl) (hg : o.o.guard = some (j, want) := by exact rfl) (hd : o.o.dst = some d := by exact rfl) (gE : (A.ops[j]?).bind (·.dst) = some dj := by exact rfl) (gN : jB want (σ.get dj) = some g := by exact rfl) (lN : (XU P σ c.args.toList c.argTypes.toList).2 = some rows := by simp) (lH : dj < σ.length := by simp) (lF : g = true -> (XU P σ c.args.toList c.argTypes.toList).1 := by simp) (ld : Yd P σ c.args.toList c.argTypes.toList = true \/ Kf own [res] := by simp) (kk : Bx p -> @EI P (σ.put d (.cnd g (qo [res]))) A l k := by exact zB1) : @SI P σ A o l k := DT my hc hg hd gE gN hs lN lH lF ld (kk ⟨h⟩)
theorem cBo {x0 : Operand} {xs : List Operand} {t0 : TypeId} {ts : List TypeId} {row : List D} (qs : List Bool) (hs : xl P f dp row lO lD res) (h : @EI P (BM dp (σ.Zu t 0 (.box (lD.map .d))) d res qs) A l k) (my : o.o.op = .call cl := by exact rfl) (hc : cl.callee = .value (.func f) := by exact rfl) (eT : o.o.guard = none := by exact rfl) (hd : o.o.dst = some d := by exact rfl) (lz : A.bar o.o = true := by exact rfl) (ha : cl.args.toList = x0 :: xs := by exact rfl) (fI : cl.argTypes.toList = t0 :: ts := by exact rfl) (hx : gOf (look P σ t0 x0) = true /\ unc (look P σ t0 x0) = .one (.bptr t 0) := by exact ⟨rfl, rfl⟩) (ho : σ.ob t 0 = .box (row.map .d) := by simp) (lF : (XU P σ xs ts).1 := by simp) (lN : (XU P σ xs ts).2 = some lO := by simp) (ld : Yd P σ xs ts = true := by simp) (iJ : dp = true -> (σ.Zu t 0 (.box (lD.map .d))).fresh d = true /\ xT qs res.flatten := by simp [-Bool.exists_bool, -Bool.forall_bool]) : @SI P σ A o l k := pX qs my hc eT hd lz ha fI hs hx ho lF lN ld iJ h
theorem cBs {A : Kj} {l : zP} {d : Nat} {x0 : Operand} {xs : List Operand} {t0 : TypeId} {ts : List TypeId} {row : List D} {t : Nat} (qs : List Bool) (hs : xl P f dp row lO lD res) (h : p) (my : o.o.op = .call cl := by exact rfl) (hc : cl.callee = .value (.func f) := by exact rfl) (eT : o.o.guard = none := by exact rfl) (hd : o.o.dst = some d := by exact rfl) (lz : A.bar o.o = true := by exact rfl) (ha : cl.args.toList = x0 :: xs := by exact rfl) (fI : cl.argTypes.toList = t0 :: ts := by exact rfl) (hx : gOf (look P σ t0 x0) = true /\ unc (look P σ t0 x0) = .one (.bptr t 0) := by exact ⟨rfl, rfl⟩) (ho : σ.ob t 0 = .box (row.map .d) := by simp) (lF : (XU P σ xs ts).1 := by simp) (lN : (XU P σ xs ts).2 = some lO := by simp) (ld : Yd P σ xs ts = true := by simp) (iJ : dp = true -> (σ.Zu t 0 (.box (lD.map .d))).fresh d = true /\ xT qs res.flatten := by simp [-Bool.exists_bool, -Bool.forall_bool]) (kk : Bx p -> @EI P (BM dp (σ.Zu t 0 (.box (lD.map .d))) d res qs) A l k := by exact zB1) : @SI P σ A o l k := pX qs my hc eT hd lz ha fI hs hx ho lF lN ld iJ (kk ⟨h⟩)
theorem cNs {A : Kj} {l : zP} {d : Nat} (hs : Mx P f lO lD) (h : p) (my : o.o.op = .call cl := by exact rfl) (hc : cl.callee = .value (.func f) := by exact rfl) (eT : o.o.guard = none := by exact rfl) (hd : o.o.dst = some d := by exact rfl) (lz : A.bar o.o = true := by exact rfl) (lF : (XU P σ cl.args.toList cl.argTypes.toList).1 := by simp) (lN : (XU P σ cl.args.toList cl.argTypes.toList).2 = some lO := by simp) (ld : Yd P σ cl.args.toList cl.argTypes.toList = true := by simp) (iJ : σ.fresh d = true := by simp) (eA : KY P o.o = false := by exact rfl) (kk : Bx p -> @EI P (σ.new d (.one (.bptr d 0)) [.box (lD.map .d)]) A l k := by exact zB1) : @SI P σ A o l k := nD my hc eT hd lz hs lF lN ld iJ (kk ⟨h⟩) eA
theorem dIo {id : Nat} {l : List Oper} {br : Oper -> Bool} (hm : P.follows .mixedOrders = true) (h : @EI P σ ⟨⟨l⟩, fun _ => false⟩ ⟨l⟩ k) (hdr : MF P ⟨l⟩ (fun i => i) (fun _ => false) = true := by kernel_rfl) (lp : xR ⟨l⟩ (fun i => i) σ = true := by kernel_rfl) : @DI P id σ ⟨⟨l⟩, br⟩ k := ux hm hdr lp h
theorem dIg {id : Nat} {l : List Oper} {br : Oper -> Bool} (hm : P.follows .mixedOrders = true) (h : p) (hdr : MF P ⟨l⟩ (fun i => i) (fun _ => false) = true := by kernel_rfl) (lp : xR ⟨l⟩ (fun i => i) σ = true := by kernel_rfl) (kk : Bx p -> @EI P σ ⟨⟨l⟩, fun _ => false⟩ ⟨l⟩ k := by exact zB4) : @DI P id σ ⟨⟨l⟩, br⟩ k := ux hm hdr lp (kk ⟨h⟩)
theorem dIs {id : Nat} {l : List Oper} {br : Oper -> Bool} (hm : P.follows .mixedOrders = true) (h : p) (hdr : MF P ⟨l⟩ (fun i => i) (fun _ => false) = true := by kernel_rfl) (lp : xR ⟨l⟩ (fun i => i) σ = true := by kernel_rfl) (kk : Bx p -> @EI P σ ⟨⟨l⟩, fun _ => false⟩ ⟨l⟩ k := by (intro z; (try simp); (repeat (with_reducible refine Go.Mo.sd ?_)); exact z.h)) : @DI P id σ ⟨⟨l⟩, br⟩ k := ux hm hdr lp (kk ⟨h⟩)
theorem eIs {A : Kj} {l : zP} {d : Nat}  (h : p) (hp : DR o.o = true := by exact rfl) (hg : o.o.guard = none := by exact rfl) (hd : o.o.dst = some d := by exact rfl) (kk : Bx p -> (evS P σ o.o d).1 /\ @EI P (evS P σ o.o d).2 A l k := by exact zB1) : @SI P σ A o l k := evI hp hg hd (kk ⟨h⟩)
theorem sGo {dj : Nat} {g : Bool}  (h : @EI P (σ.put d (.cnd false .any)) A l k) (hg : o.o.guard = some (j, want) := by exact rfl) (hd : o.o.dst = some d := by exact rfl) (gE : (A.ops[j]?).bind (·.dst) = some dj := by exact rfl) (gN : jB want (σ.get dj) = some g := by exact rfl) (lH : dj < σ.length := by simp) (hgf : g = false := by simp [G]) : @SI P σ A o l k := pc hg hd gE gN lH hgf h
theorem sGg {A : Kj} {l : zP} {dj d : Nat} {g : Bool}  (h : p) (hg : o.o.guard = some (j, want) := by exact rfl) (hd : o.o.dst = some d := by exact rfl) (gE : (A.ops[j]?).bind (·.dst) = some dj := by exact rfl) (gN : jB want (σ.get dj) = some g := by exact rfl) (lH : dj < σ.length := by simp) (hgf : g = false := by simp [G]) (kk : Bx p -> @EI P (σ.put d (.cnd false .any)) A l k := by exact zB4) : @SI P σ A o l k := pc hg hd gE gN lH hgf (kk ⟨h⟩)
theorem gIf {j dj : Nat} {want g : Bool} (ht : r1 -> ((evV P σ o.o.op o.o.type).1 /\ gOf (evV P σ o.o.op o.o.type).2 = true /\ (unc (evV P σ o.o.op o.o.type).2).flat = true) /\ @EI P (σ.put d (.cnd true (unc (evV P σ o.o.op o.o.type).2))) A l k) (hf : r2 -> q) (my : Ml o.o.op = false := by exact rfl) (hg : o.o.guard = some (j, want) := by exact rfl) (hd : o.o.dst = some d := by exact rfl) (gE : (A.ops[j]?).bind (·.dst) = some dj := by exact rfl) (gN : jB want (σ.get dj) = some g := by exact rfl) (lH : dj < σ.length := by simp) (k1 : g = true -> r1 := by exact zB3) (k2 : g = false -> r2 := by exact zB3) (kf : r2 -> Bx q -> @EI P (σ.put d (.cnd false .any)) A l k := by (intro G z; simp [G, Go.Vm.ZE]; (repeat (with_reducible refine Go.Mo.sdg ?_)); exact z.h)) : @SI P σ A o l k := GX my hg hd gE gN lH (fun h => ht (k1 h)) (fun h => (fun G => kf G ⟨hf G⟩) (k2 h))
theorem gIo {j dj : Nat} {want g : Bool} (ht : r1 -> ((evV P σ o.o.op o.o.type).1 /\ gOf (evV P σ o.o.op o.o.type).2 = true /\ (unc (evV P σ o.o.op o.o.type).2).flat = true) /\ @EI P (σ.put d (.cnd true (unc (evV P σ o.o.op o.o.type).2))) A l k) (hf : r2 -> @EI P (σ.put d (.cnd false .any)) A l k) (my : Ml o.o.op = false := by exact rfl) (hg : o.o.guard = some (j, want) := by exact rfl) (hd : o.o.dst = some d := by exact rfl) (gE : (A.ops[j]?).bind (·.dst) = some dj := by exact rfl) (gN : jB want (σ.get dj) = some g := by exact rfl) (lH : dj < σ.length := by simp) (k1 : g = true -> r1 := by exact zB3) (k2 : g = false -> r2 := by exact zB3) : @SI P σ A o l k := GX my hg hd gE gN lH (fun h => ht (k1 h)) (fun h => hf (k2 h))
theorem gJf {j dj : Nat} {want g : Bool} (G : s) (ht : s /\ r1 -> ((evV P σ o.o.op o.o.type).1 /\ gOf (evV P σ o.o.op o.o.type).2 = true /\ (unc (evV P σ o.o.op o.o.type).2).flat = true) /\ @EI P (σ.put d (.cnd true (unc (evV P σ o.o.op o.o.type).2))) A l k) (hf : s /\ r2 -> q) (my : Ml o.o.op = false := by exact rfl) (hg : o.o.guard = some (j, want) := by exact rfl) (hd : o.o.dst = some d := by exact rfl) (gE : (A.ops[j]?).bind (·.dst) = some dj := by exact rfl) (gN : jB want (σ.get dj) = some g := by exact rfl) (lH : dj < σ.length := by simp) (k1 : g = true -> r1 := by exact zB3) (k2 : g = false -> r2 := by exact zB3) (kf : s /\ r2 -> Bx q -> @EI P (σ.put d (.cnd false .any)) A l k := by (intro G z; simp [G, Go.Vm.ZE]; (repeat (with_reducible refine Go.Mo.sdg ?_)); exact z.h)) : @SI P σ A o l k := GX my hg hd gE gN lH (fun h => ht ⟨G, k1 h⟩) (fun h => (fun G => kf G ⟨hf G⟩) ⟨G, k2 h⟩)
theorem gJo {j dj : Nat} {want g : Bool} (G : s) (ht : s /\ r1 -> ((evV P σ o.o.op o.o.type).1 /\ gOf (evV P σ o.o.op o.o.type).2 = true /\ (unc (evV P σ o.o.op o.o.type).2).flat = true) /\ @EI P (σ.put d (.cnd true (unc (evV P σ o.o.op o.o.type).2))) A l k) (hf : s /\ r2 -> @EI P (σ.put d (.cnd false .any)) A l k) (my : Ml o.o.op = false := by exact rfl) (hg : o.o.guard = some (j, want) := by exact rfl) (hd : o.o.dst = some d := by exact rfl) (gE : (A.ops[j]?).bind (·.dst) = some dj := by exact rfl) (gN : jB want (σ.get dj) = some g := by exact rfl) (lH : dj < σ.length := by simp) (k1 : g = true -> r1 := by exact zB3) (k2 : g = false -> r2 := by exact zB3) : @SI P σ A o l k := GX my hg hd gE gN lH (fun h => ht ⟨G, k1 h⟩) (fun h => hf ⟨G, k2 h⟩)
theorem gK {j dj : Nat} {want g : Bool} (ht : r1 -> ((evV P σ o.o.op o.o.type).1 /\ gOf (evV P σ o.o.op o.o.type).2 = true /\ (unc (evV P σ o.o.op o.o.type).2).flat = true) /\ @EI P (σ.put d (.cnd true (unc (evV P σ o.o.op o.o.type).2))) A l k) (my : Ml o.o.op = false := by exact rfl) (hg : o.o.guard = some (j, want) := by exact rfl) (hd : o.o.dst = some d := by exact rfl) (gE : (A.ops[j]?).bind (·.dst) = some dj := by exact rfl) (gN : jB want (σ.get dj) = some g := by exact rfl) (lH : dj < σ.length := by simp) (k1 : g = true -> r1 := by exact zB3) (k2 : g = false -> False := by first | (intro g0; simp at g0; done) | (intro g0; simp [G] at g0; done)) : @SI P σ A o l k := GX my hg hd gE gN lH (fun h => ht (k1 h)) (fun h => (k2 h).elim)
theorem rt {α : Type} {x y : α} {res : List (List D)} (rv : List ResultVar) (f : Me x y) (hf : fn.results = rv.toArray := by exact rfl) (h : x = y -> (KC P σ rv).1 /\ km σ (KC P σ rv).2 = some res := by (intro f; simp [f])) : Cy P fn false res .ret σ := pb hf (h f.h)
theorem rtg {α : Type} {x y : α} {res : List (List D)} (rv : List ResultVar) (f : Me x y) (hf : fn.results = rv.toArray := by exact rfl) (h : x = y -> (KC P σ rv).1 /\ km σ (KC P σ rv).2 = some res := by (intro f; simp [f, G])) : Cy P fn false res .ret σ := pb hf (h f.h)
theorem rtO {α : Type} {x y : α} {res : List (List D)} (rv : List ResultVar) (f : Me x y) (hf : fn.results = rv.toArray := by exact rfl) (h : x = y -> (KC P σ rv).1 /\ Ui σ (KC P σ rv).2 = some res /\ (XH (KC P σ rv).2.flatten).Nodup := by (intro f; simp [f])) : Cy P fn true res .ret σ := pq hf (h f.h)
theorem rtD {α : Type} {x y : α} {res : List (List D)} (rv : List ResultVar) (f : Me x y) (hf : fn.results = rv.toArray := by exact rfl) (h : x = y -> (KC P σ rv).1 /\ Ku σ (KC P σ rv).2 = some res /\ KV σ (KC P σ rv).2 /\ (XH (KC P σ rv).2.flatten).Nodup := by (intro f; simp [f, -Bool.exists_bool, -Bool.forall_bool])) : vx P fn res .ret σ := ID hf (h f.h)
theorem yJ {α : Type} {x y : α} {res : List (List D)} (rv : List ResultVar) (f : Me x y) (hf : fn.results = rv.toArray := by exact rfl) (h : x = y -> (KC P σ rv).1 /\ Ku σ (KC P σ rv).2 = some res /\ KV σ (KC P σ rv).2 /\ (XH (KC P σ rv).2.flatten).Nodup := by (intro f; simp [f, G, -Bool.exists_bool, -Bool.forall_bool])) : vx P fn res .ret σ := ID hf (h f.h)
class NxI where
 p : St -> Prop
def Nx (σ : St) [n : NxI] : Prop := n.p σ
theorem Oh {c : xo} {n n' : St -> Prop} (hn : ∀ σ', n σ' -> n' σ') (h : @WI P σ c (.nxt n k)) : AWP P c.c (Fr.run P (.nxt n' k)) σ :=
 C5 (fun e σ' hq => by cases e <;> first | exact hn _ hq | exact hq) (V7 h)
abbrev Q1 {R : Type} {A0 : Type} (L : Nat -> A0 -> R) (S : A0 -> St) (I : Nat -> A0 -> Prop) (t : R) (b : Nat) : NxI := ⟨fun τ => ∃ a0, Me t (L b a0) /\ (1 <= b /\ I b a0) /\ Wk τ (S a0)⟩
theorem nx1 {R : Type} {A0 : Type} {L : Nat -> A0 -> R} {S : A0 -> St} {I : Nat -> A0 -> Prop} {t : R} {a0 : A0} (e : Me t (L b a0)) (hI : 1 <= b /\ I b a0 := by exact zB2) (hw : Wk σ (S a0) := by exact Kz zAF) : @Nx σ (Q1 L S I t b) := ⟨a0, e, hI, hw⟩
theorem ny1 {R : Type} {A0 : Type} {L : Nat -> A0 -> R} {S : A0 -> St} {I : Nat -> A0 -> Prop} {t : R} {a0 : A0} (F : q) (e : Me t (L b a0)) (hI : 1 <= b /\ I b a0 := by exact zB2) (kw : q -> Wk σ (S a0) := by exact zB5) : @Nx σ (Q1 L S I t b) := ⟨a0, e, hI, kw F⟩
theorem lp1 {c : xo} {R : Type} {A0 : Type} {L B : Nat -> A0 -> R} (hL : ∀ (a0 : A0) (n : Nat), L (Nat.succ n) a0 = B n a0) (S : A0 -> St) (I : Nat -> A0 -> Prop) (n0 : Nat) (b0 : A0) {p : Nat -> A0 -> Prop}
  (round : ∀ n (a0 : A0), Me (L n0 b0) (B n a0) -> 1 <= n + 1 /\ I (n + 1) a0 -> p n a0) (hI : 1 <= n0 /\ I n0 b0 := by first | omega | (dsimp only; omega) | simp) (h0 : Wk σ (S b0) := by exact Kz zAF) (kk : ∀ n (a0 : A0), Bx (p n a0) -> @WI P (S a0) c (.nxt (fun σ' => @Nx σ' (Q1 L S I (L n0 b0) n)) k) := by (intro n_ a0_ z; simp; (repeat (with_reducible refine Go.Mo.sd ?_)); exact z.h)) : @RT P σ c k := by
 refine Vs (ι := { s : Nat × A0 // Me (L n0 b0) (L s.1 s.2) /\ (1 <= s.1 /\ I s.1 s.2) }) (fun s => S s.1.2) (fun s => s.1.1) ⟨(n0, b0), ⟨rfl⟩, hI⟩ h0 ?_
 rintro ⟨⟨n1, a0⟩, e, j⟩
 obtain ⟨n, rfl⟩ : ∃ q, n1 = q + 1 := ⟨n1 - 1, by have := j.1; (try dsimp only at this); omega⟩
 refine Oh (fun σ' hn => ?_) (kk n a0 ⟨round n a0 ⟨by have := e.h; (try dsimp only at this); rw [this, hL]⟩ j⟩)
 obtain ⟨c0, e2, j2, w2⟩ := hn
 exact ⟨⟨(n, c0), e2, j2⟩, Nat.lt_succ_self n, w2⟩
abbrev Q2 {R : Type} {A0 A1 : Type} (L : Nat -> A0 -> A1 -> R) (S : A0 -> A1 -> St) (I : Nat -> A0 -> A1 -> Prop) (t : R) (b : Nat) : NxI := ⟨fun τ => ∃ a0 a1, Me t (L b a0 a1) /\ (1 <= b /\ I b a0 a1) /\ Wk τ (S a0 a1)⟩
theorem nx2 {R : Type} {A0 A1 : Type} {L : Nat -> A0 -> A1 -> R} {S : A0 -> A1 -> St} {I : Nat -> A0 -> A1 -> Prop} {t : R} {a0 : A0} {a1 : A1} (e : Me t (L b a0 a1)) (hI : 1 <= b /\ I b a0 a1 := by exact zB2) (hw : Wk σ (S a0 a1) := by exact Kz zAF) : @Nx σ (Q2 L S I t b) := ⟨a0, a1, e, hI, hw⟩
theorem ny2 {R : Type} {A0 A1 : Type} {L : Nat -> A0 -> A1 -> R} {S : A0 -> A1 -> St} {I : Nat -> A0 -> A1 -> Prop} {t : R} {a0 : A0} {a1 : A1} (F : q) (e : Me t (L b a0 a1)) (hI : 1 <= b /\ I b a0 a1 := by exact zB2) (kw : q -> Wk σ (S a0 a1) := by exact zB5) : @Nx σ (Q2 L S I t b) := ⟨a0, a1, e, hI, kw F⟩
theorem lp2 {c : xo} {R : Type} {A0 A1 : Type} {L B : Nat -> A0 -> A1 -> R} (hL : ∀ (a0 : A0) (a1 : A1) (n : Nat), L (Nat.succ n) a0 a1 = B n a0 a1) (S : A0 -> A1 -> St) (I : Nat -> A0 -> A1 -> Prop) (n0 : Nat) (b0 : A0) (b1 : A1) {p : Nat -> A0 -> A1 -> Prop}
  (round : ∀ n (a0 : A0) (a1 : A1), Me (L n0 b0 b1) (B n a0 a1) -> 1 <= n + 1 /\ I (n + 1) a0 a1 -> p n a0 a1) (hI : 1 <= n0 /\ I n0 b0 b1 := by first | omega | (dsimp only; omega) | simp) (h0 : Wk σ (S b0 b1) := by exact Kz zAF) (kk : ∀ n (a0 : A0) (a1 : A1), Bx (p n a0 a1) -> @WI P (S a0 a1) c (.nxt (fun σ' => @Nx σ' (Q2 L S I (L n0 b0 b1) n)) k) := by (intro n_ a0_ a1_ z; simp; (repeat (with_reducible refine Go.Mo.sd ?_)); exact z.h)) : @RT P σ c k := by
 refine Vs (ι := { s : Nat × A0 × A1 // Me (L n0 b0 b1) (L s.1 s.2.1 s.2.2) /\ (1 <= s.1 /\ I s.1 s.2.1 s.2.2) }) (fun s => S s.1.2.1 s.1.2.2) (fun s => s.1.1) ⟨(n0, b0, b1), ⟨rfl⟩, hI⟩ h0 ?_
 rintro ⟨⟨n1, a0, a1⟩, e, j⟩
 obtain ⟨n, rfl⟩ : ∃ q, n1 = q + 1 := ⟨n1 - 1, by have := j.1; (try dsimp only at this); omega⟩
 refine Oh (fun σ' hn => ?_) (kk n a0 a1 ⟨round n a0 a1 ⟨by have := e.h; (try dsimp only at this); rw [this, hL]⟩ j⟩)
 obtain ⟨c0, c1, e2, j2, w2⟩ := hn
 exact ⟨⟨(n, c0, c1), e2, j2⟩, Nat.lt_succ_self n, w2⟩
abbrev Q3 {R : Type} {A0 A1 A2 : Type} (L : Nat -> A0 -> A1 -> A2 -> R) (S : A0 -> A1 -> A2 -> St) (I : Nat -> A0 -> A1 -> A2 -> Prop) (t : R) (b : Nat) : NxI := ⟨fun τ => ∃ a0 a1 a2, Me t (L b a0 a1 a2) /\ (1 <= b /\ I b a0 a1 a2) /\ Wk τ (S a0 a1 a2)⟩
theorem nx3 {R : Type} {A0 A1 A2 : Type} {L : Nat -> A0 -> A1 -> A2 -> R} {S : A0 -> A1 -> A2 -> St} {I : Nat -> A0 -> A1 -> A2 -> Prop} {t : R} {a0 : A0} {a1 : A1} {a2 : A2} (e : Me t (L b a0 a1 a2)) (hI : 1 <= b /\ I b a0 a1 a2 := by exact zB2) (hw : Wk σ (S a0 a1 a2) := by exact Kz zAF) : @Nx σ (Q3 L S I t b) := ⟨a0, a1, a2, e, hI, hw⟩
theorem ny3 {R : Type} {A0 A1 A2 : Type} {L : Nat -> A0 -> A1 -> A2 -> R} {S : A0 -> A1 -> A2 -> St} {I : Nat -> A0 -> A1 -> A2 -> Prop} {t : R} {a0 : A0} {a1 : A1} {a2 : A2} (F : q) (e : Me t (L b a0 a1 a2)) (hI : 1 <= b /\ I b a0 a1 a2 := by exact zB2) (kw : q -> Wk σ (S a0 a1 a2) := by exact zB5) : @Nx σ (Q3 L S I t b) := ⟨a0, a1, a2, e, hI, kw F⟩
theorem lp3 {c : xo} {R : Type} {A0 A1 A2 : Type} {L B : Nat -> A0 -> A1 -> A2 -> R} (hL : ∀ (a0 : A0) (a1 : A1) (a2 : A2) (n : Nat), L (Nat.succ n) a0 a1 a2 = B n a0 a1 a2) (S : A0 -> A1 -> A2 -> St) (I : Nat -> A0 -> A1 -> A2 -> Prop) (n0 : Nat) (b0 : A0) (b1 : A1) (b2 : A2) {p : Nat -> A0 -> A1 -> A2 -> Prop}
  (round : ∀ n (a0 : A0) (a1 : A1) (a2 : A2), Me (L n0 b0 b1 b2) (B n a0 a1 a2) -> 1 <= n + 1 /\ I (n + 1) a0 a1 a2 -> p n a0 a1 a2) (hI : 1 <= n0 /\ I n0 b0 b1 b2 := by first | omega | (dsimp only; omega) | simp) (h0 : Wk σ (S b0 b1 b2) := by exact Kz zAF) (kk : ∀ n (a0 : A0) (a1 : A1) (a2 : A2), Bx (p n a0 a1 a2) -> @WI P (S a0 a1 a2) c (.nxt (fun σ' => @Nx σ' (Q3 L S I (L n0 b0 b1 b2) n)) k) := by (intro n_ a0_ a1_ a2_ z; simp; (repeat (with_reducible refine Go.Mo.sd ?_)); exact z.h)) : @RT P σ c k := by
 refine Vs (ι := { s : Nat × A0 × A1 × A2 // Me (L n0 b0 b1 b2) (L s.1 s.2.1 s.2.2.1 s.2.2.2) /\ (1 <= s.1 /\ I s.1 s.2.1 s.2.2.1 s.2.2.2) }) (fun s => S s.1.2.1 s.1.2.2.1 s.1.2.2.2) (fun s => s.1.1) ⟨(n0, b0, b1, b2), ⟨rfl⟩, hI⟩ h0 ?_
 rintro ⟨⟨n1, a0, a1, a2⟩, e, j⟩
 obtain ⟨n, rfl⟩ : ∃ q, n1 = q + 1 := ⟨n1 - 1, by have := j.1; (try dsimp only at this); omega⟩
 refine Oh (fun σ' hn => ?_) (kk n a0 a1 a2 ⟨round n a0 a1 a2 ⟨by have := e.h; (try dsimp only at this); rw [this, hL]⟩ j⟩)
 obtain ⟨c0, c1, c2, e2, j2, w2⟩ := hn
 exact ⟨⟨(n, c0, c1, c2), e2, j2⟩, Nat.lt_succ_self n, w2⟩
abbrev Q4 {R : Type} {A0 A1 A2 A3 : Type} (L : Nat -> A0 -> A1 -> A2 -> A3 -> R) (S : A0 -> A1 -> A2 -> A3 -> St) (I : Nat -> A0 -> A1 -> A2 -> A3 -> Prop) (t : R) (b : Nat) : NxI := ⟨fun τ => ∃ a0 a1 a2 a3, Me t (L b a0 a1 a2 a3) /\ (1 <= b /\ I b a0 a1 a2 a3) /\ Wk τ (S a0 a1 a2 a3)⟩
theorem nx4 {R : Type} {A0 A1 A2 A3 : Type} {L : Nat -> A0 -> A1 -> A2 -> A3 -> R} {S : A0 -> A1 -> A2 -> A3 -> St} {I : Nat -> A0 -> A1 -> A2 -> A3 -> Prop} {t : R} {a0 : A0} {a1 : A1} {a2 : A2} {a3 : A3} (e : Me t (L b a0 a1 a2 a3)) (hI : 1 <= b /\ I b a0 a1 a2 a3 := by exact zB2) (hw : Wk σ (S a0 a1 a2 a3) := by exact Kz zAF) : @Nx σ (Q4 L S I t b) := ⟨a0, a1, a2, a3, e, hI, hw⟩
theorem ny4 {R : Type} {A0 A1 A2 A3 : Type} {L : Nat -> A0 -> A1 -> A2 -> A3 -> R} {S : A0 -> A1 -> A2 -> A3 -> St} {I : Nat -> A0 -> A1 -> A2 -> A3 -> Prop} {t : R} {a0 : A0} {a1 : A1} {a2 : A2} {a3 : A3} (F : q) (e : Me t (L b a0 a1 a2 a3)) (hI : 1 <= b /\ I b a0 a1 a2 a3 := by exact zB2) (kw : q -> Wk σ (S a0 a1 a2 a3) := by exact zB5) : @Nx σ (Q4 L S I t b) := ⟨a0, a1, a2, a3, e, hI, kw F⟩
theorem lp4 {c : xo} {R : Type} {A0 A1 A2 A3 : Type} {L B : Nat -> A0 -> A1 -> A2 -> A3 -> R} (hL : ∀ (a0 : A0) (a1 : A1) (a2 : A2) (a3 : A3) (n : Nat), L (Nat.succ n) a0 a1 a2 a3 = B n a0 a1 a2 a3) (S : A0 -> A1 -> A2 -> A3 -> St) (I : Nat -> A0 -> A1 -> A2 -> A3 -> Prop) (n0 : Nat) (b0 : A0) (b1 : A1) (b2 : A2) (b3 : A3) {p : Nat -> A0 -> A1 -> A2 -> A3 -> Prop}
  (round : ∀ n (a0 : A0) (a1 : A1) (a2 : A2) (a3 : A3), Me (L n0 b0 b1 b2 b3) (B n a0 a1 a2 a3) -> 1 <= n + 1 /\ I (n + 1) a0 a1 a2 a3 -> p n a0 a1 a2 a3) (hI : 1 <= n0 /\ I n0 b0 b1 b2 b3 := by first | omega | (dsimp only; omega) | simp) (h0 : Wk σ (S b0 b1 b2 b3) := by exact Kz zAF) (kk : ∀ n (a0 : A0) (a1 : A1) (a2 : A2) (a3 : A3), Bx (p n a0 a1 a2 a3) -> @WI P (S a0 a1 a2 a3) c (.nxt (fun σ' => @Nx σ' (Q4 L S I (L n0 b0 b1 b2 b3) n)) k) := by (intro n_ a0_ a1_ a2_ a3_ z; simp; (repeat (with_reducible refine Go.Mo.sd ?_)); exact z.h)) : @RT P σ c k := by
 refine Vs (ι := { s : Nat × A0 × A1 × A2 × A3 // Me (L n0 b0 b1 b2 b3) (L s.1 s.2.1 s.2.2.1 s.2.2.2.1 s.2.2.2.2) /\ (1 <= s.1 /\ I s.1 s.2.1 s.2.2.1 s.2.2.2.1 s.2.2.2.2) }) (fun s => S s.1.2.1 s.1.2.2.1 s.1.2.2.2.1 s.1.2.2.2.2) (fun s => s.1.1) ⟨(n0, b0, b1, b2, b3), ⟨rfl⟩, hI⟩ h0 ?_
 rintro ⟨⟨n1, a0, a1, a2, a3⟩, e, j⟩
 obtain ⟨n, rfl⟩ : ∃ q, n1 = q + 1 := ⟨n1 - 1, by have := j.1; (try dsimp only at this); omega⟩
 refine Oh (fun σ' hn => ?_) (kk n a0 a1 a2 a3 ⟨round n a0 a1 a2 a3 ⟨by have := e.h; (try dsimp only at this); rw [this, hL]⟩ j⟩)
 obtain ⟨c0, c1, c2, c3, e2, j2, w2⟩ := hn
 exact ⟨⟨(n, c0, c1, c2, c3), e2, j2⟩, Nat.lt_succ_self n, w2⟩
abbrev Q5 {R : Type} {A0 A1 A2 A3 A4 : Type} (L : Nat -> A0 -> A1 -> A2 -> A3 -> A4 -> R) (S : A0 -> A1 -> A2 -> A3 -> A4 -> St) (I : Nat -> A0 -> A1 -> A2 -> A3 -> A4 -> Prop) (t : R) (b : Nat) : NxI := ⟨fun τ => ∃ a0 a1 a2 a3 a4, Me t (L b a0 a1 a2 a3 a4) /\ (1 <= b /\ I b a0 a1 a2 a3 a4) /\ Wk τ (S a0 a1 a2 a3 a4)⟩
theorem nx5 {R : Type} {A0 A1 A2 A3 A4 : Type} {L : Nat -> A0 -> A1 -> A2 -> A3 -> A4 -> R} {S : A0 -> A1 -> A2 -> A3 -> A4 -> St} {I : Nat -> A0 -> A1 -> A2 -> A3 -> A4 -> Prop} {t : R} {a0 : A0} {a1 : A1} {a2 : A2} {a3 : A3} {a4 : A4} (e : Me t (L b a0 a1 a2 a3 a4)) (hI : 1 <= b /\ I b a0 a1 a2 a3 a4 := by exact zB2) (hw : Wk σ (S a0 a1 a2 a3 a4) := by exact Kz zAF) : @Nx σ (Q5 L S I t b) := ⟨a0, a1, a2, a3, a4, e, hI, hw⟩
theorem lp5 {c : xo} {R : Type} {A0 A1 A2 A3 A4 : Type} {L B : Nat -> A0 -> A1 -> A2 -> A3 -> A4 -> R} (hL : ∀ (a0 : A0) (a1 : A1) (a2 : A2) (a3 : A3) (a4 : A4) (n : Nat), L (Nat.succ n) a0 a1 a2 a3 a4 = B n a0 a1 a2 a3 a4) (S : A0 -> A1 -> A2 -> A3 -> A4 -> St) (I : Nat -> A0 -> A1 -> A2 -> A3 -> A4 -> Prop) (n0 : Nat) (b0 : A0) (b1 : A1) (b2 : A2) (b3 : A3) (b4 : A4) {p : Nat -> A0 -> A1 -> A2 -> A3 -> A4 -> Prop}
  (round : ∀ n (a0 : A0) (a1 : A1) (a2 : A2) (a3 : A3) (a4 : A4), Me (L n0 b0 b1 b2 b3 b4) (B n a0 a1 a2 a3 a4) -> 1 <= n + 1 /\ I (n + 1) a0 a1 a2 a3 a4 -> p n a0 a1 a2 a3 a4) (hI : 1 <= n0 /\ I n0 b0 b1 b2 b3 b4 := by first | omega | (dsimp only; omega) | simp) (h0 : Wk σ (S b0 b1 b2 b3 b4) := by exact Kz zAF) (kk : ∀ n (a0 : A0) (a1 : A1) (a2 : A2) (a3 : A3) (a4 : A4), Bx (p n a0 a1 a2 a3 a4) -> @WI P (S a0 a1 a2 a3 a4) c (.nxt (fun σ' => @Nx σ' (Q5 L S I (L n0 b0 b1 b2 b3 b4) n)) k) := by (intro n_ a0_ a1_ a2_ a3_ a4_ z; simp; (repeat (with_reducible refine Go.Mo.sd ?_)); exact z.h)) : @RT P σ c k := by
 refine Vs (ι := { s : Nat × A0 × A1 × A2 × A3 × A4 // Me (L n0 b0 b1 b2 b3 b4) (L s.1 s.2.1 s.2.2.1 s.2.2.2.1 s.2.2.2.2.1 s.2.2.2.2.2) /\ (1 <= s.1 /\ I s.1 s.2.1 s.2.2.1 s.2.2.2.1 s.2.2.2.2.1 s.2.2.2.2.2) }) (fun s => S s.1.2.1 s.1.2.2.1 s.1.2.2.2.1 s.1.2.2.2.2.1 s.1.2.2.2.2.2) (fun s => s.1.1) ⟨(n0, b0, b1, b2, b3, b4), ⟨rfl⟩, hI⟩ h0 ?_
 rintro ⟨⟨n1, a0, a1, a2, a3, a4⟩, e, j⟩
 obtain ⟨n, rfl⟩ : ∃ q, n1 = q + 1 := ⟨n1 - 1, by have := j.1; (try dsimp only at this); omega⟩
 refine Oh (fun σ' hn => ?_) (kk n a0 a1 a2 a3 a4 ⟨round n a0 a1 a2 a3 a4 ⟨by have := e.h; (try dsimp only at this); rw [this, hL]⟩ j⟩)
 obtain ⟨c0, c1, c2, c3, c4, e2, j2, w2⟩ := hn
 exact ⟨⟨(n, c0, c1, c2, c3, c4), e2, j2⟩, Nat.lt_succ_self n, w2⟩
abbrev Q9 {R : Type} {A0 A1 A2 A3 A4 A5 A6 A7 A8 : Type} (L : Nat -> A0 -> A1 -> A2 -> A3 -> A4 -> A5 -> A6 -> A7 -> A8 -> R) (S : A0 -> A1 -> A2 -> A3 -> A4 -> A5 -> A6 -> A7 -> A8 -> St) (I : Nat -> A0 -> A1 -> A2 -> A3 -> A4 -> A5 -> A6 -> A7 -> A8 -> Prop) (t : R) (b : Nat) : NxI := ⟨fun τ => ∃ a0 a1 a2 a3 a4 a5 a6 a7 a8, Me t (L b a0 a1 a2 a3 a4 a5 a6 a7 a8) /\ (1 <= b /\ I b a0 a1 a2 a3 a4 a5 a6 a7 a8) /\ Wk τ (S a0 a1 a2 a3 a4 a5 a6 a7 a8)⟩
theorem ny9 {R : Type} {A0 A1 A2 A3 A4 A5 A6 A7 A8 : Type} {L : Nat -> A0 -> A1 -> A2 -> A3 -> A4 -> A5 -> A6 -> A7 -> A8 -> R} {S : A0 -> A1 -> A2 -> A3 -> A4 -> A5 -> A6 -> A7 -> A8 -> St} {I : Nat -> A0 -> A1 -> A2 -> A3 -> A4 -> A5 -> A6 -> A7 -> A8 -> Prop} {t : R} {a0 : A0} {a1 : A1} {a2 : A2} {a3 : A3} {a4 : A4} {a5 : A5} {a6 : A6} {a7 : A7} {a8 : A8} (F : q) (e : Me t (L b a0 a1 a2 a3 a4 a5 a6 a7 a8)) (hI : 1 <= b /\ I b a0 a1 a2 a3 a4 a5 a6 a7 a8 := by exact zB2) (kw : q -> Wk σ (S a0 a1 a2 a3 a4 a5 a6 a7 a8) := by exact zB5) : @Nx σ (Q9 L S I t b) := ⟨a0, a1, a2, a3, a4, a5, a6, a7, a8, e, hI, kw F⟩
theorem lp9 {c : xo} {R : Type} {A0 A1 A2 A3 A4 A5 A6 A7 A8 : Type} {L B : Nat -> A0 -> A1 -> A2 -> A3 -> A4 -> A5 -> A6 -> A7 -> A8 -> R} (hL : ∀ (a0 : A0) (a1 : A1) (a2 : A2) (a3 : A3) (a4 : A4) (a5 : A5) (a6 : A6) (a7 : A7) (a8 : A8) (n : Nat), L (Nat.succ n) a0 a1 a2 a3 a4 a5 a6 a7 a8 = B n a0 a1 a2 a3 a4 a5 a6 a7 a8) (S : A0 -> A1 -> A2 -> A3 -> A4 -> A5 -> A6 -> A7 -> A8 -> St) (I : Nat -> A0 -> A1 -> A2 -> A3 -> A4 -> A5 -> A6 -> A7 -> A8 -> Prop) (n0 : Nat) (b0 : A0) (b1 : A1) (b2 : A2) (b3 : A3) (b4 : A4) (b5 : A5) (b6 : A6) (b7 : A7) (b8 : A8) {p : Nat -> A0 -> A1 -> A2 -> A3 -> A4 -> A5 -> A6 -> A7 -> A8 -> Prop}
  (round : ∀ n (a0 : A0) (a1 : A1) (a2 : A2) (a3 : A3) (a4 : A4) (a5 : A5) (a6 : A6) (a7 : A7) (a8 : A8), Me (L n0 b0 b1 b2 b3 b4 b5 b6 b7 b8) (B n a0 a1 a2 a3 a4 a5 a6 a7 a8) -> 1 <= n + 1 /\ I (n + 1) a0 a1 a2 a3 a4 a5 a6 a7 a8 -> p n a0 a1 a2 a3 a4 a5 a6 a7 a8) (hI : 1 <= n0 /\ I n0 b0 b1 b2 b3 b4 b5 b6 b7 b8 := by first | omega | (dsimp only; omega) | simp) (h0 : Wk σ (S b0 b1 b2 b3 b4 b5 b6 b7 b8) := by exact Kz zAF) (kk : ∀ n (a0 : A0) (a1 : A1) (a2 : A2) (a3 : A3) (a4 : A4) (a5 : A5) (a6 : A6) (a7 : A7) (a8 : A8), Bx (p n a0 a1 a2 a3 a4 a5 a6 a7 a8) -> @WI P (S a0 a1 a2 a3 a4 a5 a6 a7 a8) c (.nxt (fun σ' => @Nx σ' (Q9 L S I (L n0 b0 b1 b2 b3 b4 b5 b6 b7 b8) n)) k) := by (intro n_ a0_ a1_ a2_ a3_ a4_ a5_ a6_ a7_ a8_ z; simp; (repeat (with_reducible refine Go.Mo.sd ?_)); exact z.h)) : @RT P σ c k := by
 refine Vs (ι := { s : Nat × A0 × A1 × A2 × A3 × A4 × A5 × A6 × A7 × A8 // Me (L n0 b0 b1 b2 b3 b4 b5 b6 b7 b8) (L s.1 s.2.1 s.2.2.1 s.2.2.2.1 s.2.2.2.2.1 s.2.2.2.2.2.1 s.2.2.2.2.2.2.1 s.2.2.2.2.2.2.2.1 s.2.2.2.2.2.2.2.2.1 s.2.2.2.2.2.2.2.2.2) /\ (1 <= s.1 /\ I s.1 s.2.1 s.2.2.1 s.2.2.2.1 s.2.2.2.2.1 s.2.2.2.2.2.1 s.2.2.2.2.2.2.1 s.2.2.2.2.2.2.2.1 s.2.2.2.2.2.2.2.2.1 s.2.2.2.2.2.2.2.2.2) }) (fun s => S s.1.2.1 s.1.2.2.1 s.1.2.2.2.1 s.1.2.2.2.2.1 s.1.2.2.2.2.2.1 s.1.2.2.2.2.2.2.1 s.1.2.2.2.2.2.2.2.1 s.1.2.2.2.2.2.2.2.2.1 s.1.2.2.2.2.2.2.2.2.2) (fun s => s.1.1) ⟨(n0, b0, b1, b2, b3, b4, b5, b6, b7, b8), ⟨rfl⟩, hI⟩ h0 ?_
 rintro ⟨⟨n1, a0, a1, a2, a3, a4, a5, a6, a7, a8⟩, e, j⟩
 obtain ⟨n, rfl⟩ : ∃ q, n1 = q + 1 := ⟨n1 - 1, by have := j.1; (try dsimp only at this); omega⟩
 refine Oh (fun σ' hn => ?_) (kk n a0 a1 a2 a3 a4 a5 a6 a7 a8 ⟨round n a0 a1 a2 a3 a4 a5 a6 a7 a8 ⟨by have := e.h; (try dsimp only at this); rw [this, hL]⟩ j⟩)
 obtain ⟨c0, c1, c2, c3, c4, c5, c6, c7, c8, e2, j2, w2⟩ := hn
 exact ⟨⟨(n, c0, c1, c2, c3, c4, c5, c6, c7, c8), e2, j2⟩, Nat.lt_succ_self n, w2⟩
abbrev Q13 {R : Type} {A0 A1 A2 A3 A4 A5 A6 A7 A8 A9 eU eV eW : Type} (L : Nat -> A0 -> A1 -> A2 -> A3 -> A4 -> A5 -> A6 -> A7 -> A8 -> A9 -> eU -> eV -> eW -> R) (S : A0 -> A1 -> A2 -> A3 -> A4 -> A5 -> A6 -> A7 -> A8 -> A9 -> eU -> eV -> eW -> St) (I : Nat -> A0 -> A1 -> A2 -> A3 -> A4 -> A5 -> A6 -> A7 -> A8 -> A9 -> eU -> eV -> eW -> Prop) (t : R) (b : Nat) : NxI := ⟨fun τ => ∃ a0 a1 a2 a3 a4 a5 a6 a7 a8 a9 fq ft fu, Me t (L b a0 a1 a2 a3 a4 a5 a6 a7 a8 a9 fq ft fu) /\ (1 <= b /\ I b a0 a1 a2 a3 a4 a5 a6 a7 a8 a9 fq ft fu) /\ Wk τ (S a0 a1 a2 a3 a4 a5 a6 a7 a8 a9 fq ft fu)⟩
theorem oo {R : Type} {A0 A1 A2 A3 A4 A5 A6 A7 A8 A9 eU eV eW : Type} {L : Nat -> A0 -> A1 -> A2 -> A3 -> A4 -> A5 -> A6 -> A7 -> A8 -> A9 -> eU -> eV -> eW -> R} {S : A0 -> A1 -> A2 -> A3 -> A4 -> A5 -> A6 -> A7 -> A8 -> A9 -> eU -> eV -> eW -> St} {I : Nat -> A0 -> A1 -> A2 -> A3 -> A4 -> A5 -> A6 -> A7 -> A8 -> A9 -> eU -> eV -> eW -> Prop} {t : R} {a0 : A0} {a1 : A1} {a2 : A2} {a3 : A3} {a4 : A4} {a5 : A5} {a6 : A6} {a7 : A7} {a8 : A8} {a9 : A9} {fq : eU} {ft : eV} {fu : eW} (F : q) (e : Me t (L b a0 a1 a2 a3 a4 a5 a6 a7 a8 a9 fq ft fu)) (hI : 1 <= b /\ I b a0 a1 a2 a3 a4 a5 a6 a7 a8 a9 fq ft fu := by exact zB2) (kw : q -> Wk σ (S a0 a1 a2 a3 a4 a5 a6 a7 a8 a9 fq ft fu) := by exact zB5) : @Nx σ (Q13 L S I t b) := ⟨a0, a1, a2, a3, a4, a5, a6, a7, a8, a9, fq, ft, fu, e, hI, kw F⟩
theorem oc {c : xo} {R : Type} {A0 A1 A2 A3 A4 A5 A6 A7 A8 A9 eU eV eW : Type} {L B : Nat -> A0 -> A1 -> A2 -> A3 -> A4 -> A5 -> A6 -> A7 -> A8 -> A9 -> eU -> eV -> eW -> R} (hL : ∀ (a0 : A0) (a1 : A1) (a2 : A2) (a3 : A3) (a4 : A4) (a5 : A5) (a6 : A6) (a7 : A7) (a8 : A8) (a9 : A9) (fq : eU) (ft : eV) (fu : eW) (n : Nat), L (Nat.succ n) a0 a1 a2 a3 a4 a5 a6 a7 a8 a9 fq ft fu = B n a0 a1 a2 a3 a4 a5 a6 a7 a8 a9 fq ft fu) (S : A0 -> A1 -> A2 -> A3 -> A4 -> A5 -> A6 -> A7 -> A8 -> A9 -> eU -> eV -> eW -> St) (I : Nat -> A0 -> A1 -> A2 -> A3 -> A4 -> A5 -> A6 -> A7 -> A8 -> A9 -> eU -> eV -> eW -> Prop) (n0 : Nat) (b0 : A0) (b1 : A1) (b2 : A2) (b3 : A3) (b4 : A4) (b5 : A5) (b6 : A6) (b7 : A7) (b8 : A8) (b9 : A9) (b10 : eU) (b11 : eV) (b12 : eW) {p : Nat -> A0 -> A1 -> A2 -> A3 -> A4 -> A5 -> A6 -> A7 -> A8 -> A9 -> eU -> eV -> eW -> Prop}
  (round : ∀ n (a0 : A0) (a1 : A1) (a2 : A2) (a3 : A3) (a4 : A4) (a5 : A5) (a6 : A6) (a7 : A7) (a8 : A8) (a9 : A9) (fq : eU) (ft : eV) (fu : eW), Me (L n0 b0 b1 b2 b3 b4 b5 b6 b7 b8 b9 b10 b11 b12) (B n a0 a1 a2 a3 a4 a5 a6 a7 a8 a9 fq ft fu) -> 1 <= n + 1 /\ I (n + 1) a0 a1 a2 a3 a4 a5 a6 a7 a8 a9 fq ft fu -> p n a0 a1 a2 a3 a4 a5 a6 a7 a8 a9 fq ft fu) (hI : 1 <= n0 /\ I n0 b0 b1 b2 b3 b4 b5 b6 b7 b8 b9 b10 b11 b12 := by first | omega | (dsimp only; omega) | simp) (h0 : Wk σ (S b0 b1 b2 b3 b4 b5 b6 b7 b8 b9 b10 b11 b12) := by exact Kz zAF) (kk : ∀ n (a0 : A0) (a1 : A1) (a2 : A2) (a3 : A3) (a4 : A4) (a5 : A5) (a6 : A6) (a7 : A7) (a8 : A8) (a9 : A9) (fq : eU) (ft : eV) (fu : eW), Bx (p n a0 a1 a2 a3 a4 a5 a6 a7 a8 a9 fq ft fu) -> @WI P (S a0 a1 a2 a3 a4 a5 a6 a7 a8 a9 fq ft fu) c (.nxt (fun σ' => @Nx σ' (Q13 L S I (L n0 b0 b1 b2 b3 b4 b5 b6 b7 b8 b9 b10 b11 b12) n)) k) := by (intro n_ a0_ a1_ a2_ a3_ a4_ a5_ a6_ a7_ a8_ a9_ a10_ a11_ a12_ z; simp; (repeat (with_reducible refine Go.Mo.sd ?_)); exact z.h)) : @RT P σ c k := by
 refine Vs (ι := { s : Nat × A0 × A1 × A2 × A3 × A4 × A5 × A6 × A7 × A8 × A9 × eU × eV × eW // Me (L n0 b0 b1 b2 b3 b4 b5 b6 b7 b8 b9 b10 b11 b12) (L s.1 s.2.1 s.2.2.1 s.2.2.2.1 s.2.2.2.2.1 s.2.2.2.2.2.1 s.2.2.2.2.2.2.1 s.2.2.2.2.2.2.2.1 s.2.2.2.2.2.2.2.2.1 s.2.2.2.2.2.2.2.2.2.1 s.2.2.2.2.2.2.2.2.2.2.1 s.2.2.2.2.2.2.2.2.2.2.2.1 s.2.2.2.2.2.2.2.2.2.2.2.2.1 s.2.2.2.2.2.2.2.2.2.2.2.2.2) /\ (1 <= s.1 /\ I s.1 s.2.1 s.2.2.1 s.2.2.2.1 s.2.2.2.2.1 s.2.2.2.2.2.1 s.2.2.2.2.2.2.1 s.2.2.2.2.2.2.2.1 s.2.2.2.2.2.2.2.2.1 s.2.2.2.2.2.2.2.2.2.1 s.2.2.2.2.2.2.2.2.2.2.1 s.2.2.2.2.2.2.2.2.2.2.2.1 s.2.2.2.2.2.2.2.2.2.2.2.2.1 s.2.2.2.2.2.2.2.2.2.2.2.2.2) }) (fun s => S s.1.2.1 s.1.2.2.1 s.1.2.2.2.1 s.1.2.2.2.2.1 s.1.2.2.2.2.2.1 s.1.2.2.2.2.2.2.1 s.1.2.2.2.2.2.2.2.1 s.1.2.2.2.2.2.2.2.2.1 s.1.2.2.2.2.2.2.2.2.2.1 s.1.2.2.2.2.2.2.2.2.2.2.1 s.1.2.2.2.2.2.2.2.2.2.2.2.1 s.1.2.2.2.2.2.2.2.2.2.2.2.2.1 s.1.2.2.2.2.2.2.2.2.2.2.2.2.2) (fun s => s.1.1) ⟨(n0, b0, b1, b2, b3, b4, b5, b6, b7, b8, b9, b10, b11, b12), ⟨rfl⟩, hI⟩ h0 ?_
 rintro ⟨⟨n1, a0, a1, a2, a3, a4, a5, a6, a7, a8, a9, fq, ft, fu⟩, e, j⟩
 obtain ⟨n, rfl⟩ : ∃ q, n1 = q + 1 := ⟨n1 - 1, by have := j.1; (try dsimp only at this); omega⟩
 refine Oh (fun σ' hn => ?_) (kk n a0 a1 a2 a3 a4 a5 a6 a7 a8 a9 fq ft fu ⟨round n a0 a1 a2 a3 a4 a5 a6 a7 a8 a9 fq ft fu ⟨by have := e.h; (try dsimp only at this); rw [this, hL]⟩ j⟩)
 obtain ⟨c0, c1, c2, c3, c4, c5, c6, c7, c8, c9, c10, c11, c12, e2, j2, w2⟩ := hn
 exact ⟨⟨(n, c0, c1, c2, c3, c4, c5, c6, c7, c8, c9, c10, c11, c12), e2, j2⟩, Nat.lt_succ_self n, w2⟩
theorem kb {T : TypeId} (h : @EI P (σ.new d (.one (.sref d 0 0 (zW P σ (ZR P T) (P.cellsOf (ZR P T)) parts.toList 0).2.length)) [.lit (P.cellsOf (ZR P T)) (zW P σ (ZR P T) (P.cellsOf (ZR P T)) parts.toList 0).2]) A l k) (my : o.o.op = .buildSlice T n parts := by exact rfl) (hg : o.o.guard = none := by exact rfl) (hd : o.o.dst = some d := by exact rfl)
  (h1 : σ.fresh d = true /\ XZ P T = true /\ Qc P (ZR P T) = true /\ 0 < P.cellsOf (ZR P T) /\ parts.toList.length = n /\ n * P.cellsOf (ZR P T) <= 16777216 := by simp) (h2 : (zW P σ (ZR P T) (P.cellsOf (ZR P T)) parts.toList 0).1 := by simp)
  (h3 : YW d (zW P σ (ZR P T) (P.cellsOf (ZR P T)) parts.toList 0).2.flatten = false := by simp)
  : @SI P σ A o l k := nW my hg hd h1 h2 h3 h
theorem W5 {y : Operand} {t : TypeId} {lB : List (List D)} (h : @EI P ((σ.Zz (l1 ++ l2)).new d (.one (.sref d 0 0 (lB.length + news.length))) [.arr true size (lB ++ news)]) A l k) (my : o.o.op = .call ⟨.builtin .append, #[x, y], #[t, t]⟩ := by exact rfl) (hg : o.o.guard = none := by exact rfl) (hd : o.o.dst = some d := by exact rfl) (lz : A.bar o.o = true := by exact rfl)
  (iZ : size = P.cellsOf (ZR P t) := by simp) (h1 : gOf (look P σ t x) = true /\ gOf (look P σ t y) = true /\ XZ P t = true /\ Qc P (ZR P t) = true /\ 0 < P.cellsOf (ZR P t) := by simp)
  (h2 : (Vz σ (unc (look P σ t x)) size).1 /\ (Vz σ (unc (look P σ t x)) size).2 = (lB, l1) := by simp) (h3 : (Vy σ (unc (look P σ t y)) size).1 /\ (Vy σ (unc (look P σ t y)) size).2 = (news, l2) := by simp)
  (h4 : (l1 ++ l2).Nodup /\ (σ.Zz (l1 ++ l2)).fresh d = true := by simp) (h5 : (lB.length + news.length) * P.bytesOf (ZR P t) <= 140737488355328 /\ lB.length + news.length <= 9223372036854775807 := by (simp <;> omega))
  : @SI P σ A o l k := nH my hg hd lz iZ h1 h2 h3 h4 h5 h
theorem ND {T : TypeId} {y : Operand} (h : @EI P ((σ.Zz L).Zu t j (.arr true size (rows.set i ds))) A l k) (my : o.o.op = .store T x y := by exact rfl) (hg : o.o.guard = none := by exact rfl) (hd : o.o.dst = none := by exact rfl) (lz : A.bar o.o = true := by exact rfl)
  (hx : unc (look P σ 0 x) = .one (.ptr t j i 0) := by simp) (ho : σ.ob t j = .arr true size rows := by simp) (hi : i < rows.length := by (simp; try omega)) (h1 : qT P T = true /\ gOf (look P σ 0 x) = true /\ gOf (look P σ T y) = true /\ (unc (look P σ T y)).flat = true := by simp)
  (h2 : J5 σ (unc (look P σ T y)).cells = some ds := by simp) (h3 : Qe σ (unc (look P σ T y)).cells := by simp) (h4 : XH (unc (look P σ T y)).cells = L := by simp) (h5 : L.Nodup /\ (t, j) ∉ L /\ (σ.Zz L).yS (At.isT t) = false := by simp) (h6 : ds.length = P.cellsOf T /\ P.cellsOf T = size := by simp)
  : @SI P σ A o l k := ng my hg hd lz hx ho hi h1 h2 h3 h4 h5 h6 h
theorem wkS {σ : St} (ρ : Ren) (F : List (Nat × Nat)) (lW : UN σ' ρ ρ = true := by exact rfl) (h : Rp σ ρ F σ σ' 0 := by simp) : Wk σ σ' := XI ρ F lW h
theorem drJ {id : Nat} {l : List Oper} {br : Oper -> Bool} (bs : List Nat) (hm : P.follows .mixedOrders = true) (h : @EI P σ ⟨⟨l⟩, MA bs⟩ ⟨l⟩ k) (hdr : Vm.MF P ⟨l⟩ (fun i => i) (MA bs) = true := by kernel_rfl) (lp : xR ⟨l⟩ (fun i => i) σ = true := by kernel_rfl) : @DI P id σ ⟨⟨l⟩, br⟩ k := o9 bs hm hdr lp h
theorem rpS {g : Prop} (h : p) (kk : Bx p -> g := by (intro z; (repeat (with_reducible refine Go.Mo.sd ?_)); exact z.h)) : g := kk ⟨h⟩
theorem zB6 {g : Prop} (h : p) (kk : Bx p -> g := by (intro z; (repeat (with_reducible refine Zv ?_)); exact z.h)) : g := kk ⟨h⟩
theorem zB7 {g : Prop} (h : p) (kk : Bx p -> g := by (intro z; (repeat (with_reducible refine Yp ?_)); exact z.h)) : g := kk ⟨h⟩
theorem zB8 {g : Prop} (h : p) (kk : Bx p -> g := by (intro z; (repeat (with_reducible refine YT ?_)); exact z.h)) : g := kk ⟨h⟩
theorem zB9 {g : Prop} (h : p) (kk : Bx p -> g := by (intro z; (repeat (with_reducible refine Qj ?_)); exact z.h)) : g := kk ⟨h⟩
theorem zCA {g : Prop} (h : p) (kk : Bx p -> g := by (intro z; (repeat (with_reducible refine JE ?_)); exact z.h)) : g := kk ⟨h⟩
theorem zCB {g : Prop} (h : p) (kk : Bx p -> g := by (intro z; (repeat (with_reducible refine QR ?_)); exact z.h)) : g := kk ⟨h⟩
theorem zCC {g : Prop} (h : p) (kk : Bx p -> g := by (intro z; (repeat (with_reducible refine JN ?_)); exact z.h)) : g := kk ⟨h⟩
theorem rpG {g : Prop} (h : p) (kk : Bx p -> g := by (intro z; (repeat (with_reducible refine Go.Mo.sdg ?_)); exact z.h)) : g := kk ⟨h⟩
theorem xs (u : q) (h : q -> p := by (intro u; simp (maxDischargeDepth := 12) [u])) : p := h u
@[simp] abbrev rI (x : Int) : List D := [.int .i64 x]
@[simp] abbrev rB (b : Bool) : List D := [.bool b]
@[simp] abbrev rS (s : ByteArray) : List D := [.str s]
@[simp] abbrev rL {α : Type} (n : Nat) (f : α -> List D) (l : List α) : List D := [.sl n (l.map f)]
def B4 (l : List Bool) : List At := l.map (fun b => .d (.bool b))
def zB (n : Nat) : List Bool := List.replicate n false
@[simp] theorem oT (n : Nat) : (zB n).length = n := List.length_replicate ..
@[simp] theorem wO (σ : St) (ρ : Ren) (F : List (Nat × Nat)) : ∀ l : List Bool, Rc σ ρ F (B4 l) (B4 l) = True
 | [] => by simp [B4, Rc]
 | b :: l => by
  have h := wO σ ρ F l
  simp only [B4, List.map_cons, Rc, EC] at h ⊢
  simp [h]
@[simp] theorem Cq (t : Nat) : ∀ l : List Bool, YW t (B4 l) = false
 | [] => by simp [B4, YW]
 | b :: l => by
  have h := Cq t l
  simp only [B4, List.map_cons] at h ⊢
  simp [YW, At.ref] at h ⊢
  exact h
end Go.Vm
