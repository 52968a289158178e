/- An abstract machine Oe the model of Go, by value, and that it is sound: part Ve. No condition. -/
import Derived.Test.YthjkhlcbpfnobaaGreatVd
set_option linter.unusedVariables false
set_option linter.unusedSimpArgs false
namespace Go.Vm
open Go.RowKit
section
variable {P : Program} {σ : St} {k : Fr}
end
end Go.Vm
namespace Go.Vm
open Go.RowKit
def wb (σ : St) : V -> Option Nat
 | .one (.d (.sl _ rows)) => some rows.length
 | .one (.sref t j _ len) => (match σ.ob t j with | .arr _ _ _ => some len | _ => none)
 | .fix _ (.one (.sref t j _ len)) => (match σ.ob t j with | .arr _ _ _ => some len | _ => none)
 | _ => none
def kp (σ : St) : Prop := ∀ t n, wb σ (σ.get t) = some n -> n <= 9223372036854775807
theorem vz {T : CS} {h : Nat -> Nat -> Hd} {σ : St} {w : World} : ∀ {v : V} {val : Value} {n : Nat}, wb σ v = some n -> Qy T h σ.ob w v val -> n <= maxLen
 | .one (.d (.sl s rows)), val, n, hn, hv => by
  simp only [wb] at hn
  cases hn
  obtain ⟨base, cap, _, h1, h2⟩ := BP (r := (show Rd T w val (.sl s rows) from hv))
  omega
 | .one (.sref u j lo len), val, n, hn, hv => by
  simp only [wb] at hn
  split at hn
  ·rename_i q s rows ho
   cases hn
   have hh := (show YO T h σ.ob w (.sref u j lo len) val from hv).2.1 _ _ _ ho
   obtain ⟨_, _, _, base, cap, _, h1, h2, _⟩ := hh
   omega
  ·cases hn
 | .fix u0 (.one (.sref u j lo len)), val, n, hn, hv => by
  simp only [wb] at hn
  split at hn
  ·rename_i q s rows ho
   cases hn
   have hh := (show YO T h σ.ob w (.sref u j lo len) val from hv.2).2.1 _ _ _ ho
   obtain ⟨_, _, _, base, cap, _, h1, h2, _⟩ := hh
   omega
  ·cases hn
theorem D0 {T0 : CS} {B : Nat -> Prop} {σ : St} {a : Act} {w : World} (r : KF T0 B σ a w) : kp σ := by
 obtain ⟨X, h, r⟩ := r
 intro t n hn
 exact vz hn (r.get t)
theorem Fm {P : Program} {c : Code} {Q : Exit -> St -> Prop} {σ : St} (h : kp σ -> AWP P c Q σ) : AWP P c Q σ := fun T0 B a w r => h (D0 r) T0 B a w r
section
variable {P : Program} {σ : St} {k : Fr}
theorem sI {b : Bool} {x y : xF} (ht : kp σ -> b = true -> @WI P σ x k) (hf : kp σ -> b = false -> @WI P σ y k) : @CI P b σ x y k :=
 ⟨fun h => Fm fun hk => Vt (ht hk h), fun h => Fm fun hk => Vt (hf hk h)⟩
theorem Ok {b c : Bool} {x y : xF} (hc : c = b) (ht : kp σ -> c = true -> @WI P σ x k) (hf : kp σ -> c = false -> @WI P σ y k) : @CI P b σ x y k := by
 subst hc; exact sI ht hf
theorem okL {c : xF} (h : kp σ -> @RO P σ c k) : @RO P σ c k := Fm h
theorem okD {id : Nat} {A : KD} (h : kp σ -> @DI P id σ A k) : @DI P id σ A k := Fm h
def Nd : Op -> Bool
 | .call _ => true
 | _ => false
theorem HI {A : KD} {o : OpI} {l : Km} {j dj d : Nat} {want g : Bool} (pP : Nd o.o.op = false) (hg : o.o.guard = some (j, want)) (hd : o.o.dst = some d)
  (nI : (A.ops[j]?).bind (·.dst) = some dj) (nP : qQ want (σ.get dj) = some g) (pa : dj < σ.length)
  (ht : g = true -> ((evV P σ o.o.op o.o.type).1 /\ gOf (evV P σ o.o.op o.o.type).2 = true /\ (unc (evV P σ o.o.op o.o.type).2).flat = true) /\ @EI P (σ.put d (.cnd true (unc (evV P σ o.o.op o.o.type).2))) A l k)
  (hf : g = false -> @EI P (σ.put d (.cnd false .any)) A l k) : @SI P σ A o l k := by
 have step : ∀ v, (g = true -> (evV P σ o.o.op o.o.type).1 /\ gOf (evV P σ o.o.op o.o.type).2 = true /\ v = unc (evV P σ o.o.op o.o.type).2 /\ v.flat = true) -> XR P A.ops o.o σ (σ.put d (.cnd g v)) := by
  intro v hv
  unfold XR
  simp only [hg]
  refine ⟨dj, d, g, v, nI, pa, hd, nP, fun hQ => ?_, rfl⟩
  obtain ⟨h1, h2, h3, h4⟩ := hv hQ
  have base : ∃ v0, Yc P σ o.o.op o.o.type v0 /\ gOf v0 = true /\ v = unc v0 /\ v.flat = true := ⟨_, Cv h1, h2, h3, h4⟩
  unfold MC
  split
  ·rename_i c hc; rw [hc] at pP; cases pP
  ·exact base
 cases g with
 | true =>
  obtain ⟨⟨h1, h2, h3⟩, h4⟩ := ht rfl
  exact ⟨_, .inl (step _ fun _ => ⟨h1, h2, rfl, h3⟩), Ja h4⟩
 | false => exact ⟨_, .inl (step .any (fun h => by cases h)), Ja (hf rfl)⟩
end
theorem uu {P : Program} {σ : St} {k : Fr} {A : KD} {o : OpI} {l : Km} {j dj d : Nat} {want g : Bool} (hg : o.o.guard = some (j, want)) (hd : o.o.dst = some d)
  (nI : (A.ops[j]?).bind (·.dst) = some dj) (nP : qQ want (σ.get dj) = some g) (pa : dj < σ.length) (cZ : g = false)
  (h : @EI P (σ.put d (.cnd false .any)) A l k) : @SI P σ A o l k := by
 subst cZ
 refine ⟨_, .inl ?_, Ja h⟩
 unfold XR
 simp only [hg]
 exact ⟨dj, d, false, .any, nI, pa, hd, nP, (fun h => by cases h), rfl⟩
def nth {α : Type} [Inhabited α] (l : List α) (i : Nat) : α := l.getD i default
theorem ZI {α : Type} [Inhabited α] {f : α -> List D} {l : List α} {i : Nat} (h : i < l.length) : rowAt (l.map f) i = f (nth l i) := by
 simp [rowAt, nth, h]
theorem qh {α : Type} {f : α -> List D} {l : List α} {i : Nat} {x : α} {r : List D} (h : r = f x) : (l.map f).set i r = (l.set i x).map f := by
 rw [h, List.map_set]
abbrev W (x : Int) : Int := IntKind.i64.wrap x
theorem XA {x : Int} (h1 : -9223372036854775808 <= x) (h2 : x <= 9223372036854775807) : IntKind.i64.wrap x = x := by
 have hr : IntKind.i64.min <= x /\ x <= IntKind.i64.max := by
  constructor
  ·show -9223372036854775808 <= x; exact h1
  ·show x <= 9223372036854775807; exact h2
 simp only [IntKind.wrap]
 first
  | (simp [IntKind.bits, IntKind.signed]; omega)
  | omega
theorem zZ (i : Nat) : ((i : Int) - 1).toNat = i - 1 := by omega
attribute [simp] St.fresh z7 V.ref V.NI Y0 Uv
end Go.Vm
namespace Go.Vm
open Go.RowKit
attribute [simp] St.tG Fw C1 At.sw tu
section
variable {P : Program} {σ : St} {k : Fr}
end
end Go.Vm
namespace Go.Vm
open Go.RowKit
def At.isP (t : Nat) : At -> Bool
 | .tref u _ _ _ _ => u == t
 | .ptr u _ _ _ => u == t
 | _ => false
section
variable {P : Program} {T0 : CS} {B : Nat -> Prop} {σ : St} {a : Act} {w w' : World} {X X' : Nat -> Prop} {h : Nat -> Nat -> Hd}
theorem Rel.tD (r : Rel T0 B σ a w X h) {t : Nat} {size : Nat} {rows : List (List At)} {news : List (List D)} {L : List (Nat × Nat)} (ho : σ.ob t 0 = .lit size rows) (nU : KR σ rows = some news) (po : Jv σ rows)
  (hL : Yv rows.flatten = L) (oW : L.Nodup) (fO : (t, 0) ∉ L) (hp : (σ.Z9 L).zi (At.isP t) = false) : KF T0 B ((σ.Z9 L).YC t 0 (.arr true size news)) a w := by
 have pr : σ.ob t 0 ≠ .none := by rw [ho]; simp
 have h0 := r.obj t 0
 rw [ho] at h0
 obtain ⟨e, xs, mS, hz, pV⟩ := h0
 obtain ⟨hm1, hm2, hm3⟩ := xj nU
 have pY := RJ r pV hm1 (y3 po) (by rw [hL]; exact oW)
 rw [hL] at pY
 have r1 := r.Z9 L
 have oD := r.xJ L
 have nz : ∀ b', (h t 0).u b' -> Ki σ h L b' -> False := by
  rintro b' nX ⟨p, iy, pS, cO⟩
  obtain ⟨q1, q2⟩ := r.inj t 0 p.1 p.2 b' pr pS nX cO
  exact fO (by rw [q1, q2]; exact iy)
 have lk : (σ.Z9 L).ob t 0 = .lit size rows := by rw [St.Kn, if_neg fO, ho]
 have nW : (σ.Z9 L).ob t 0 ≠ .none := by rw [lk]; simp
 have ov : ∀ u i, ¬ (u = t /\ i = 0) -> ((σ.Z9 L).YC t 0 (.arr true size news)).ob u i = (σ.Z9 L).ob u i := by
  intro u i pS
  rw [St.JC _ t 0 _ u i nW, if_neg pS]
 have oh : ((σ.Z9 L).YC t 0 (.arr true size news)).ob t 0 = .arr true size news := by rw [St.JC _ t 0 _ t 0 nW]; simp
 generalize hσ : (σ.Z9 L).YC t 0 (.arr true size news) = σ2 at *
 generalize hσ1 : σ.Z9 L = σ1 at *
 have hlen : σ2.length = σ1.length := by rw [<- hσ, St.Xa]
 have od : ∀ u, σ2.get u = σ1.get u := fun u => by rw [<- hσ, St.QL]
 let pd : Hd := ⟨(h t 0).v, fun k => (xs[k]?).getD undef, fun b => (h t 0).u b \/ Ki σ h L b⟩
 let h' : Nat -> Nat -> Hd := fun u i => if u = t /\ i = 0 then pd else h u i
 have mM : ∀ u i, ¬ (u = t /\ i = 0) -> h' u i = h u i := fun u i pS => if_neg pS
 have ck : h' t 0 = pd := by simp [h']
 have hv : ∀ u i, (h' u i).v = (h u i).v := by
  intro u i
  by_cases hc : u = t /\ i = 0
  ·obtain ⟨rfl, rfl⟩ := hc; rw [ck]
  ·rw [mM u i hc]
 have at_ : ∀ {x : At} {v : Value}, At.isP t x = false -> YO (Tof T0 X) h σ1.ob w x v -> YO (Tof T0 X) h' σ2.ob w x v := by
  intro x v g7 rx
  cases x with
  | any => exact rx
  | d x => exact rx
  | nil s => exact rx
  | sref u i lo len =>
   refine ⟨rx.1, fun q s rws hq => ?_, fun s rws hq => ?_⟩
   ·by_cases hc : u = t /\ i = 0
    ·obtain ⟨rfl, rfl⟩ := hc
     rw [oh] at hq; cases hq
     rw [hv, <- hm2]; exact rx.2.2 _ _ lk
    ·rw [ov u i hc] at hq; rw [hv]; exact rx.2.1 _ _ _ hq
   ·by_cases hc : u = t /\ i = 0
    ·obtain ⟨rfl, rfl⟩ := hc
     rw [oh] at hq; cases hq
    ·rw [ov u i hc] at hq; rw [hv]; exact rx.2.2 _ _ hq
  | ptr u i k c =>
   refine ⟨rx.1, fun q s rws hq => ?_⟩
   have hc : ¬ (u = t /\ i = 0) := fun hc => by simp [At.isP, hc.1] at g7
   rw [ov u i hc] at hq; rw [hv]; exact rx.2 _ _ _ hq
  | bptr u c =>
   refine ⟨rx.1, fun cells hq => ?_⟩
   by_cases hc : u = t
   ·subst hc; rw [oh] at hq; cases hq
   ·rw [ov u 0 (fun hh => hc hh.1)] at hq; rw [hv]; exact rx.2 _ hq
  | fn f u =>
   refine ⟨rx.1, fun cells hq => ?_⟩
   by_cases hc : u = t
   ·subst hc; rw [oh] at hq; cases hq
   ·rw [ov u 0 (fun hh => hc hh.1)] at hq; rw [hv]; exact rx.2 _ hq
  | tref u i k c o =>
   refine ⟨rx.1, fun s rws hq => ?_⟩
   have hc : ¬ (u = t /\ i = 0) := fun hc => by simp [At.isP, hc.1] at g7
   rw [ov u i hc] at hq; rw [mM u i hc]; exact rx.2 _ _ hq
  | rptr rr c => exact rx
 have ow : ∀ u i, σ2.ob u i ≠ .none -> σ1.ob u i ≠ .none := by
  intro u i hn
  by_cases hc : u = t /\ i = 0
  ·obtain ⟨rfl, rfl⟩ := hc; exact nW
  ·rw [ov u i hc] at hn; exact hn
 refine ⟨X, h', by rw [r1.size, hlen], r1.defers, r1.hB, r1.hX, r1.hT, fun u hu => ?_, fun u i => ?_, fun u i b hn hb => ?_, fun u i b hn hb => ?_, fun u i u' i' b hn oR hb pj => ?_⟩
 ·rw [hlen] at hu
  rw [od]; exact Qy.map at_ (St.Oz hp u) (r1.slot u hu)
 ·by_cases hc : u = t /\ i = 0
  ·obtain ⟨rfl, rfl⟩ := hc
   rw [oh, ck]
   refine ⟨e, xs, by rw [<- hm2]; exact mS, hm3 size hz, pY.mono (fun b hb => ⟨.inr hb, fun nu => nz b (r.ub u 0 b pr nu) hb⟩), fun k x d hx _ _ => by simp [pd, hx]⟩
  ·rw [ov u i hc, mM u i hc]
   exact J3.map at_ (fun b k v hb hc => ⟨hc, hb⟩) (fun ho b => r1.ub u i b ho) (fun _ _ _ => rfl) (St.Li hp u i) (r1.obj u i)
 ·by_cases hc : u = t /\ i = 0
  ·obtain ⟨rfl, rfl⟩ := hc
   rw [ck] at hb ⊢; exact .inl (r.ub u 0 b pr hb)
  ·rw [mM u i hc] at hb ⊢; exact r1.ub u i b (ow u i hn) hb
 ·by_cases hc : u = t /\ i = 0
  ·obtain ⟨rfl, rfl⟩ := hc
   rw [ck] at hb
   rcases hb with hb | hb
   ·exact r.own u 0 b pr hb
   ·have := oD b hb; exact ⟨this.1, this.2.1, this.2.2.1⟩
  ·rw [mM u i hc] at hb; exact r1.own u i b (ow u i hn) hb
 ·have key : ∀ u i b, ¬ (u = t /\ i = 0) -> σ1.ob u i ≠ .none -> (h u i).u b -> (h' t 0).u b -> False := by
   intro u i b hc hn hb pj
   rw [ck] at pj
   rcases pj with pj | pj
   ·exact hc (r1.inj u i t 0 b hn nW hb pj)
   ·exact (oD b pj).2.2.2 u i hn hb
  by_cases hc : u = t /\ i = 0
  ·by_cases oL : u' = t /\ i' = 0
   ·exact ⟨hc.1.trans oL.1.symm, hc.2.trans oL.2.symm⟩
   ·obtain ⟨rfl, rfl⟩ := hc
    rw [mM u' i' oL] at pj
    exact (key u' i' b oL (ow u' i' oR) pj hb).elim
  ·rw [mM u i hc] at hb
   by_cases oL : u' = t /\ i' = 0
   ·obtain ⟨rfl, rfl⟩ := oL
    exact (key u i b hc (ow u i hn) hb pj).elim
   ·rw [mM u' i' oL] at pj
    exact r1.inj u i u' i' b (ow u i hn) (ow u' i' oR) hb pj
end
section
variable {P : Program} {σ : St} {k : Fr}
theorem wj {A : KD} {o : OpI} {l : Km} {d : Nat} {T : TypeId} {n : Nat} {parts : Array (Nat × Operand)} {news : List (List D)} {L : List (Nat × Nat)} (pP : o.o.op = .buildSlice T n parts) (hg : o.o.guard = none) (hd : o.o.dst = some d) (oQ : A.bar o.o = true)
  (h1 : (σ.fresh d = true /\ d < σ.length) /\ XW P T = true /\ Qg P (ZT P T) = true /\ 0 < P.cellsOf (ZT P T) /\ parts.toList.length = n /\ n * P.cellsOf (ZT P T) <= 16777216) (h2 : (Ku P σ (ZT P T) (P.cellsOf (ZT P T)) parts.toList 0).1)
  (h3 : YU d (Ku P σ (ZT P T) (P.cellsOf (ZT P T)) parts.toList 0).2.flatten = false)
  (h4 : KR (σ.new d (.one (.sref d 0 0 (Ku P σ (ZT P T) (P.cellsOf (ZT P T)) parts.toList 0).2.length)) [.lit (P.cellsOf (ZT P T)) (Ku P σ (ZT P T) (P.cellsOf (ZT P T)) parts.toList 0).2]) (Ku P σ (ZT P T) (P.cellsOf (ZT P T)) parts.toList 0).2 = some news /\
   Jv (σ.new d (.one (.sref d 0 0 (Ku P σ (ZT P T) (P.cellsOf (ZT P T)) parts.toList 0).2.length)) [.lit (P.cellsOf (ZT P T)) (Ku P σ (ZT P T) (P.cellsOf (ZT P T)) parts.toList 0).2]) (Ku P σ (ZT P T) (P.cellsOf (ZT P T)) parts.toList 0).2)
  (h5 : Yv (Ku P σ (ZT P T) (P.cellsOf (ZT P T)) parts.toList 0).2.flatten = L /\ L.Nodup /\ (d, 0) ∉ L)
  (h6 : ((σ.new d (.one (.sref d 0 0 (Ku P σ (ZT P T) (P.cellsOf (ZT P T)) parts.toList 0).2.length)) [.lit (P.cellsOf (ZT P T)) (Ku P σ (ZT P T) (P.cellsOf (ZT P T)) parts.toList 0).2]).Z9 L).zi (At.isP d) = false)
  (h : @EI P (((σ.new d (.one (.sref d 0 0 (Ku P σ (ZT P T) (P.cellsOf (ZT P T)) parts.toList 0).2.length)) [.lit (P.cellsOf (ZT P T)) (Ku P σ (ZT P T) (P.cellsOf (ZT P T)) parts.toList 0).2]).Z9 L).YC d 0 (.arr true (P.cellsOf (ZT P T)) news)) A l k) : @SI P σ A o l k := by
 refine ⟨_, .inr ⟨oQ, ?_, fun d' pd hc => JD (JG (Ux (fun e => pd (by rw [hd, e])) hc)), fun hh => by simp [Uc, pP] at hh, fun hh => by first | (simp [j8, pP] at hh; done) | (unfold j8 at hh; rw [pP] at hh; split at hh <;> simp_all), fun hh _ => by first | (simp [Kj, pP] at hh; done) | (unfold Kj at hh; rw [pP] at hh; split at hh <;> simp_all)⟩, Ja h⟩
 rintro T0 B a w K Q' ⟨X, hh, r⟩ hK
 have hw : Region.wanted o.o (yielded A.ops a.tmps) = true := by simp [Region.wanted, hg]
 rw [if_pos hw]
 refine RC r pP hd h1.1.1 h1.2.1 h1.2.2.1 h1.2.2.2.1 h1.2.2.2.2.1 h1.2.2.2.2.2 (L1 h2) h3 (fun a' w' hr cb => hK a' w' ?_ cb)
 obtain ⟨X', mM, r'⟩ := hr
 exact Rel.tD r' (by rw [St.Jx, if_pos ⟨rfl, h1.1.2⟩]; rfl) h4.1 h4.2 h5.1 h5.2.1 h5.2.2 h6
end
attribute [simp] At.isP
theorem Yx.own {P : Program} {f : FuncId} {args res : List (List D)} (hs : Yx P f args res) : Ql P f true args res := by
 refine ⟨hs.1, fun T w oF hT ha => (hs.2 T w oF hT ha).mono ?_⟩
 rintro e w' ⟨vs, oB, he, hb, hf, hl, ⟨hlen, Sk, h1, h2, h3⟩⟩
 refine ⟨vs, oB, fun b => (w.heap.size <= b /\ b < w'.heap.size) /\ ∀ (k : Nat) (c : Value) (d : D), oB.flatten[k]? = some c -> res.flatten[k]? = some d -> d.scalar = false -> blk c ≠ some b, he, hb, fun b hb => hb.1, hf, qV hl (fun k x d hx hd => ?_), fun _ => ⟨fun i c d b hc hd oz g9 => ?_, fun i j c c' d d' b hc hd oL pd oz fW g9 ay => ?_⟩⟩
 ·simp only [qC, if_true]
  have ho := h1 k x d hx hd
  cases ho with
  | int k n => exact .int _ _
  | bool b => exact .bool _
  | str s => exact .str _
  | unk v h => exact .unk _ h
  | sl v size rows S e' xs gj ho hz pj hl' hk gu pd =>
   refine ⟨e', xs, ho, hz, YB.xC hl' (fun i y dd hy nr => (hk i y dd hy nr).rd (fun b k' hb => .inr ⟨h2 k b (gu i b hb).1, fun k2 c2 d2 l7 l6 fC cf => ?_⟩))⟩
   have lH := h1 k2 c2 d2 l7 l6
   have gk : Sk k2 b := by
    cases lH with
    | int k n => cases fC
    | bool b => cases fC
    | str s => cases fC
    | unk => cases fC
    | sl v2 fU fV S2 e2 xs2 Sk2 lH bG oK gU hH pc cq => exact oK b cf
   have := h3 k k2 b (gu i b hb).1 gk
   subst this
   rw [hx] at l7; cases l7
   exact (gu i b hb).2 cf
 ·have lH := h1 i c d hc hd
  have gk : Sk i b := by
   cases lH with
   | int k n => cases oz
   | bool b => cases oz
   | str s => cases oz
   | unk => cases oz
   | sl v2 fU fV S2 e2 xs2 Sk2 lH bG oK gU hH pc cq => exact oK b g9
  have := h2 i b gk
  exact ⟨this.1, this.2, fun hy => hy.2 i c d hc hd oz g9⟩
 ·have gk : ∀ (i : Nat) (c : Value) (d : D), oB.flatten[i]? = some c -> res.flatten[i]? = some d -> d.scalar = false -> blk c = some b -> Sk i b := by
   intro i c d hc hd oz g9
   have lH := h1 i c d hc hd
   cases lH with
   | int k n => cases oz
   | bool b => cases oz
   | str s => cases oz
   | unk => cases oz
   | sl v2 fU fV S2 e2 xs2 Sk2 lH bG oK gU hH pc cq => exact oK b g9
  exact h3 i j b (gk i c d hc hd oz g9) (gk j c' d' oL pd fW ay)
end Go.Vm
namespace Go.Vm
open Go.RowKit
def FF (σ : St) (F : List (Nat × Nat)) : At -> At
 | .sref t j lo len => if inF F t j then (match σ.ob t j with | .arr _ s rows => .d (.sl s (cut rows lo len)) | _ => .any) else .sref t j lo len
 | .ptr t j i c => if inF F t j then .any else .ptr t j i c
 | .tref t j i c o => if inF F t j then .any else .tref t j i c o
 | x => x
def sT (σ : St) (F : List (Nat × Nat)) : V -> V
 | .one x => .one (FF σ F x)
 | .agg xs => .agg (xs.map (FF σ F))
 | .fix u (.one x) => .fix u (.one (FF σ F x))
 | .fix u (.agg xs) => .fix u (.agg (xs.map (FF σ F)))
 | _ => .any
def ud (σ : St) (F : List (Nat × Nat)) (t j : Nat) (o : Ob) : Ob :=
 if inF F t j then .none else match o with | .box cs => .box (cs.map (FF σ F)) | .lit _ _ => .none | o => o
def BE (σ : St) (F : List (Nat × Nat)) (t : Nat) : List Ob -> Nat -> List Ob
 | [], _ => []
 | o :: os, j => ud σ F t j o :: BE σ F t os (j + 1)
def NA (σ : St) (F : List (Nat × Nat)) : List Ent -> Nat -> List Ent
 | [], _ => []
 | e :: es, t => (sT σ F e.1, BE σ F t e.2 0) :: NA σ F es (t + 1)
def St.frz (σ : St) (F : List (Nat × Nat)) : St := NA σ F σ 0
theorem G3 {F : List (Nat × Nat)} : ∀ {σ0 : St} {es : List Ent} {t d : Nat}, XZ es d = true -> XZ (NA σ0 F es t) d = true
 | σ0, [], t, d, h => by simp [XZ] at h
 | σ0, e :: es, t, 0, h => by
  rw [qH] at h ⊢
  rcases h with h | ⟨x, h⟩
  ·left; simp only [List.getElem?_cons_zero, Option.some.injEq] at h; subst h; rfl
  ·right; simp only [List.getElem?_cons_zero, Option.some.injEq] at h; subst h; exact ⟨x, rfl⟩
 | σ0, e :: es, t, d + 1, h => by
  have : XZ es d = true := by rw [qH] at h ⊢; simpa using h
  have := G3 (F := F) (σ0 := σ0) (es := es) (t := t + 1) this
  rw [qH] at this ⊢
  simpa [NA] using this
section
variable {P : Program} {σ : St} {k : Fr}
theorem tr {A : KD} {o : OpI} {l : Km} {σ' : St} (oQ : A.bar o.o = true) (hw : Wk σ σ') (hc : ∀ d, XZ σ d = true -> XZ σ' d = true) (lq : Uc o.o = false) (aw : j8 o.o = false) (m7 : Kj P o.o = false \/ PR A.bar o.o = false) (h : @SI P σ' A o l k) : @SI P σ A o l k := by
 obtain ⟨σ'', hs, hr⟩ := h
 refine ⟨σ'', .inr ⟨oQ, fun T0 B a w K Q nF hK => Sc hs T0 B a w K Q (hw T0 B a w nF) hK, fun d hd oG => ?_, fun hh => (by rw [lq] at hh; cases hh), fun hh => (by rw [aw] at hh; cases hh), fun hh ho => (by rcases m7 with m7 | m7 <;> (first | (rw [m7] at hh; cases hh) | (rw [m7] at ho; cases ho)))⟩, hr⟩
 have h1 := hc d oG
 rcases hs with hs | hs
 ·exact Lt hs hd h1
 ·exact hs.2.2.1 d hd h1
theorem ui {A : KD} {o : OpI} {l : Km} (F : List (Nat × Nat)) (oQ : A.bar o.o = true) (hw : SF σ [] F σ (σ.frz F) 0) (h : @SI P (σ.frz F) A o l k) (lq : Uc o.o = false := by exact rfl) (aw : j8 o.o = false := by exact rfl) (m7 : Kj P o.o = false \/ PR A.bar o.o = false := by first | exact .inl rfl | exact .inr rfl) : @SI P σ A o l k :=
 tr oQ (X1 [] F rfl hw) (fun _ hd => G3 hd) lq aw m7 h
end
attribute [simp] FF sT ud BE NA St.frz
end Go.Vm
namespace Go.Vm
end Go.Vm
namespace Go.Vm
end Go.Vm
namespace Go.Vm
open Go.RowKit
abbrev ptr (b : Nat) : Value := .pointer (some ⟨b, 0, none⟩)
abbrev FK (T : CS) (w : World) (oF : List Value) (args : List (List D)) : Prop := YB (fun v row => ∃ cs, yC v cs /\ YB (Rd T w) cs row) oF args
def xO (n : Nat) (pre : List (List D)) (v : Value) (cells : List At) (nN : List Ob) (post : List (List D)) : St :=
 Pl pre ++ (.fix v (.one (.bptr pre.length 0)), .box cells :: nN) :: (Pl post ++ List.replicate (n - (pre.length + 1 + post.length)) (V.any, []))
section
variable {P : Program} {T0 : CS} {B : Nat -> Prop} {σ : St} {a : Act} {w w' : World} {X X' : Nat -> Prop} {h : Nat -> Nat -> Hd}
theorem AV (post : List (List D)) (m t : Nat) : ∃ x, (match (Pl post ++ List.replicate m ((V.any, []) : Ent))[t]? with | some e => e | none => (V.any, [])) = (x, []) /\ (x = .any \/ ∃ r, post[t]? = some r /\ x = vOf (r.map .d)) := by
 rcases Nat.lt_or_ge t post.length with h | h
 ·rw [List.getElem?_append_left (by rw [JB]; exact h), Sn, List.getElem?_eq_getElem h]
  exact ⟨_, rfl, .inr ⟨_, rfl, rfl⟩⟩
 ·rw [List.getElem?_append_right (by rw [JB]; exact h), List.getElem?_replicate]
  refine ⟨.any, ?_, .inl rfl⟩
  split
  ·rename_i e he
   split at he
   ·cases he; rfl
   ·cases he
  ·rfl
theorem w9 (n : Nat) (pre : List (List D)) (v : Value) (cells : List At) (nN : List Ob) (post : List (List D)) (t : Nat) :
  (t = pre.length /\ (xO n pre v cells nN post)[t]? = some (.fix v (.one (.bptr pre.length 0)), .box cells :: nN)) \/
  (t ≠ pre.length /\ (∀ j, (xO n pre v cells nN post).ob t j = .none) /\ ((xO n pre v cells nN post).get t = .any \/ ∃ r, (xO n pre v cells nN post).get t = vOf (r.map .d) /\ ((t < pre.length /\ pre[t]? = some r) \/ (pre.length < t /\ post[t - pre.length - 1]? = some r)))) := by
 rcases Nat.lt_trichotomy t pre.length with h | h | h
 ·refine .inr ⟨by omega, ?_⟩
  have : (xO n pre v cells nN post)[t]? = some (vOf (pre[t].map .d), []) := by
   unfold xO
   rw [List.getElem?_append_left (by rw [JB]; exact h), Sn, List.getElem?_eq_getElem h]; rfl
  refine ⟨fun j => by unfold St.ob; rw [this]; simp [Yo], .inr ⟨pre[t], by unfold St.get; rw [this], .inl ⟨h, List.getElem?_eq_getElem h⟩⟩⟩
 ·refine .inl ⟨h, ?_⟩
  unfold xO
  rw [List.getElem?_append_right (by rw [JB]; omega), JB, h, Nat.sub_self]; rfl
 ·refine .inr ⟨by omega, ?_⟩
  have e1 : (xO n pre v cells nN post)[t]? = (Pl post ++ List.replicate (n - (pre.length + 1 + post.length)) ((V.any, []) : Ent))[t - pre.length - 1]? := by
   unfold xO
   rw [List.getElem?_append_right (by rw [JB]; omega), JB, show t - pre.length = (t - pre.length - 1) + 1 by omega, List.getElem?_cons_succ]; rfl
  obtain ⟨x, hx, hr⟩ := AV post (n - (pre.length + 1 + post.length)) (t - pre.length - 1)
  rw [<- e1] at hx
  constructor
  ·intro j
   unfold St.ob
   cases hq : (xO n pre v cells nN post)[t]? with
   | none => rfl
   | some e => rw [hq] at hx; simp only at hx; rw [hx]; simp [Yo]
  ·have hg : (xO n pre v cells nN post).get t = x := by
    unfold St.get
    cases hq : (xO n pre v cells nN post)[t]? with
    | none => rw [hq] at hx; simp only at hx; injection hx
    | some e => rw [hq] at hx; simp only at hx; rw [hx]
   rcases hr with rfl | ⟨r, hr, rfl⟩
   ·exact .inl hg
   ·exact .inr ⟨r, hg, .inr ⟨h, hr⟩⟩
theorem Gt {T : CS} {S : Nat -> Prop} {n b : Nat} {pre post : List (List D)} {cells : List At} {nN : List Ob} {nE nS : List Value} (hd : Nat -> Hd)
  (hT : ∀ k i, T k i -> k < w.heap.size /\ k ≠ b /\ ¬ S k) (hS : ∀ k, S k -> k < w.heap.size /\ k ≠ b) (hb : b < w.heap.size) (h0 : hd 0 = Hd.of (ptr b))
  (nt : ∀ (h : Nat -> Nat -> Hd) (ob : Nat -> Nat -> Ob), (∀ j, h pre.length j = hd j) -> (∀ j, ob pre.length j = Yo (.box cells :: nN) j) -> J3 (Tof T (fun _ => False)) h ob w (hd 0) (.box cells))
  (ov : ∀ (h : Nat -> Nat -> Hd) (ob : Nat -> Nat -> Ob) (j : Nat), J3 (Tof T (fun _ => False)) h ob w (hd (j + 1)) (Yo nN j))
  (oo : ∀ j k, Yo nN j ≠ .none -> blk (hd (j + 1)).v = some k -> (hd (j + 1)).u k) (pY : ∀ j k, Yo nN j ≠ .none -> (hd (j + 1)).u k -> S k)
  (gR : ∀ i j k, Yo nN i ≠ .none -> Yo nN j ≠ .none -> (hd (i + 1)).u k -> (hd (j + 1)).u k -> i = j) (dz : FK T w nE pre) (ha2 : FK T w nS post) :
  KF T (fun k => k < w.heap.size /\ k ≠ b /\ ¬ S k) (xO n pre (ptr b) cells nN post) { tmps := (nE ++ ptr b :: nS).toArray ++ Array.replicate (n - (nE ++ ptr b :: nS).toArray.size) undef, defers := [] } w := by
 have dw := dz.length
 have gU := ha2.length
 have mI := w9 n pre (ptr b) cells nN post
 have nB : ∀ j, (xO n pre (ptr b) cells nN post).ob pre.length j = Yo (.box cells :: nN) j := by
  intro j
  rcases mI pre.length with ⟨_, h⟩ | ⟨h, _⟩
  ·unfold St.ob; rw [h]
  ·exact absurd rfl h
 have gf : ∀ t j, (xO n pre (ptr b) cells nN post).ob t j ≠ .none -> t = pre.length := by
  intro t j hn
  rcases mI t with ⟨h, _⟩ | ⟨_, h, _⟩
  ·exact h
  ·exact absurd (h j) hn
 have hD : ∀ b k v, T b k -> w.cell? ⟨b, k, none⟩ = some v -> w.cell? ⟨b, k, none⟩ = some v /\ Tof T (fun _ => False) b k := fun b k v hb hc => ⟨hc, .inl hb⟩
 have ea : ∀ k, (hd 0).u k ↔ k = b := fun k => by rw [h0]; simp [Hd.of, blk, eq_comm]
 have oe : ∀ j, Yo (.box cells :: nN) j ≠ .none -> (j = 0 \/ ∃ i, j = i + 1 /\ Yo nN i ≠ .none) := by
  intro j hn
  cases j with
  | zero => exact .inl rfl
  | succ j => exact .inr ⟨j, rfl, by rw [kH] at hn; exact hn⟩
 have ax : ∀ j k, Yo (.box cells :: nN) j ≠ .none -> (hd j).u k -> k = b \/ S k := by
  intro j k hn hu
  rcases oe j hn with rfl | ⟨i, rfl, hi⟩
  ·exact .inl ((ea k).1 hu)
  ·exact .inr (pY i k hi hu)
 have fT : ∀ {oF : List Value} {args : List (List D)} {t : Nat} {r : List D}, FK T w oF args -> args[t]? = some r -> ∃ v, oF[t]? = some v /\ Qy (Tof T (fun _ => False)) (fun t j => if t = pre.length then hd j else Hd.of undef) (xO n pre (ptr b) cells nN post).ob w (vOf (r.map .d)) v := by
  intro oF args t r ha hr
  obtain ⟨v, hv, cs, hf, pV⟩ := ha.get' t r hr
  exact ⟨v, hv, (Lg hf (W4 (pV.imp fun _ _ => Rd.mono hD))).up⟩
 refine ⟨fun _ => False, fun t j => if t = pre.length then hd j else Hd.of undef, ?_⟩
 refine ⟨?_, rfl, (fun k hk => hk.1), (fun b hb => hb.elim), (fun k i hk => hT k i hk), fun t ht => ?_, fun t j => ?_, fun t j k hn hk => ?_, fun t j k hn hk => ?_, fun t j t' j' k hn oR hk nH => ?_⟩
 ·simp [xO, JB, dw, gU]; omega
 ·rcases mI t with ⟨rfl, h⟩ | ⟨pS, _, h⟩
  ·have nv : ((nE ++ ptr b :: nS).toArray ++ Array.replicate (n - (nE ++ ptr b :: nS).toArray.size) undef).getD pre.length undef = ptr b := by
    rw [Array.getD_eq_getD_getElem?, Array.getElem?_append_left (by simp; omega)]
    simp [<- dw]
   rw [nv]
   unfold St.get; rw [h]
   exact ⟨rfl, rfl, fun pZ _ => ⟨b, by simp [h0, Hd.of], rfl⟩⟩
  ·rcases h with h | ⟨r, h, hr⟩
   ·rw [h]; trivial
   ·rw [h]
    rcases hr with ⟨pa, hr⟩ | ⟨pa, hr⟩
    ·obtain ⟨v, hv, nF⟩ := fT dz hr
     have nv : ((nE ++ ptr b :: nS).toArray ++ Array.replicate (n - (nE ++ ptr b :: nS).toArray.size) undef).getD t undef = v := by
      rw [Array.getD_eq_getD_getElem?, Array.getElem?_append_left (by simp; omega)]
      simp [List.getElem?_append_left (show t < nE.length by omega), hv]
     simp only [nv]; exact nF
    ·obtain ⟨v, hv, nF⟩ := fT ha2 hr
     have aA := (List.getElem?_eq_some_iff.1 hv).1
     have nv : ((nE ++ ptr b :: nS).toArray ++ Array.replicate (n - (nE ++ ptr b :: nS).toArray.size) undef).getD t undef = v := by
      rw [Array.getD_eq_getD_getElem?, Array.getElem?_append_left (by simp; omega)]
      simp only [List.getElem?_toArray]
      rw [List.getElem?_append_right (by omega), show t - nE.length = (t - pre.length - 1) + 1 by omega, List.getElem?_cons_succ, hv]; rfl
     simp only [nv]; exact nF
 ·by_cases hn : (xO n pre (ptr b) cells nN post).ob t j = .none
  ·rw [hn]; trivial
  ·obtain rfl := gf t j hn
   rw [nB]
   simp only [if_true]
   cases j with
   | zero => exact nt _ _ (fun j => by simp) nB
   | succ j => rw [kH]; exact ov _ _ j
 ·obtain rfl := gf t j hn
  rw [nB] at hn
  simp only [if_true] at hk ⊢
  rcases oe j hn with rfl | ⟨i, rfl, hi⟩
  ·rw [h0] at hk ⊢; exact hk
  ·exact oo i k hi hk
 ·obtain rfl := gf t j hn
  rw [nB] at hn
  simp only [if_true] at hk
  rcases ax j k hn hk with rfl | hs
  ·exact ⟨fun hh => hh.2.1 rfl, fun hh => hh, hb⟩
  ·exact ⟨fun hh => hh.2.2 hs, fun hh => hh, (hS k hs).1⟩
 ·obtain rfl := gf t j hn
  obtain rfl := gf t' j' oR
  rw [nB] at hn oR
  simp only [if_true] at hk nH
  refine ⟨rfl, ?_⟩
  rcases oe j hn with rfl | ⟨i, rfl, hi⟩
  ·rcases oe j' oR with rfl | ⟨i', rfl, o9⟩
   ·rfl
   ·exact absurd ((ea k).1 hk) (hS k (pY i' k o9 nH)).2
  ·rcases oe j' oR with rfl | ⟨i', rfl, o9⟩
   ·exact absurd ((ea k).1 nH) (hS k (pY i k hi hk)).2
   ·rw [gR i i' k hi o9 hk nH]
end
end Go.Vm
namespace Go.Vm
open Go.RowKit
def uW (dp : Bool) (T : CS) (w : World) (b : Nat) (pU : List D) (res : List (List D)) (e : Ending) (w' : World) : Prop :=
 ∃ (vs : List Value) (oB : List (List Value)) (Y : Nat -> Prop), e = .returned (Sw vs) /\ XI (fun k => k < w.heap.size /\ k ≠ b) w w' /\ (∀ k, Y k -> w.heap.size <= k /\ k < w'.heap.size) /\
  (∃ cs e', w'.heap[b]? = some (.cells cs e' (0, 0)) /\ YB (Rd (Tof T Y) w') cs.toList pU) /\ YB yC vs oB /\ YB (fun (cs : List Value) (row : List D) => cs.length = row.length) oB res /\
  (if dp then KM w' oB.flatten res.flatten (fun k => w.heap.size <= k /\ k < w'.heap.size /\ ¬ Y k) else YB (fun cs row => YB (Rd (Tof T Y) w') cs row) oB res)
def xY (P : Program) (f : FuncId) (dp : Bool) (row : List D) (args : List (List D)) (pU : List D) (res : List (List D)) : Prop :=
 Ua P f = true /\ ∀ (T : CS) (w : World) (b : Nat) (oF : List Value), (∀ k i, T k i -> k < w.heap.size /\ k ≠ b) -> b < w.heap.size -> (∃ cs e, w.heap[b]? = some (.cells cs e (0, 0)) /\ YB (Rd T w) cs.toList row) ->
  FK T w oF args -> Calls P f (ptr b :: oF).toArray w (uW dp T w b pU res)
def u9 (P : Program) (fn : Func) (v : Value) (dp : Bool) (pU : List D) (res : List (List D)) (e : Exit) (σ : St) : Prop :=
 (e = .ret \/ e = .normal) /\ (∃ nN, σ.head? = some (.fix v (.one (.bptr 0 0)), .box (pU.map .d) :: nN)) /\ ∃ ox, TT P σ fn.results.toList ox /\
  (if dp then KR σ ox = some res /\ Jv σ ox /\ (Yv ox.flatten).Nodup else kI σ ox = some res)
def NO (P : Program) (f : FuncId) (args : List (List D)) (pU : List D) : Prop :=
 Ua P f = true /\ ∀ (T : CS) (w : World) (oF : List Value), (∀ k i, T k i -> k < w.heap.size) -> FK T w oF args ->
  Calls P f oF.toArray w fun e w' => ∃ b Y, e = .returned (ptr b) /\ Below w.heap.size w w' /\ w.heap.size <= b /\ b < w'.heap.size /\ (∀ k, Y k -> w.heap.size <= k /\ k < w'.heap.size /\ k ≠ b) /\ ∃ cs e', w'.heap[b]? = some (.cells cs e' (0, 0)) /\ YB (Rd (Tof T Y) w') cs.toList pU
def tb (P : Program) (fn : Func) (pU : List D) (e : Exit) (σ : St) : Prop :=
 (e = .ret \/ e = .normal) /\ ∃ u, TT P σ fn.results.toList [[.bptr u 0]] /\ σ.ob u 0 = .box (pU.map .d)
section
variable {P : Program} {T0 : CS} {B : Nat -> Prop} {σ : St} {a : Act} {w w' : World} {X X' : Nat -> Prop} {h : Nat -> Nat -> Hd}
theorem S5 {T : CS} {ob : Nat -> Nat -> Ob} : ∀ {row : List D} {cs : List Value}, YB (YO T h ob w) (row.map .d) cs -> YB (Rd T w) cs row
 | [], _, pV => by cases pV; exact .nil
 | _ :: _, _, pV => by cases pV with | cons h1 h2 => exact .cons h1 (S5 h2)
theorem Gb {f : FuncId} {fn : Func} {c : Code} (hf : P.funcs[f]? = some fn) (hb : fn.body = some c) (po : Ua P f = true) {dp : Bool} {row : List D} {args : List (List D)} {pU : List D} {res : List (List D)}
  (hw : ∀ v, AWP P c (u9 P fn v dp pU res) (xO fn.ntmps [] v (row.map .d) [] args)) : xY P f dp row args pU res := by
 refine ⟨po, fun T w b oF hT pj ⟨az, e0, cB, eD⟩ pX => calls_of_wp hf hb ?_⟩
 have iY := Gt (w := w) (T := T) (S := fun _ => False) (n := fn.ntmps) (b := b) (pre := []) (post := args) (cells := row.map .d) (nN := []) (nE := []) (nS := oF) (fun _ => Hd.of (ptr b))
  (fun k i hk => ⟨(hT k i hk).1, (hT k i hk).2, fun hh => hh⟩) (fun k hk => hk.elim) pj rfl
  (fun h ob _ _ => ⟨b, az, e0, rfl, cB, W4 (eD.imp fun _ _ => Rd.mono (fun b k v hb hc => ⟨hc, .inl hb⟩))⟩) (fun h ob j => by simp [Yo, J3]) (fun j k hn => by simp [Yo] at hn) (fun j k hn => by simp [Yo] at hn) (fun i j k hn => by simp [Yo] at hn) .nil pX
 simp only [List.nil_append] at iY
 refine wp_mono (hw (ptr b) T _ _ w iY) ?_
 rintro e a' w' ⟨σ', ⟨he, ⟨nN, gT⟩, ox, nK, pb⟩, ⟨X, h, r⟩, pg⟩
 obtain ⟨vs, oB, pq, oI, pV⟩ := WO r nK
 have o5 : 0 < σ'.length := by
  cases σ' with
  | nil => simp at gT
  | cons e σ => simp
 have dA : σ'.get 0 = .fix (ptr b) (.one (.bptr 0 0)) := by
  cases σ' with
  | nil => simp at gT
  | cons e σ => simp at gT; simp [St.get, gT]
 have oc : σ'.ob 0 0 = .box (pU.map .d) := by
  cases σ' with
  | nil => simp at gT
  | cons e σ => simp at gT; simp [St.ob, gT, Yo]
 have lp := r.slot 0 o5
 rw [dA] at lp
 obtain ⟨eY, nb⟩ := lp
 obtain ⟨b1, og, oa⟩ := nb.2 _ oc
 rw [eY] at oa
 have nu : b1 = b := by injection oa with oa; injection oa with oa; injection oa with oa; exact oa.symm
 subst nu
 have oe := r.obj 0 0
 rw [oc] at oe
 obtain ⟨b2, iI, e', oK, mM, m3⟩ := oe
 rw [og] at oK
 have nu : b2 = b1 := by injection oK with oK; injection oK with oK; injection oK with oK; exact oK.symm
 subst nu
 have gh : XI (fun k => k < w.heap.size /\ k ≠ b2) w w' := ⟨pg.os, pg.tape, pg.output, pg.size, fun k hk => pg.block k ⟨hk.1, hk.2, fun hh => hh⟩⟩
 have hnX : ∀ k, X k -> k = b2 -> False := by
  rintro k hx rfl
  have oo := r.ub 0 0 k (by rw [oc]; simp) (by rw [og]; rfl)
  exact (r.own 0 0 k (by rw [oc]; simp) oo).2.1 hx
 have hXn : ∀ k, X k -> w.heap.size <= k /\ k < w'.heap.size := by
  intro k hk
  have h1 := r.hX k hk
  refine ⟨?_, h1.2⟩
  rcases Nat.lt_or_ge k w.heap.size with pa | mY
  ·exact absurd ⟨pa, fun hh => hnX k hk hh, fun hh => hh⟩ h1.1
  ·exact mY
 have goal : a'.defers = [] /\ ∃ v, (results fn a'.tmps).run P w' = .ok v w' /\ uW dp T w b2 pU res (.returned v) w' := by
  refine ⟨r.defers, _, pq, ?_⟩
  cases dp with
  | true =>
   simp only [if_true] at pb
   obtain ⟨nU, ng, oW⟩ := pb
   refine ⟨vs, oB, X, rfl, gh, hXn, ⟨iI, e', mM, S5 m3⟩, oI, ?_, ?_⟩
   ·clear oW ng nK pq oI hw
    induction pV generalizing res with
    | nil => simp [KR] at nU; subst nU; exact .nil
    | cons h1 _ ih =>
     simp only [KR] at nU
     split at nU
     ·rename_i row rs oC mE
      cases nU
      exact .cons (by rw [<- h1.length]; exact (xw oC).1) (ih mE)
     ·cases nU
   ·simp only [if_true]
    refine (RJ r (xy pV) (xj nU).1 (y3 ng) oW).mono (fun k hk => ?_)
    have hg := r.xJ _ k hk
    refine ⟨?_, hg.2.2.1, hg.2.1⟩
    rcases Nat.lt_or_ge k w.heap.size with pa | mY
    ·refine absurd ⟨pa, ?_, fun hh => hh⟩ hg.1
     rintro rfl
     obtain ⟨p, hp, pS, hu⟩ := hk
     have oo := r.ub 0 0 k (by rw [oc]; simp) (by rw [og]; rfl)
     obtain ⟨e1, e2⟩ := r.inj p.1 p.2 0 0 k pS (by rw [oc]; simp) hu oo
     obtain ⟨i, lo, len, hx⟩ := RZ hp
     have hm := RF (y3 ng) i _ hx
     rw [e1, e2] at hm
     obtain ⟨d, hd, cj⟩ := (YB.get (R := fun x d => mvD σ' x = some d) (YB.xC (xw (xj nU).1).1 (fun i a b h1 h2 => (xw (xj nU).1).2 i a b h1 h2)) i _ hx)
     rw [e1, e2] at cj
     simp [mvD, oc] at cj
    ·exact mY
  | false =>
   simp only [Bool.false_eq_true, if_false] at pb
   refine ⟨vs, oB, fun k => w.heap.size <= k /\ k < w'.heap.size, rfl, gh, fun k hk => hk, ⟨iI, e', mM, (S5 m3).imp fun _ _ => Rd.mono (fun k i v hk hc => ⟨hc, ?_⟩)⟩, oI, ?_, ?_⟩
   ·rcases hk with hk | hk
    ·exact .inl hk
    ·exact .inr (hXn k hk)
   ·clear nK pq oI hw
    induction pV generalizing res with
    | nil => simp [kI] at pb; subst pb; exact .nil
    | cons h1 _ ih =>
     simp only [kI] at pb
     split at pb
     ·rename_i row rs oC mE
      cases pb
      exact .cons ((r.rowOf false oC h1 (fun hh => by cases hh)).length) (ih mE)
     ·cases pb
   ·simp only [Bool.false_eq_true, if_false]
    refine TF r (fun k i hk => ?_) pb pV
    rcases hk with hk | ⟨t, j, q, size, rows, ho, hk⟩
    ·rcases hk with hk | hk
     ·exact .inl hk
     ·exact .inr (hXn k hk)
    ·have pS : σ'.ob t j ≠ .none := by rw [ho]; simp
     have pY := r.own t j k pS hk
     refine .inr ⟨?_, pY.2.2⟩
     rcases Nat.lt_or_ge k w.heap.size with pa | mY
     ·refine absurd ⟨pa, ?_, fun hh => hh⟩ pY.1
      rintro rfl
      have oo := r.ub 0 0 k (by rw [oc]; simp) (by rw [og]; rfl)
      obtain ⟨e1, e2⟩ := r.inj t j 0 0 k pS (by rw [oc]; simp) hk oo
      rw [e1, e2, oc] at ho; cases ho
     ·exact mY
 rcases he with rfl | rfl
 ·exact goal
 ·exact goal
theorem Hy {f : FuncId} {fn : Func} {c : Code} (hf : P.funcs[f]? = some fn) (hb : fn.body = some c) (po : Ua P f = true) {args : List (List D)} {pU : List D}
  (hw : AWP P c (tb P fn pU) (jQ fn.ntmps args)) : NO P f args pU := by
 refine ⟨po, fun T w oF hT pX => calls_of_wp hf hb ?_⟩
 refine wp_mono (hw T (fun b => b < w.heap.size) _ w (IB hT pX)) ?_
 rintro e a' w' ⟨σ', ⟨he, u, nK, eZ⟩, ⟨X, h, r⟩, pg⟩
 have nL : Below w.heap.size w w' := ⟨pg.os, pg.tape, pg.output, pg.size, pg.block⟩
 obtain ⟨vs, oB, pq, oI, pV⟩ := WO r nK
 cases pV with
 | cons h1 pV =>
  cases pV
  cases h1 with
  | @cons _ c0 _ _ hx h1 =>
   cases h1
   cases oI with
   | @cons v0 _ _ _ hu hn =>
    cases hn
    have nX : v0 = c0 := by
     rcases hu with ⟨c', dI, rfl, _⟩ | ⟨hn, _⟩
     ·cases dI; rfl
     ·simp at hn
    subst nX
    obtain ⟨b, og, hv⟩ := hx.2 _ eZ
    have oe := r.obj u 0
    rw [eZ] at oe
    obtain ⟨b2, iI, e', oK, mM, m3⟩ := oe
    rw [og] at oK
    have nu : b2 = b := by injection oK with oK; injection oK with oK; injection oK with oK; exact oK.symm
    subst nu
    have pS : σ'.ob u 0 ≠ .none := by rw [eZ]; simp
    have oo := r.ub u 0 b2 pS (by rw [og]; rfl)
    have pY := r.own u 0 b2 pS oo
    have goal : a'.defers = [] /\ ∃ v, (results fn a'.tmps).run P w' = .ok v w' /\ ∃ b Y, Ending.returned v = .returned (ptr b) /\ Below w.heap.size w w' /\ w.heap.size <= b /\ b < w'.heap.size /\ (∀ k, Y k -> w.heap.size <= k /\ k < w'.heap.size /\ k ≠ b) /\ ∃ cs e', w'.heap[b]? = some (.cells cs e' (0, 0)) /\ YB (Rd (Tof T Y) w') cs.toList pU := by
     refine ⟨r.defers, _, pq, b2, X, by rw [hv]; rfl, nL, by have := pY.1; omega, pY.2.2, fun k hk => ?_, iI, e', mM, S5 m3⟩
     have nH := r.hX k hk
     refine ⟨by have := nH.1; omega, nH.2, ?_⟩
     rintro rfl
     exact pY.2.1 hk
    rcases he with rfl | rfl
    ·exact goal
    ·exact goal
end
end Go.Vm
namespace Go.Vm
open Go.RowKit
section
variable {P : Program} {T0 : CS} {B : Nat -> Prop} {σ : St} {a : Act} {w w' : World} {X X' : Nat -> Prop} {h : Nat -> Nat -> Hd}
theorem Bh {T : CS} {ob : Nat -> Nat -> Ob} {hd : Hd} {size : Nat} {rows : List (List D)} (hr : J3 T h ob w hd (.arr true size rows)) (hf : ∀ r ∈ rows, ∀ x ∈ r, x.scalar = true) : J3 T h ob w hd (.arr false size rows) := by
 obtain ⟨e, xs, ho, hz, ⟨hl, Sk, hk, _, _⟩, _⟩ := hr
 refine ⟨e, xs, ho, hz, YB.xC hl (fun k x d hx hd => ?_)⟩
 obtain ⟨r0, mb, hdr⟩ := List.mem_flatten.1 (List.mem_of_getElem? hd)
 have oz := hf r0 mb d hdr
 have := hk k x d hx hd
 cases this with
 | int k n => exact .int _ _
 | bool b => exact .bool _
 | str s => exact .str _
 | unk v h => exact .unk _ h
 | sl => cases oz
theorem Rel.tT (r : Rel T0 B σ a w X h) {d : Nat} (hf : σ.fresh d = true) (M : Nat -> Prop) (hM : ∀ b, M b -> ¬ B b /\ ¬ X b /\ b < w.heap.size /\ ∀ t j, σ.ob t j ≠ .none -> ¬ (h t j).u b) {vs : List Value} {oB : List (List Value)} {res : List (List D)} (qs : List Bool)
  (oI : YB yC vs oB) (hlen : YB (fun (cs : List Value) (row : List D) => cs.length = row.length) oB res) (pY : KM w oB.flatten res.flatten M) (hq : yk qs res.flatten) : KF T0 B (σ.new d (jN d res) (YS qs res.flatten)) (a.put (some d) (Sw vs)) w := by
 have pa := St.yh hf
 obtain ⟨iu, Sk, k1, k2, k3, k4⟩ := EL pY
 have pr : ∀ j, (σ.new d (jN d res) (YS qs res.flatten)).ob d j = Yo (YS qs res.flatten) j := fun j => by rw [St.Jx]; simp [pa]
 have htop := pY.top (T := Tof T0 X)
 have na : YB (fun cs row => YB (ke (Tof T0 X) w) cs row) oB res := qV hlen (fun k x d hx hd => by
  obtain ⟨c, hc, ht⟩ := htop.get' k d hd
  rw [hx] at hc; cases hc; exact ht)
 refine ⟨X, fun t j => if t = d then iu j else h t j, ?_⟩
 refine r.vr hf M (Nat.le_refl _) (fun _ _ _ => rfl) (fun b hb => ⟨(hM b hb).1, (hM b hb).2.1, fun t j _ hn => (hM b hb).2.2.2 t j hn⟩) (fun b hb => hb) (fun b hb => .inl hb) (jN d res) (Sw vs) (YS qs res.flatten) iu ?_ (fun j => ?_) (fun j b pS hb => ?_) (fun j b pS hb => ?_) (fun j j' b pS oU hb pj => ?_)
 ·exact Is (h := fun t j => if t = d then iu j else h t j) (ob := (σ.new d (jN d res) (YS qs res.flatten)).ob) (t := d) oI na (fun i size rows hi => by
   obtain ⟨q, nc, _⟩ := (Yr qs res.flatten i hq).1 size rows hi
   exact ⟨q, by rw [pr]; exact nc⟩) (fun i c hi => by simp only [if_true]; exact k1 i c hi)
 ·by_cases pS : Yo (YS qs res.flatten) j = .none
  ·rw [pS]; trivial
  ·obtain ⟨size, rows, hj⟩ := (Yr qs res.flatten j hq).2 pS
   obtain ⟨q, nc, cP⟩ := (Yr qs res.flatten j hq).1 size rows hj
   rw [nc]
   have := (k4 j size rows hj).2.2 (Tof T0 X) (fun t j => if t = d then iu j else h t j) (σ.new d (jN d res) (YS qs res.flatten)).ob
   cases q with
   | true => exact this
   | false => exact Bh this (cP rfl)
 ·obtain ⟨size, rows, hj⟩ := (Yr qs res.flatten j hq).2 pS
  exact (k4 j size rows hj).2.1 b hb
 ·obtain ⟨size, rows, hj⟩ := (Yr qs res.flatten j hq).2 pS
  have := k2 j b ((k4 j size rows hj).1 b hb)
  exact ⟨.inr this, (hM b this).2.1, (hM b this).2.2.1⟩
 ·obtain ⟨size, rows, hj⟩ := (Yr qs res.flatten j hq).2 pS
  obtain ⟨oA, ph, mO⟩ := (Yr qs res.flatten j' hq).2 oU
  exact k3 j j' b ((k4 j size rows hj).1 b hb) ((k4 j' oA ph mO).1 b pj)
theorem Rel.AB (r : Rel T0 B σ a w X h) {t b : Nat} {cells : List At} {pU : List D} (ho : σ.ob t 0 = .box cells) (hv : (h t 0).v = ptr b) (oy : w.heap.size <= w'.heap.size) (hw : ∀ k, k < w.heap.size -> k ≠ b -> w'.heap[k]? = w.heap[k]?)
  (hX : ∀ b, X b -> X' b) (hO : ∀ b, X' b -> X b \/ (w.heap.size <= b /\ b < w'.heap.size)) (ld : ∃ cs e, w'.heap[b]? = some (.cells cs e (0, 0)) /\ YB (Rd (Tof T0 X') w') cs.toList pU) : Rel T0 B (σ.YC t 0 (.box (pU.map .d))) a w' X' h := by
 have pr : σ.ob t 0 ≠ .none := by rw [ho]; simp
 have oX : blk (h t 0).v = some b := by rw [hv]; rfl
 have oo := r.ub t 0 b pr oX
 have cm := r.own t 0 b pr oo
 have hT : ∀ k i v, Tof T0 X k i -> w.cell? ⟨k, i, none⟩ = some v -> w'.cell? ⟨k, i, none⟩ = some v /\ Tof T0 X' k i := by
  intro k i v hk hc
  refine ⟨?_, hk.imp id (hX k)⟩
  have pS : k ≠ b := by
   rintro rfl
   rcases hk with hk | hk
   ·exact cm.1 (r.hT _ _ hk)
   ·exact cm.2.1 hk
  rw [World.cell?_of_block (hw k (r.Tlt hk) pS)]; exact hc
 have ov : ∀ u i, ¬ (u = t /\ i = 0) -> (σ.YC t 0 (.box (pU.map .d))).ob u i = σ.ob u i := by
  intro u i pS
  rw [St.JC σ t 0 _ u i pr, if_neg pS]
 have oh : (σ.YC t 0 (.box (pU.map .d))).ob t 0 = .box (pU.map .d) := by rw [St.JC σ t 0 _ t 0 pr]; simp
 have ah : ∀ u i, Cpt h h σ.ob (σ.YC t 0 (.box (pU.map .d))).ob u i := by
  intro u i
  by_cases hu : u = t /\ i = 0
  ·obtain ⟨rfl, rfl⟩ := hu
   refine ⟨fun q size rows pv => ?_, fun size rows pv => ?_, fun pZ pv => ⟨rfl, cells, ho⟩⟩
   ·rw [oh] at pv; cases pv
   ·rw [oh] at pv; cases pv
  ·exact Cpt.same rfl (ov u i hu)
 have at_ : ∀ {x : At} {v : Value}, (fun _ => false : At -> Bool) x = false -> YO (Tof T0 X) h σ.ob w x v -> YO (Tof T0 X') h (σ.YC t 0 (.box (pU.map .d))).ob w' x v := fun _ rx => YO.wS hT ah rx
 have ow : ∀ u i, (σ.YC t 0 (.box (pU.map .d))).ob u i ≠ .none -> σ.ob u i ≠ .none := by
  intro u i hn
  by_cases hu : u = t /\ i = 0
  ·obtain ⟨rfl, rfl⟩ := hu; exact pr
  ·rw [ov u i hu] at hn; exact hn
 refine ⟨by rw [r.size, St.Xa], r.defers, fun b hb => Nat.lt_of_lt_of_le (r.hB b hb) oy, fun k hk => ?_, r.hT, fun u hu => ?_, fun u i => ?_, fun u i k hn => r.ub u i k (ow u i hn), fun u i k hn hk => ?_, fun u i u' i' k hn oR => r.inj u i u' i' k (ow u i hn) (ow u' i' oR)⟩
 ·rcases hO k hk with hk | hk
  ·have := r.hX k hk; exact ⟨this.1, by omega⟩
  ·exact ⟨fun nu => by have := r.hB k nu; omega, hk.2⟩
 ·rw [St.Xa] at hu
  rw [St.QL]; exact Qy.map at_ (qw _) (r.slot u hu)
 ·by_cases hu : u = t /\ i = 0
  ·obtain ⟨rfl, rfl⟩ := hu
   rw [oh]
   obtain ⟨cs, e, hh, pV⟩ := ld
   exact ⟨b, cs, e, hv, hh, W4 pV⟩
  ·rw [ov u i hu]
   exact J3.map at_ hT (fun ho b => r.ub u i b ho) (fun hn k hk => hw k (r.own u i k hn hk).2.2 (fun e => by
    rw [e] at hk
    obtain ⟨e1, e2⟩ := r.inj u i t 0 b hn pr hk oo
    exact hu ⟨e1, e2⟩)) (Wo _) (r.obj u i)
 ·have := r.own u i k (ow u i hn) hk
  refine ⟨this.1, fun hx => ?_, by omega⟩
  rcases hO k hx with hx | hx
  ·exact this.2.1 hx
  ·omega
def Db (dp : Bool) (σ : St) (d : Nat) (res : List (List D)) (qs : List Bool) : St := match dp with | true => σ.new d (jN d res) (YS qs res.flatten) | false => σ.put d (qL res)
theorem MR (r : Rel T0 B σ a w X h) {o : Oper} {cl : Call} {f : FuncId} {d : Nat} {x0 : Operand} {xs : List Operand} {t0 : TypeId} {ts : List TypeId} {pf res : List (List D)} {row pU : List D} {dp : Bool} (qs : List Bool) (pP : o.op = .call cl) (hc : cl.callee = .value (.func f)) (hd : o.dst = some d)
  (ha : cl.args.toList = x0 :: xs) {t : Nat} (hg : gOf (look P σ t0 x0) = true) (hx : unc (look P σ t0 x0) = .one (.bptr t 0)) (ho : σ.ob t 0 = .box (row.map .d)) (pX : Qd P σ xs ts pf) (pt : YY P σ xs ts = true) (hs : xY P f dp row pf pU res)
  (ot : dp = true -> (σ.YC t 0 (.box (pU.map .d))).fresh d = true /\ yk qs res.flatten)
  {K : Act -> World -> Prop} {Q : Exit -> Act -> World -> Prop} (hK : ∀ a' w', KF T0 B (Db dp (σ.YC t 0 (.box (pU.map .d))) d res qs) a' w' -> XI B w w' -> K a' w') : o.wp P a w K Q := by
 have pr : σ.ob t 0 ≠ .none := by rw [ho]; simp
 have har := r.arg (P := P) t0 x0 hx hg
 obtain ⟨b, og, hv⟩ := har.2 _ ho
 have oe := r.obj t 0
 rw [ho] at oe
 obtain ⟨b2, cs, e, oK, hh, pV⟩ := oe
 rw [og] at oK
 have nu : b2 = b := by injection oK with oK; injection oK with oK; injection oK with oK; exact oK.symm
 subst nu
 have oX : blk (h t 0).v = some b2 := by rw [og]; rfl
 have oo := r.ub t 0 b2 pr oX
 have pY := r.own t 0 b2 pr oo
 have mD := r.Qd true pX (fun _ => pt)
 simp only [if_true] at mD
 unfold Oper.wp
 rw [Vl pP hc hs.1, Oper.upon_enter]
 rw [show (cl.args.toList.map a.eval).toArray = (ptr b2 :: xs.map a.eval).toArray by rw [ha]; simp [hv]]
 have hT : ∀ k i, Tof T0 X k i -> k < w.heap.size /\ k ≠ b2 := by
  intro k i hk
  refine ⟨r.Tlt hk, ?_⟩
  rintro rfl
  rcases hk with hk | hk
  ·exact pY.1 (r.hT _ _ hk)
  ·exact pY.2.1 hk
 refine (hs.2 (Tof T0 X) w b2 _ hT pY.2.2 ⟨cs, e, hh, S5 pV⟩ mD).mono ?_
 rintro e' w' ⟨vs, oB, Y, rfl, pg, hY, ⟨iI, e2, mM, m3⟩, oI, hlen, nK⟩
 rw [hd]
 have hD : ∀ {v : Value} {x : D}, Rd (Tof (Tof T0 X) Y) w' v x -> Rd (Tof T0 (fun k => X k \/ Y k)) w' v x := fun hr => hr.mono (fun k i v hk hc => ⟨hc, by
  rcases hk with (hk | hk) | hk
  ·exact .inl hk
  ·exact .inr (.inl hk)
  ·exact .inr (.inr hk)⟩)
 have r1 := r.AB (w' := w') (X' := fun k => X k \/ Y k) (pU := pU) ho og pg.size (fun k hk pS => pg.block k ⟨hk, pS⟩) (fun k hk => .inl hk) (fun k hk => hk.imp id (hY k)) ⟨iI, e2, mM, m3.imp fun _ _ => hD⟩
 have cp : XI B w w' := ⟨pg.os, pg.tape, pg.output, pg.size, fun k hk => pg.block k ⟨r.hB k hk, fun e => pY.1 (e ▸ hk)⟩⟩
 cases dp with
 | false =>
  simp only [Bool.false_eq_true, if_false] at nK
  exact hK _ _ ⟨_, _, r1.put d _ _ (G2 oI (N9 (fun _ _ _ _ _ => hD) nK))⟩ cp
 | true =>
  simp only [if_true] at nK
  obtain ⟨hfr1, hq⟩ := ot rfl
  refine hK _ _ (r1.tT hfr1 (fun k => w.heap.size <= k /\ k < w'.heap.size /\ ¬ Y k) (fun k hk => ⟨fun hb => by have := r.hB k hb; omega, ?_, hk.2.1, fun u j hn hu => ?_⟩) qs oI hlen nK hq) cp
  ·rintro (hx | hy)
   ·have := (r.hX k hx).2; omega
   ·exact hk.2.2 hy
  ·have oR : σ.ob u j ≠ .none := by
    by_cases hc : u = t /\ j = 0
    ·obtain ⟨rfl, rfl⟩ := hc; exact pr
    ·rw [St.JC σ t 0 _ u j pr, if_neg hc] at hn; exact hn
   have := (r.own u j k oR hu).2.2; omega
theorem D4 (r : Rel T0 B σ a w X h) {o : Oper} {cl : Call} {f : FuncId} {d : Nat} {pf : List (List D)} {pU : List D} (pP : o.op = .call cl) (hc : cl.callee = .value (.func f)) (hd : o.dst = some d) (ot : σ.fresh d = true)
  (pX : Qd P σ cl.args.toList cl.argTypes.toList pf) (pt : YY P σ cl.args.toList cl.argTypes.toList = true) (hs : NO P f pf pU)
  {K : Act -> World -> Prop} {Q : Exit -> Act -> World -> Prop} (hK : ∀ a' w', KF T0 B (σ.new d (.one (.bptr d 0)) [.box (pU.map .d)]) a' w' -> XI B w w' -> K a' w') : o.wp P a w K Q := by
 have pa := St.yh ot
 have mD := r.Qd true pX (fun _ => pt)
 simp only [if_true] at mD
 unfold Oper.wp
 rw [Vl pP hc hs.1, Oper.upon_enter]
 refine (hs.2 (Tof T0 X) w _ (fun k i hk => r.Tlt hk) mD).mono ?_
 rintro e' w' ⟨b, Y, rfl, nL, og, oK, hY, iI, e2, mM, m3⟩
 rw [hd]
 have hD : ∀ {v : Value} {x : D}, Rd (Tof (Tof T0 X) Y) w' v x -> Rd (Tof T0 (fun k => X k \/ Y k)) w' v x := fun hr => hr.mono (fun k i v hk hc => ⟨hc, by
  rcases hk with (hk | hk) | hk
  ·exact .inl hk
  ·exact .inr (.inl hk)
  ·exact .inr (.inr hk)⟩)
 have pr : (σ.new d (.one (.bptr d 0)) [.box (pU.map .d)]).ob d 0 = .box (pU.map .d) := by rw [St.Jx]; simp [pa, Yo]
 refine hK _ _ ⟨fun k => X k \/ Y k, fun t j => if t = d then Hd.of (ptr b) else h t j, ?_⟩ (XI.OE nL r.hB)
 refine r.new ot (Below.grownBy nL) (fun k hk => .inl hk) (fun k hk => hk.imp id (fun hy => ⟨(hY k hy).1, (hY k hy).2.1⟩)) _ _ _ (fun _ => Hd.of (ptr b)) ⟨rfl, fun cells _ => ⟨b, by simp [Hd.of], rfl⟩⟩ (fun j => ?_) (fun j k _ hk => hk) (fun j k _ hk => ?_) (fun i j k hi hj _ _ => ?_)
 ·cases j with
  | zero => exact ⟨b, iI, e2, rfl, mM, W4 (m3.imp fun _ _ => hD)⟩
  | succ j => simp [Yo, J3]
 ·simp [Hd.of, blk] at hk; subst hk
  refine ⟨og, ?_, oK⟩
  rintro (hx | hy)
  ·have := (r.hX _ hx).2; omega
  ·exact (hY _ hy).2.2 rfl
 ·have hz : ∀ j, Yo [Ob.box (pU.map .d)] j ≠ .none -> j = 0 := by
   intro j hj
   cases j with
   | zero => rfl
   | succ j => simp [Yo] at hj
  rw [hz i hi, hz j hj]
end
section
variable {P : Program} {σ : St} {k : Fr}
theorem I4 {dp : Bool} {d d' : Nat} {res : List (List D)} {qs : List Bool} (pS : d ≠ d') (oG : XZ σ d = true) : XZ (Db dp σ d' res qs) d = true := by
 cases dp with
 | false => exact Nt pS oG
 | true => exact Ux pS oG
attribute [simp] Db
theorem y7 {f : FuncId} {fn : Func} {c : Code} (hf : P.funcs[f]? = some fn) (hb : fn.body = some c) (po : Ua P f = true) {dp : Bool} {row : List D} {args : List (List D)} {pU : List D} {res : List (List D)}
  (hw : ∀ v, @WI P (xO fn.ntmps [] v (row.map .d) [] args) ⟨c⟩ (.fin (u9 P fn v dp pU res))) : xY P f dp row args pU res := Gb hf hb po (fun v => Vt (hw v))
theorem Pq {fn : Func} {v : Value} {dp : Bool} {pU : List D} {res : List (List D)} {rv : List ResultVar} (hf : fn.results = rv.toArray) (h : (Jn P σ rv).1 /\ σ.head? = some (.fix v (.one (.bptr 0 0)), .box (pU.map .d) :: (σ.head?.map (fun e => e.2.tail)).getD []) /\
  (if dp then KR σ (Jn P σ rv).2 = some res /\ Jv σ (Jn P σ rv).2 /\ (Yv (Jn P σ rv).2.flatten).Nodup else kI σ (Jn P σ rv).2 = some res)) : u9 P fn v dp pU res .ret σ :=
 ⟨.inl rfl, ⟨_, h.2.1⟩, _, by rw [hf]; exact U3 h.1, h.2.2⟩
theorem AE {f : FuncId} {fn : Func} {c : Code} (hf : P.funcs[f]? = some fn) (hb : fn.body = some c) (po : Ua P f = true) {args : List (List D)} {pU : List D}
  (hw : @WI P (jQ fn.ntmps args) ⟨c⟩ (.fin (tb P fn pU))) : NO P f args pU := Hy hf hb po (Vt hw)
theorem sv {fn : Func} {pU : List D} {rv : List ResultVar} (u : Nat) (hf : fn.results = rv.toArray) (h : (Jn P σ rv).1 /\ (Jn P σ rv).2 = [[.bptr u 0]] /\ σ.ob u 0 = .box (pU.map .d)) : tb P fn pU .ret σ :=
 ⟨.inl rfl, u, by rw [hf, <- h.2.1]; exact U3 h.1, h.2.2⟩
theorem BM {ops : Array Oper} {o : Oper} {cl : Call} {f : FuncId} {d : Nat} {x0 : Operand} {xs : List Operand} {t0 : TypeId} {ts : List TypeId} {pf res : List (List D)} {row pU : List D} {dp : Bool} {t : Nat} (qs : List Bool) (pP : o.op = .call cl) (hc : cl.callee = .value (.func f)) (lK : o.guard = none) (hd : o.dst = some d)
  (ha : cl.args.toList = x0 :: xs) (hs : xY P f dp row pf pU res) (hg : gOf (look P σ t0 x0) = true) (hx : unc (look P σ t0 x0) = .one (.bptr t 0)) (ho : σ.ob t 0 = .box (row.map .d))
  (pX : Qd P σ xs ts pf) (pt : YY P σ xs ts = true) (ot : dp = true -> (σ.YC t 0 (.box (pU.map .d))).fresh d = true /\ yk qs res.flatten) : sV P ops o σ (Db dp (σ.YC t 0 (.box (pU.map .d))) d res qs) := by
 have hm : ∀ z ∈ x0 :: xs, z ∈ o.op.operands.toList := fun z hz => by rw [pP]; exact zQ (by rw [ha]; exact hz)
 refine ⟨d, t, row.map .d, pU.map .d, (cond dp (jN d res) (qL res)), (cond dp (some (YS qs res.flatten)) none), hd, ho, ⟨x0, xs, ⟨f, cl.argTypes, ?_⟩, t0, hx⟩, fun u => ⟨VY _, VY _⟩, fun u hu => ?_, fun hn => ?_, ?_, fun σ2 hl l4 pr hfr2 => ?_⟩
 ·rw [pP]
  obtain ⟨c1, c2, c3⟩ := cl
  simp only at hc ha ⊢
  rw [hc, <- ha]
 ·cases dp with
  | true =>
   have hu := hu.resolve_left (by simp)
   exact ⟨Lu hu res, fun l hl => by cases hl; exact yI u qs _⟩
  | false => exact ⟨Fa u res, fun l hl => by cases hl⟩
 ·cases dp with
  | true => exact (ot rfl).1
  | false => exact absurd rfl hn
 ·cases dp <;> rfl
 ·have oH : Sub P o.op.operands.toList σ σ2 := ⟨hl, l4, pr⟩
  have hsx : Sub P xs σ σ2 := ⟨hl, fun z hz => l4 z (hm z (by simp [hz])), fun z hz => pr z (hm z (by simp [hz]))⟩
  have h0 := l4 x0 (hm x0 (by simp)) t0
  have lH : σ2.ob t 0 = .box (row.map .d) := by
   rw [<- ho]
   exact pr x0 (hm x0 (by simp)) t0 t (QG hx (by simp [At.ref])) 0 (by rw [ho]; simp)
  have e : yM t d (pU.map .d) (cond dp (jN d res) (qL res)) (cond dp (some (YS qs res.flatten)) none) σ2 = Db dp (σ2.YC t 0 (.box (pU.map .d))) d res qs := by cases dp <;> rfl
  rw [e]
  refine ⟨?_, fun d' pd oG => I4 (fun e => pd (by rw [hd, e])) (JD oG)⟩
  rintro T0 B a w K Q' ⟨X, hh, r⟩ hK
  have hw : Region.wanted o (yielded ops a.tmps) = true := by simp [Region.wanted, lK]
  rw [if_pos hw]
  refine MR r qs pP hc hd ha (by rw [<- h0]; exact hg) (by rw [<- h0]; exact hx) lH (kc hsx pX) (by rw [kO hsx]; exact pt) hs (fun hdp => ⟨?_, (ot hdp).2⟩) hK
  subst hdp
  exact hfr2 (by simp)
theorem uw {A : KD} {o : OpI} {l : Km} {cl : Call} {f : FuncId} {d : Nat} {x0 : Operand} {xs : List Operand} {t0 : TypeId} {ts : List TypeId} {pf res : List (List D)} {row pU : List D} {dp : Bool} {t : Nat} (qs : List Bool) (pP : o.o.op = .call cl) (hc : cl.callee = .value (.func f)) (lK : o.o.guard = none) (hd : o.o.dst = some d) (oQ : A.bar o.o = true)
  (ha : cl.args.toList = x0 :: xs) (_hat : cl.argTypes.toList = t0 :: ts) (hs : xY P f dp row pf pU res) (hx : gOf (look P σ t0 x0) = true /\ unc (look P σ t0 x0) = .one (.bptr t 0)) (ho : σ.ob t 0 = .box (row.map .d))
  (pX : (XG P σ xs ts).1) (pe : (XG P σ xs ts).2 = some pf) (pt : YY P σ xs ts = true) (ot : dp = true -> (σ.YC t 0 (.box (pU.map .d))).fresh d = true /\ yk qs res.flatten)
  (h : @EI P (Db dp (σ.YC t 0 (.box (pU.map .d))) d res qs) A l k) : @SI P σ A o l k := by
 refine ⟨_, .inr ⟨oQ, ?_, fun d' pd oG => I4 (fun e => pd (by rw [hd, e])) (JD oG), fun hh => by simp [Uc, pP] at hh, fun hh => by first | (simp [j8, pP] at hh; done) | (unfold j8 at hh; rw [pP] at hh; split at hh <;> simp_all), fun _ _ => BM qs pP hc lK hd ha hs hx.1 hx.2 ho (xn pX pe) pt ot⟩, Ja h⟩
 rintro T0 B a w K Q' ⟨X, hh, r⟩ hK
 have hw : Region.wanted o.o (yielded A.ops a.tmps) = true := by simp [Region.wanted, lK]
 rw [if_pos hw]
 exact MR r qs pP hc hd ha hx.1 hx.2 ho (xn pX pe) pt hs ot hK
theorem sC {A : KD} {o : OpI} {l : Km} {cl : Call} {f : FuncId} {d : Nat} {pf : List (List D)} {pU : List D} (pP : o.o.op = .call cl) (hc : cl.callee = .value (.func f)) (lK : o.o.guard = none) (hd : o.o.dst = some d) (oQ : A.bar o.o = true) (hs : NO P f pf pU)
  (pX : (XG P σ cl.args.toList cl.argTypes.toList).1) (pe : (XG P σ cl.args.toList cl.argTypes.toList).2 = some pf) (pt : YY P σ cl.args.toList cl.argTypes.toList = true) (ot : σ.fresh d = true)
  (h : @EI P (σ.new d (.one (.bptr d 0)) [.box (pU.map .d)]) A l k) (m7 : Kj P o.o = false := by exact rfl) : @SI P σ A o l k := by
 refine ⟨_, .inr ⟨oQ, ?_, fun d' pd oG => Ux (fun e => pd (by rw [hd, e])) oG, fun hh => by simp [Uc, pP] at hh, fun hh => by first | (simp [j8, pP] at hh; done) | (unfold j8 at hh; rw [pP] at hh; split at hh <;> simp_all), fun hh _ => by rw [m7] at hh; cases hh⟩, Ja h⟩
 rintro T0 B a w K Q' ⟨X, hh, r⟩ hK
 have hw : Region.wanted o.o (yielded A.ops a.tmps) = true := by simp [Region.wanted, lK]
 rw [if_pos hw]
 exact D4 r pP hc hd ot (xn pX pe) pt hs hK
end
end Go.Vm
namespace Go.Vm
open Go.RowKit
def uh (w : World) (S : Nat -> Prop) (b : Nat) (pU : List D) (e : Ending) (w' : World) : Prop :=
 e = .returned (.tuple #[]) /\ XI (fun k => k < w.heap.size /\ k ≠ b /\ ¬ S k) w w' /\ ∃ cs e', w'.heap[b]? = some (.cells cs e' (0, 0)) /\ KM w' cs.toList pU (fun k => (S k \/ (w.heap.size <= k /\ k < w'.heap.size)) /\ k ≠ b)
def Lq (P : Program) (f : FuncId) (args : List (List D)) (row pU : List D) : Prop :=
 Ua P f = true /\ ∀ (T : CS) (S : Nat -> Prop) (w : World) (b : Nat) (oF : List Value), (∀ k i, T k i -> k < w.heap.size /\ k ≠ b /\ ¬ S k) -> (∀ k, S k -> k < w.heap.size /\ k ≠ b) -> b < w.heap.size ->
  (∃ cs e, w.heap[b]? = some (.cells cs e (0, 0)) /\ KM w cs.toList row S) -> FK T w oF args -> Calls P f (oF ++ [ptr b]).toArray w (uh w S b pU)
def tN (P : Program) (fn : Func) (p : Nat) (v : Value) (pU : List D) (e : Exit) (σ : St) : Prop :=
 (e = .ret \/ e = .normal) /\ TT P σ fn.results.toList [] /\ ∃ lF nN, σ[p]? = some (.fix v (.one (.bptr p 0)), .box lF :: nN) /\ Jd σ lF = some pU /\ QI σ lF /\ (Yv lF).Nodup
def tw (n : Nat) (sz : Nat) (rows : List (List D)) (args : List (List D)) : St := (.one (.sref 0 0 0 rows.length), [.arr false sz rows]) :: (Pl args ++ List.replicate (n - (args.length + 1)) (V.any, []))
def At.isO (u : Nat) : At -> Bool
 | .sref t _ _ _ => t == u
 | .ptr t _ _ _ => t == u
 | .tref t _ _ _ _ => t == u
 | _ => false
section
variable {P : Program} {T0 : CS} {B : Nat -> Prop} {σ : St} {a : Act} {w w' : World} {X X' : Nat -> Prop} {h : Nat -> Nat -> Hd}
theorem Be {hf : Nat -> Hd} {row : List D} {qs : List Bool} (hq : yk qs row) (k4 : ∀ j size rows, row[j]? = some (.sl size rows) -> ∀ T h ob, J3 T h ob w (hf j) (.arr true size rows)) (T : CS) (ob : Nat -> Nat -> Ob) (j : Nat) : J3 T h ob w (hf j) (Yo (YS qs row) j) := by
 by_cases pS : Yo (YS qs row) j = .none
 ·rw [pS]; trivial
 ·obtain ⟨size, rows, hj⟩ := (Yr qs row j hq).2 pS
  obtain ⟨q, nc, cP⟩ := (Yr qs row j hq).1 size rows hj
  rw [nc]
  have := k4 j size rows hj T h ob
  cases q with
  | true => exact this
  | false => exact Bh this (cP rfl)
theorem Hz {f : FuncId} {fn : Func} {c : Code} (hf : P.funcs[f]? = some fn) (hb : fn.body = some c) (po : Ua P f = true) {args : List (List D)} {row pU : List D} (qs : List Bool) (hq : yk qs row)
  (hw : ∀ v, AWP P c (tN P fn args.length v pU) (xO fn.ntmps args v (KL args.length 1 row) (YS qs row) [])) : Lq P f args row pU := by
 refine ⟨po, fun T S w b oF hT hS pj ⟨az, e0, cB, fS⟩ pX => calls_of_wp hf hb ?_⟩
 obtain ⟨iu, Sk, k1, k2, k3, k4⟩ := EL fS
 have iY := Gt (w := w) (T := T) (S := S) (n := fn.ntmps) (b := b) (pre := args) (post := []) (cells := KL args.length 1 row) (nN := YS qs row) (nE := oF) (nS := []) (fun j => match j with | 0 => Hd.of (ptr b) | j + 1 => iu j)
  hT hS pj rfl (fun h ob hh pr => ⟨b, az, e0, rfl, cB, TZ fS.top (fun i size rows hi => by
    obtain ⟨q, nc, _⟩ := (Yr qs row i hq).1 size rows hi
    exact ⟨q, by rw [pr, Nat.add_comm, kH]; exact nc⟩) (fun i c hc => by rw [hh, Nat.add_comm]; exact k1 i c hc)⟩)
  (fun h ob j => Be hq (fun j size rows hj => (k4 j size rows hj).2.2) _ _ j)
  (fun j k hn hk => by
   obtain ⟨size, rows, hj⟩ := (Yr qs row j hq).2 hn
   exact (k4 j size rows hj).2.1 k hk)
  (fun j k hn hk => by
   obtain ⟨size, rows, hj⟩ := (Yr qs row j hq).2 hn
   exact k2 j k ((k4 j size rows hj).1 k hk))
  (fun i j k hn oR hk nH => by
   obtain ⟨size, rows, hj⟩ := (Yr qs row i hq).2 hn
   obtain ⟨oA, ph, mO⟩ := (Yr qs row j hq).2 oR
   exact k3 i j k ((k4 i size rows hj).1 k hk) ((k4 j oA ph mO).1 k nH)) pX .nil
 refine wp_mono (hw (ptr b) T _ _ w iY) ?_
 rintro e a' w' ⟨σ', ⟨he, nK, lF, nN, mI, nU, ng, oW⟩, ⟨X, h, r⟩, pg⟩
 obtain ⟨vs, oB, pq, oI, pV⟩ := WO r nK
 cases pV
 cases oI
 have o5 : args.length < σ'.length := (List.getElem?_eq_some_iff.1 mI).1
 have dA : σ'.get args.length = .fix (ptr b) (.one (.bptr args.length 0)) := by unfold St.get; rw [mI]
 have oc : σ'.ob args.length 0 = .box lF := by unfold St.ob; rw [mI]; rfl
 have lp := r.slot _ o5
 rw [dA] at lp
 obtain ⟨eY, nb⟩ := lp
 obtain ⟨b1, og, oa⟩ := nb.2 _ oc
 rw [eY] at oa
 have nu : b1 = b := by injection oa with oa; injection oa with oa; injection oa with oa; exact oa.symm
 subst nu
 have oe := r.obj args.length 0
 rw [oc] at oe
 obtain ⟨b2, iI, e', oK, mM, m3⟩ := oe
 rw [og] at oK
 have nu : b2 = b1 := by injection oK with oK; injection oK with oK; injection oK with oK; exact oK.symm
 subst nu
 have oo := r.ub args.length 0 b2 (by rw [oc]; simp) (by rw [og]; rfl)
 have goal : a'.defers = [] /\ ∃ v, (results fn a'.tmps).run P w' = .ok v w' /\ uh w S b2 pU (.returned v) w' := by
  refine ⟨r.defers, _, pq, rfl, pg, iI, e', mM, (RJ r m3 nU ng oW).mono (fun k hk => ?_)⟩
  have hg := r.xJ _ k hk
  have pS : k ≠ b2 := by
   rintro rfl
   obtain ⟨p, hp, pS, hu⟩ := hk
   obtain ⟨e1, e2⟩ := r.inj p.1 p.2 args.length 0 k pS (by rw [oc]; simp) hu oo
   obtain ⟨i, lo, len, hx⟩ := RZ hp
   obtain ⟨d, hd, cj⟩ := (YB.get (R := fun x d => mvD σ' x = some d) (YB.xC (xw nU).1 (fun i a b h1 h2 => (xw nU).2 i a b h1 h2)) i _ hx)
   rw [e1, e2] at cj
   simp [mvD, oc] at cj
  refine ⟨?_, pS⟩
  by_cases hs : S k
  ·exact .inl hs
  ·refine .inr ⟨?_, hg.2.2.1⟩
   rcases Nat.lt_or_ge k w.heap.size with pa | mY
   ·exact absurd ⟨pa, pS, hs⟩ hg.1
   ·exact mY
 rcases he with rfl | rfl
 ·exact goal
 ·exact goal
theorem Rel.sK (r : Rel T0 B σ a w X h) {u b : Nat} {cells : List At} {pU : List D} {qs : List Bool} (ho : σ.ob u 0 = .box cells) (hv : (h u 0).v = ptr b) (pa : u < σ.length) (M S' : Nat -> Prop) (oy : w.heap.size <= w'.heap.size) (hw : ∀ k, k < w.heap.size -> k ≠ b -> ¬ M k -> w'.heap[k]? = w.heap[k]?)
  (hm : ∀ k, M k -> ¬ B k /\ ¬ X k /\ ∀ t j, σ.ob t j ≠ .none -> ¬ (h t j).u k) (iv : (σ.YC u 0 .none).zi (At.isO u) = false) (hq : yk qs pU) {iI : Array Value} {e' : TypeId} (mM : w'.heap[b]? = some (.cells iI e' (0, 0)))
  (pY : KM w' iI.toList pU S') (ax : ∀ k, S' k -> (w.heap.size <= k \/ M k) /\ k < w'.heap.size /\ k ≠ b) : KF T0 B (σ.new u (σ.get u) (.box (KL u 1 pU) :: YS qs pU)) a w' := by
 have pr : σ.ob u 0 ≠ .none := by rw [ho]; simp
 have oX : blk (h u 0).v = some b := by rw [hv]; rfl
 have oo := r.ub u 0 b pr oX
 have cm := r.own u 0 b pr oo
 obtain ⟨iu, Sk, k1, k2, k3, k4⟩ := EL pY
 generalize hσ : σ.new u (σ.get u) (.box (KL u 1 pU) :: YS qs pU) = σ2
 have iJ : ∀ j, σ2.ob u j = Yo (.box (KL u 1 pU) :: YS qs pU) j := fun j => by rw [<- hσ, St.Jx]; simp [pa]
 have nW : ∀ t j, t ≠ u -> σ2.ob t j = σ.ob t j := fun t j pS => by rw [<- hσ, St.Jx, if_neg (fun hh => pS hh.1)]
 have od : ∀ t, σ2.get t = σ.get t := by
  intro t
  rw [<- hσ, St.Wi]
  split
  ·rename_i hh; rw [hh.1]
  ·rfl
 have hlen : σ2.length = σ.length := by rw [<- hσ, St.kE]
 let pd : Nat -> Hd := fun j => match j with | 0 => h u 0 | j + 1 => iu j
 let h' : Nat -> Nat -> Hd := fun t j => if t = u then pd j else h t j
 have hT : ∀ k i v, Tof T0 X k i -> w.cell? ⟨k, i, none⟩ = some v -> w'.cell? ⟨k, i, none⟩ = some v /\ Tof T0 X k i := by
  intro k i v hk hc
  refine ⟨?_, hk⟩
  have pS : k ≠ b := by
   rintro rfl
   rcases hk with hk | hk
   ·exact cm.1 (r.hT _ _ hk)
   ·exact cm.2.1 hk
  have aa : ¬ M k := by
   intro e7
   rcases hk with hk | hk
   ·exact (hm k e7).1 (r.hT _ _ hk)
   ·exact (hm k e7).2.1 hk
  rw [World.cell?_of_block (hw k (r.Tlt hk) pS aa)]; exact hc
 have at_ : ∀ {x : At} {v : Value}, At.isO u x = false -> YO (Tof T0 X) h σ.ob w x v -> YO (Tof T0 X) h' σ2.ob w' x v := by
  intro x v g7 rx
  cases x with
  | any => exact rx
  | d x => exact Rd.mono hT rx
  | nil s => exact rx
  | sref t j lo len =>
   have pS : t ≠ u := by simpa [At.isO] using g7
   simp only [YO, h', if_neg pS, nW t j pS]; exact rx
  | ptr t j i c =>
   have pS : t ≠ u := by simpa [At.isO] using g7
   simp only [YO, h', if_neg pS, nW t j pS]; exact rx
  | tref t j i c o =>
   have pS : t ≠ u := by simpa [At.isO] using g7
   simp only [YO, h', if_neg pS, nW t j pS]; exact rx
  | bptr t c =>
   by_cases hc : t = u
   ·subst hc
    refine ⟨rx.1, fun pZ _ => ?_⟩
    simp only [h', if_true, pd]; exact rx.2 _ ho
   ·simp only [YO, h', if_neg hc, nW t 0 hc]; exact rx
  | fn f t =>
   by_cases hc : t = u
   ·subst hc
    refine ⟨rx.1, fun pZ _ => ?_⟩
    simp only [h', if_true, pd]; exact rx.2 _ ho
   ·simp only [YO, h', if_neg hc, nW t 0 hc]; exact rx
  | rptr rr c =>
   obtain ⟨b, off, g, e, hk⟩ := rx
   exact ⟨b, off, g, e, fun k d hd => ⟨(hT _ _ _ (hk k d hd).2.1 (hk k d hd).1).1, (hk k d hd).2.1, Rd.mono hT (hk k d hd).2.2⟩⟩
 have oe : ∀ j, Yo (.box (KL u 1 pU) :: YS qs pU) j ≠ .none -> j = 0 \/ ∃ i size rows, j = i + 1 /\ pU[i]? = some (.sl size rows) := by
  intro j hn
  cases j with
  | zero => exact .inl rfl
  | succ j =>
   rw [kH] at hn
   obtain ⟨size, rows, hj⟩ := (Yr qs pU j hq).2 hn
   exact .inr ⟨j, size, rows, rfl, hj⟩
 have ea : ∀ k, (h u 0).u k -> k < w.heap.size /\ ¬ M k /\ ¬ B k /\ ¬ X k := fun k hk => ⟨(r.own u 0 k pr hk).2.2, fun e7 => (hm k e7).2.2 u 0 pr hk, (r.own u 0 k pr hk).1, (r.own u 0 k pr hk).2.1⟩
 have bK : ∀ i size rows k, pU[i]? = some (.sl size rows) -> (iu i).u k -> (w.heap.size <= k \/ M k) /\ k < w'.heap.size /\ k ≠ b := fun i size rows k hi hk => ax k (k2 i k ((k4 i size rows hi).1 k hk))
 have eb : ∀ t j, t ≠ u -> σ.ob t j ≠ .none -> ∀ k, (h t j).u k -> w'.heap[k]? = w.heap[k]? := by
  intro t j pS hn k hk
  refine hw k (r.own t j k hn hk).2.2 ?_ (fun e7 => (hm k e7).2.2 t j hn hk)
  rintro rfl
  exact pS (r.inj t j u 0 k hn pr hk oo).1
 refine ⟨X, h', by rw [r.size, hlen], r.defers, fun k hk => Nat.lt_of_lt_of_le (r.hB k hk) oy, fun k hk => ⟨(r.hX k hk).1, Nat.lt_of_lt_of_le (r.hX k hk).2 oy⟩, r.hT, fun t ht => ?_, fun t j => ?_, fun t j k hn hk => ?_, fun t j k hn hk => ?_, fun t j t' j' k hn oR hk nH => ?_⟩
 ·rw [hlen] at ht
  rw [od]
  have hp : (σ.get t).zi (At.isO u) = false := by have := St.Oz iv t; rwa [St.QL] at this
  exact Qy.map at_ hp (r.slot t ht)
 ·by_cases hc : t = u
  ·subst hc
   rw [iJ]
   cases j with
   | zero =>
    simp only [h', if_true, pd, Gx]
    exact ⟨b, iI, e', hv, mM, TZ pY.top (fun i size rows hi => by
     obtain ⟨q, nc, _⟩ := (Yr qs pU i hq).1 size rows hi
     exact ⟨q, by rw [iJ, Nat.add_comm, kH]; exact nc⟩) (fun i c hc => by simp only [if_true, Nat.add_comm 1 i]; exact k1 i c hc)⟩
   | succ j =>
    simp only [h', if_true, pd, kH]
    exact Be hq (fun j size rows hj => (k4 j size rows hj).2.2) _ _ j
  ·rw [nW t j hc]
   simp only [h', if_neg hc]
   by_cases hn : σ.ob t j = .none
   ·rw [hn]; trivial
   ·have hp : yT (At.isO u) [σ.ob t j] = false := by
     have := St.Li iv t j
     rwa [St.UU, if_neg (fun hh => hc hh.1)] at this
    exact J3.map at_ hT (fun ho b => r.ub t j b ho) (fun hn k hk => eb t j hc hn k hk) hp (r.obj t j)
 ·by_cases hc : t = u
  ·subst hc
   rw [iJ] at hn
   rcases oe j hn with rfl | ⟨i, size, rows, rfl, hi⟩
   ·simp only [h', if_true, pd] at hk ⊢; exact r.ub t 0 k pr hk
   ·simp only [h', if_true, pd] at hk ⊢; exact (k4 i size rows hi).2.1 k hk
  ·rw [nW t j hc] at hn
   simp only [h', if_neg hc] at hk ⊢; exact r.ub t j k hn hk
 ·by_cases hc : t = u
  ·subst hc
   rw [iJ] at hn
   rcases oe j hn with rfl | ⟨i, size, rows, rfl, hi⟩
   ·simp only [h', if_true, pd] at hk
    have := ea k hk; exact ⟨this.2.2.1, this.2.2.2, by omega⟩
   ·simp only [h', if_true, pd] at hk
    have := bK i size rows k hi hk
    rcases this.1 with h1 | h1
    ·exact ⟨fun hb => by have := r.hB k hb; omega, fun hx => by have := (r.hX k hx).2; omega, this.2.1⟩
    ·exact ⟨(hm k h1).1, (hm k h1).2.1, this.2.1⟩
  ·rw [nW t j hc] at hn
   simp only [h', if_neg hc] at hk
   have := r.own t j k hn hk; exact ⟨this.1, this.2.1, by omega⟩
 ·have key : ∀ t j i k, t ≠ u -> σ.ob t j ≠ .none -> (h t j).u k -> Yo (.box (KL u 1 pU) :: YS qs pU) i ≠ .none -> (pd i).u k -> False := by
   intro t j i k pS hn hk oR nH
   rcases oe i oR with rfl | ⟨i, size, rows, rfl, hi⟩
   ·exact pS (r.inj t j u 0 k hn pr hk nH).1
   ·have h1 := bK i size rows k hi nH
    have h2 := r.own t j k hn hk
    rcases h1.1 with h3 | h3
    ·omega
    ·exact (hm k h3).2.2 t j hn hk
  by_cases hc : t = u
  ·by_cases oL : t' = u
   ·subst hc; subst oL
    rw [iJ] at hn oR
    simp only [h', if_true] at hk nH
    refine ⟨rfl, ?_⟩
    rcases oe j hn with rfl | ⟨i, size, rows, rfl, hi⟩
    ·rcases oe j' oR with rfl | ⟨i', oA, ph, rfl, o9⟩
     ·rfl
     ·have h1 := ea k hk
      have h2 := bK i' oA ph k o9 nH
      rcases h2.1 with h3 | h3
      ·omega
      ·exact absurd h3 h1.2.1
    ·rcases oe j' oR with rfl | ⟨i', oA, ph, rfl, o9⟩
     ·have h1 := ea k nH
      have h2 := bK i size rows k hi hk
      rcases h2.1 with h3 | h3
      ·omega
      ·exact absurd h3 h1.2.1
     ·rw [k3 i i' k ((k4 i size rows hi).1 k hk) ((k4 i' oA ph o9).1 k nH)]
   ·subst hc
    rw [iJ] at hn
    rw [nW t' j' oL] at oR
    simp only [h', if_true, if_neg oL] at hk nH
    exact (key t' j' j k oL oR nH hn hk).elim
  ·rw [nW t j hc] at hn
   simp only [h', if_neg hc] at hk
   by_cases oL : t' = u
   ·subst oL
    rw [iJ] at oR
    simp only [h', if_true] at nH
    exact (key t j j' k hc hn hk oR nH).elim
   ·rw [nW t' j' oL] at oR
    simp only [h', if_neg oL] at nH
    exact r.inj t j t' j' k hn oR hk nH
end
end Go.Vm
namespace Go.Vm
open Go.RowKit
section
variable {P : Program} {T0 : CS} {B : Nat -> Prop} {σ : St} {a : Act} {w w' : World} {X X' : Nat -> Prop} {h : Nat -> Nat -> Hd}
theorem Ci {o : Oper} {c : Call} {t : Nat} {f : FuncId} {x : Value} (pP : o.op = .call c) (hc : c.callee = .value (.tmp t)) (hv : a.tmps.getD t undef = .func (.func f) #[] #[x]) (hf : Ua P f = true) :
  (execOp a.eval o).run P w = .ok (.enter f (c.args.toList.map a.eval ++ [x]).toArray) w := by
 unfold Ua at hf
 split at hf
 ·rename_i fn eo
  simp only [Bool.and_eq_true, bne_iff_ne, ne_eq] at hf
  obtain ⟨cd, hb⟩ := Option.isSome_iff_exists.1 hf.1
  obtain ⟨callee, args, lF⟩ := c
  simp only at hc; subst hc
  have hm : (args.toList.map a.eval ++ [x]).toArray = args.map a.eval ++ #[x] := by apply Array.toList_inj.1; simp
  have he : a.eval (.tmp t) = .func (.func f) #[] #[x] := hv
  rw [hm]
  simp [execOp, pP, resolve, he, Deferred.ofValue, invoke, callFunc, eo, hf.2, hb]
 ·cases hf
theorem CC (r : Rel T0 B σ a w X h) {o : Oper} {cl : Call} {f : FuncId} {tf u : Nat} {pf : List (List D)} {row pU : List D} {cells : List At} (qs : List Bool) (pP : o.op = .call cl) (hc : cl.callee = .value (.tmp tf)) (hx : σ.get tf = .one (.fn f u)) (ho : σ.ob u 0 = .box cells) (pa : u < σ.length)
  (pX : Qd P σ cl.args.toList cl.argTypes.toList pf) (pt : YY P σ cl.args.toList cl.argTypes.toList = true) (hs : Lq P f pf row pU) (nU : Jd σ cells = some row) (ng : QI σ cells) (oW : (Yv cells).Nodup) (bI : (u, 0) ∉ Yv cells)
  (iv : ((σ.Z9 (Yv cells)).YC u 0 .none).zi (At.isO u) = false) (hq : yk qs pU)
  {K : Act -> World -> Prop} {Q : Exit -> Act -> World -> Prop} (hK : ∀ a' w', KF T0 B (match o.dst with | some d => ((σ.Z9 (Yv cells)).new u (σ.get u) (.box (KL u 1 pU) :: YS qs pU)).put d .any | none => (σ.Z9 (Yv cells)).new u (σ.get u) (.box (KL u 1 pU) :: YS qs pU)) a' w' -> XI B w w' -> K a' w') : o.wp P a w K Q := by
 have pr : σ.ob u 0 ≠ .none := by rw [ho]; simp
 have eo := r.get tf
 rw [hx] at eo
 obtain ⟨b, og, hv⟩ := eo.2 _ ho
 have oe := r.obj u 0
 rw [ho] at oe
 obtain ⟨b2, cs, e, oK, hh, pV⟩ := oe
 rw [og] at oK
 have nu : b2 = b := by injection oK with oK; injection oK with oK; injection oK with oK; exact oK.symm
 subst nu
 have oo := r.ub u 0 b2 pr (by rw [og]; rfl)
 have pY := r.own u 0 b2 pr oo
 have mD := r.Qd true pX (fun _ => pt)
 simp only [if_true] at mD
 have mr : ∀ k, Ki σ h (Yv cells) k -> k < w.heap.size /\ k ≠ b2 := by
  rintro k ⟨p, hp, pS, hu⟩
  refine ⟨(r.own _ _ k pS hu).2.2, ?_⟩
  rintro rfl
  obtain ⟨e1, e2⟩ := r.inj p.1 p.2 u 0 k pS pr hu oo
  exact bI (by rw [<- e1, <- e2]; exact hp)
 have oD := r.xJ (Yv cells)
 have hT : ∀ k i, Tof T0 X k i -> k < w.heap.size /\ k ≠ b2 /\ ¬ Ki σ h (Yv cells) k := by
  intro k i hk
  refine ⟨r.Tlt hk, ?_, fun hg => ?_⟩
  ·rintro rfl
   rcases hk with hk | hk
   ·exact pY.1 (r.hT _ _ hk)
   ·exact pY.2.1 hk
  ·rcases hk with hk | hk
   ·exact (oD k hg).1 (r.hT _ _ hk)
   ·exact (oD k hg).2.1 hk
 unfold Oper.wp
 rw [Ci pP hc hv hs.1, Oper.upon_enter]
 refine (hs.2 (Tof T0 X) (Ki σ h (Yv cells)) w b2 _ hT mr pY.2.2 ⟨cs, e, hh, RJ r pV nU ng oW⟩ mD).mono ?_
 rintro e' w' ⟨rfl, pg, iI, e2, mM, nY⟩
 have r1 := r.Z9 (Yv cells)
 have bg : (σ.Z9 (Yv cells)).ob u 0 = .box cells := by rw [St.Kn, if_neg bI, ho]
 have R := r1.sK (w' := w') (pU := pU) (qs := qs) bg og (by rw [St.Kk]; exact pa) (Ki σ h (Yv cells)) _ pg.size (fun k hk pS hg => pg.block k ⟨hk, pS, hg⟩) (fun k hk => ⟨(oD k hk).1, (oD k hk).2.1, (oD k hk).2.2.2⟩) iv hq mM nY (fun k hk => ⟨hk.1.elim .inr (fun h1 => .inl h1.1), by
  rcases hk.1 with h1 | h1
  ·have := (mr k h1).1; have := pg.size; omega
  ·exact h1.2, hk.2⟩)
 rw [St.xf] at R
 have cp : XI B w w' := ⟨pg.os, pg.tape, pg.output, pg.size, fun k hk => pg.block k ⟨r.hB k hk, fun e => pY.1 (e ▸ hk), fun hg => (oD k hg).1 hk⟩⟩
 cases hd : o.dst with
 | none =>
  rw [hd] at hK
  exact hK _ _ R cp
 | some d =>
  rw [hd] at hK
  obtain ⟨X2, h2, R2⟩ := R
  exact hK _ _ ⟨X2, h2, R2.put d .any _ trivial⟩ cp
theorem C5 (r : Rel T0 B σ a w X h) {o : Oper} {f : FuncId} {x : Operand} {d t : Nat} (pP : o.op = .makeFunc (.func f) #[] #[x]) (hd : o.dst = some d) (hg : gOf (look P σ 0 x) = true) (hx : unc (look P σ 0 x) = .one (.bptr t 0)) {cells : List At} (ho : σ.ob t 0 = .box cells)
  {K : Act -> World -> Prop} {Q : Exit -> Act -> World -> Prop} (hK : ∀ a' w', KF T0 B (σ.put d (.one (.fn f t))) a' w' -> XI B w w' -> K a' w') : o.wp P a w K Q := by
 have har := r.arg (P := P) 0 x hx hg
 obtain ⟨b, og, hv⟩ := har.2 _ ho
 exact V9 (v := .one (.fn f t)) r hd ⟨.func (.func f) #[] #[a.eval x], by simp [execOp, pP, Instr.makeFunc], ⟨rfl, fun pZ _ => ⟨b, og, by rw [hv]⟩⟩⟩ hK
end
section
variable {P : Program} {σ : St} {k : Fr}
theorem sS {A : KD} {o : OpI} {l : Km} {f : FuncId} {x : Operand} {d t : Nat} {cells : List At} (pP : o.o.op = .makeFunc (.func f) #[] #[x]) (lK : o.o.guard = none) (hd : o.o.dst = some d) (oQ : A.bar o.o = true) (hx : gOf (look P σ 0 x) = true /\ unc (look P σ 0 x) = .one (.bptr t 0)) (ho : σ.ob t 0 = .box cells)
  (h : @EI P (σ.put d (.one (.fn f t))) A l k) : @SI P σ A o l k := by
 refine ⟨_, .inr ⟨oQ, ?_, fun d' pd oG => Nt (fun e => pd (by rw [hd, e])) oG, fun hh => by simp [Uc, pP] at hh, fun hh => by first | (simp [j8, pP] at hh; done) | (unfold j8 at hh; rw [pP] at hh; split at hh <;> simp_all), fun hh _ => by first | (simp [Kj, pP] at hh; done) | (unfold Kj at hh; rw [pP] at hh; split at hh <;> simp_all)⟩, Ja h⟩
 rintro T0 B a w K Q' ⟨X, hh, r⟩ hK
 have hw : Region.wanted o.o (yielded A.ops a.tmps) = true := by simp [Region.wanted, lK]
 rw [if_pos hw]
 exact C5 r pP hd hx.1 hx.2 ho hK
theorem AN {f : FuncId} {fn : Func} {c : Code} (hf : P.funcs[f]? = some fn) (hb : fn.body = some c) (po : Ua P f = true) {args : List (List D)} {row pU : List D} (qs : List Bool) (hq : yk qs row)
  (hw : ∀ v, @WI P (xO fn.ntmps args v (KL args.length 1 row) (YS qs row) []) ⟨c⟩ (.fin (tN P fn args.length v pU))) : Lq P f args row pU := Hz hf hb po qs hq (fun v => Vt (hw v))
theorem sP {fn : Func} {p : Nat} {v : Value} {pU : List D} {lF : List At} (hf : fn.results = #[]) (h : σ[p]? = some (.fix v (.one (.bptr p 0)), .box lF :: ((σ[p]?).map (fun e => e.2.tail)).getD []) /\ Jd σ lF = some pU /\ QI σ lF /\ (Yv lF).Nodup) {e : Exit} (he : e = .ret \/ e = .normal) : tN P fn p v pU e σ :=
 ⟨he, by rw [hf]; rfl, lF, _, h.1, h.2.1, h.2.2.1, h.2.2.2⟩
theorem Ia {A : KD} {o : OpI} {l : Km} {cl : Call} {f : FuncId} {tf u : Nat} {pf : List (List D)} {row pU : List D} {cells : List At} (qs : List Bool) (pP : o.o.op = .call cl) (hc : cl.callee = .value (.tmp tf)) (lK : o.o.guard = none) (oQ : A.bar o.o = true) (hs : Lq P f pf row pU) (hx : σ.get tf = .one (.fn f u)) (ho : σ.ob u 0 = .box cells) (pa : u < σ.length)
  (pX : (XG P σ cl.args.toList cl.argTypes.toList).1) (pe : (XG P σ cl.args.toList cl.argTypes.toList).2 = some pf) (pt : YY P σ cl.args.toList cl.argTypes.toList = true) (nU : Jd σ cells = some row) (ng : QI σ cells) (oW : (Yv cells).Nodup) (bI : (u, 0) ∉ Yv cells) (oG : XZ σ u = false)
  (iv : ((σ.Z9 (Yv cells)).YC u 0 .none).zi (At.isO u) = false) (hq : yk qs pU)
  (h : @EI P (match o.o.dst with | some d => ((σ.Z9 (Yv cells)).new u (σ.get u) (.box (KL u 1 pU) :: YS qs pU)).put d .any | none => (σ.Z9 (Yv cells)).new u (σ.get u) (.box (KL u 1 pU) :: YS qs pU)) A l k) : @SI P σ A o l k := by
 refine ⟨_, .inr ⟨oQ, ?_, fun d' pd oL => ?_, fun hh => by simp [Uc, pP] at hh, fun hh => by first | (simp [j8, pP] at hh; done) | (unfold j8 at hh; rw [pP] at hh; split at hh <;> simp_all), fun hh _ => by first | (simp [Kj, pP] at hh; done) | (unfold Kj at hh; rw [pP] at hh; split at hh <;> simp_all)⟩, Ja h⟩
 ·rintro T0 B a w K Q' ⟨X, hh, r⟩ hK
  have hw : Region.wanted o.o (yielded A.ops a.tmps) = true := by simp [Region.wanted, lK]
  rw [if_pos hw]
  exact CC r qs pP hc hx ho pa (xn pX pe) pt hs nU ng oW bI iv hq hK
 ·have h1 := Ux (v := σ.get u) (os := .box (KL u 1 pU) :: YS qs pU) (fun e => by rw [e, oG] at oL; cases oL) (JG (l := Yv cells) oL)
  cases hd : o.o.dst with
  | none => exact h1
  | some d => exact Nt (fun e => pd (by rw [hd, e])) h1
end
attribute [simp] xO tw At.isO
end Go.Vm
namespace Go.Vm
open Go.RowKit
section
variable {P : Program} {σ : St} {k : Fr}
end
end Go.Vm
namespace Go.Vm
open Go.RowKit
section
variable {P : Program} {σ : St} {k : Fr}
theorem cR {A : KD} {o : OpI} {l : Km} {c : Call} {f : FuncId} {d : Nat} {own : Bool} {rows res : List (List D)} (hs : Ql P f own rows res) (h : @EI P (σ.put d (qL res)) A l k) (pP : o.o.op = .call c := by exact rfl) (hc : c.callee = .value (.func f) := by exact rfl) (hg : o.o.guard = none := by exact rfl) (hd : o.o.dst = some d := by exact rfl)
  (pe : (XG P σ c.args.toList c.argTypes.toList).2 = some rows := by simp) (pX : (XG P σ c.args.toList c.argTypes.toList).1 := by simp) (pt : YY P σ c.args.toList c.argTypes.toList = true \/ KA own res := by simp) : @SI P σ A o l k :=
 Lf pP hc hg hd hs pe pX pt h
theorem cD {A : KD} {o : OpI} {l : Km} {c : Call} {f : FuncId} {d : Nat} {rows res : List (List D)} (qs : List Bool) (hs : Yx P f rows res) (h : @EI P (σ.new d (jN d res) (YS qs res.flatten)) A l k) (pP : o.o.op = .call c := by exact rfl) (hc : c.callee = .value (.func f) := by exact rfl) (hg : o.o.guard = none := by exact rfl) (hd : o.o.dst = some d := by exact rfl)
  (pe : (XG P σ c.args.toList c.argTypes.toList).2 = some rows := by simp) (pX : (XG P σ c.args.toList c.argTypes.toList).1 := by simp) (hq : yk qs res.flatten := by simp) (hf : σ.fresh d = true := by simp) : @SI P σ A o l k := F7 qs pP hc hg hd hs pe pX hq hf h
theorem cC {b : Bool} {x y : xF} (c : Bool) (ht : kp σ -> c = true -> @WI P σ x k) (hf : kp σ -> c = false -> @WI P σ y k) (hc : c = b := by simp) : @CI P b σ x y k := Ok hc ht hf
end
section
variable {P : Program} {σ : St} {k : Fr}
end
@[simp] abbrev eI (t : Nat) (n : Int) : Nat × V × List Ob := (t, .one (.d (.int .i64 n)), [])
@[simp] abbrev eB (t : Nat) (b : Bool) : Nat × V × List Ob := (t, .one (.d (.bool b)), [])
@[simp] abbrev eL {α : Type} (t s : Nat) (l : List α) (f : α -> List D) : Nat × V × List Ob := (t, .one (.d (.sl s (l.map f))), [])
@[simp] abbrev eP (t u c : Nat) : Nat × V × List Ob := (t, .one (.bptr u c), [])
@[simp] abbrev eG (t : Nat) (xs : List At) : Nat × V × List Ob := (t, .agg xs, [])
@[simp] abbrev eX (t : Nat) (xs : List At) : Nat × V × List Ob := (t, .one (.bptr t 0), [.box xs])
end Go.Vm
namespace Go.Vm
open Go.RowKit
structure Me {α : Type} (x y : α) : Prop where
 h : x = y
structure Bx (p : Prop) : Prop where
 h : p
theorem me {α : Type} {x y : α} (h : x = y) : Me x y := ⟨h⟩
theorem ms {α β : Type} {x y y' : α} {l r : β} (f : Me x y) (e : Me l r) (h : l = r -> y = y' := by intro e; simp only [e]; exact rfl) : Me x y' := ⟨f.h.trans (h e.h)⟩
theorem an {p q : Prop} (h : p) (k : q) : p /\ q := ⟨h, k⟩
theorem ix {α : Type} {v : Nat} {l : List α} (h : decide ((v : Int) < (l.length : Int)) = true) : v < l.length := by simpa using h
theorem ml {α : Type} {q : Prop} (l : List α) (m : q) (h : q -> l.length <= 9223372036854775807 := by intro m; simpa using m) : l.length <= 9223372036854775807 := h m
theorem wr (n : Nat) (h : (n : Int) + 1 <= 9223372036854775807 := by first | omega | (simp only [decide_eq_true_eq, decide_eq_false_iff_not, beq_iff_eq, beq_eq_false_iff_ne, bne_iff_ne, ne_eq, Bool.or_eq_false_iff, Bool.or_eq_true, Bool.and_eq_true, Bool.not_eq_true', Bool.not_eq_false'] at *; omega)) : IntKind.i64.wrap ((n : Int) + 1) = (n : Int) + 1 := XA (by omega) (by omega)
section
variable {P : Program} {σ : St} {k : Fr}
theorem so {f : FuncId} {fn : Func} {n : Nat} {own : Bool} {args res : List (List D)} {p : Prop} (hf : P.funcs[f]? = some fn) (hn : fn.ntmps = n) (h : p) {c : Code} (hb : fn.body = some c := by exact rfl) (po : Ua P f = true := by kernel_rfl)
  (kk : Bx p -> @WI P (jQ n args) ⟨c⟩ (.fin (Dx P fn own res)) := by (intro z; simp; (repeat (with_reducible refine Go.Mo.sd ?_)); exact z.h)) : Ql P f own args res := wW hf hb po (by rw [hn]; exact kk ⟨h⟩)
theorem soD {f : FuncId} {fn : Func} {n : Nat} {args res : List (List D)} {p : Prop} (hf : P.funcs[f]? = some fn) (hn : fn.ntmps = n) (h : p) {c : Code} (hb : fn.body = some c := by exact rfl) (po : Ua P f = true := by kernel_rfl)
  (kk : Bx p -> @WI P (jQ n args) ⟨c⟩ (.fin (AI P fn res)) := by (intro z; simp; (repeat (with_reducible refine Go.Mo.sd ?_)); exact z.h)) : Yx P f args res := AM hf hb po (by rw [hn]; exact kk ⟨h⟩)
theorem cF {α : Type} {u y z : α} {b c : Bool} {xc yc : xF} {p q : Prop} (f : Me u (bif c then y else z)) (ht : kp σ -> c = true -> Me u y -> p) (hf : kp σ -> c = false -> Me u z -> q) (hc : c = b := by simp) (kt : Bx p -> @WI P σ xc k := by (intro z; simp; (repeat (with_reducible refine Go.Mo.sd ?_)); exact z.h)) (kf : Bx q -> @WI P σ yc k := by (intro z; simp; (repeat (with_reducible refine Go.Mo.sd ?_)); exact z.h)) : @CI P b σ xc yc k :=
 Ok hc (fun s h => kt ⟨(ht s h ⟨f.h.trans (by rw [h]; rfl)⟩)⟩) (fun s h => kf ⟨(hf s h ⟨f.h.trans (by rw [h]; rfl)⟩)⟩)
theorem cFt {α : Type} {u y z : α} {b c : Bool} {xc yc : xF} {p : Prop} (f : Me u (bif c then y else z)) (ht : kp σ -> c = true -> Me u y -> p) (hf : kp σ -> c = false -> Me u z -> @WI P σ yc k) (hc : c = b := by simp) (kt : Bx p -> @WI P σ xc k := by (intro z; simp; (repeat (with_reducible refine Go.Mo.sd ?_)); exact z.h)) : @CI P b σ xc yc k :=
 Ok hc (fun s h => kt ⟨(ht s h ⟨f.h.trans (by rw [h]; rfl)⟩)⟩) (fun s h => (hf s h ⟨f.h.trans (by rw [h]; rfl)⟩))
theorem cFf {α : Type} {u y z : α} {b c : Bool} {xc yc : xF} {q : Prop} (f : Me u (bif c then y else z)) (ht : kp σ -> c = true -> Me u y -> @WI P σ xc k) (hf : kp σ -> c = false -> Me u z -> q) (hc : c = b := by simp) (kf : Bx q -> @WI P σ yc k := by (intro z; simp; (repeat (with_reducible refine Go.Mo.sd ?_)); exact z.h)) : @CI P b σ xc yc k :=
 Ok hc (fun s h => (ht s h ⟨f.h.trans (by rw [h]; rfl)⟩)) (fun s h => kf ⟨(hf s h ⟨f.h.trans (by rw [h]; rfl)⟩)⟩)
theorem cFo {α : Type} {u y z : α} {b c : Bool} {xc yc : xF} (f : Me u (bif c then y else z)) (ht : kp σ -> c = true -> Me u y -> @WI P σ xc k) (hf : kp σ -> c = false -> Me u z -> @WI P σ yc k) (hc : c = b := by simp) : @CI P b σ xc yc k :=
 Ok hc (fun s h => (ht s h ⟨f.h.trans (by rw [h]; rfl)⟩)) (fun s h => (hf s h ⟨f.h.trans (by rw [h]; rfl)⟩))
theorem cK {α : Type} {u y z : α} {b c : Bool} {xc yc : xF} {p q : Prop} (f : Me u (bif c then y else z)) (ht : kp σ -> c = true -> Me u y -> p) (hf : kp σ -> c = false -> Me u z -> q) (hc : c = b := by first | (simp [G]; done) | grind) (kt : Bx p -> @WI P σ xc k := by (intro z; simp [G, Go.Vm.ZI]; (repeat (with_reducible refine Go.Mo.sdg ?_)); exact z.h)) (kf : Bx q -> @WI P σ yc k := by (intro z; simp [G, Go.Vm.ZI]; (repeat (with_reducible refine Go.Mo.sdg ?_)); exact z.h)) : @CI P b σ xc yc k :=
 Ok hc (fun s h => kt ⟨(ht s h ⟨f.h.trans (by rw [h]; rfl)⟩)⟩) (fun s h => kf ⟨(hf s h ⟨f.h.trans (by rw [h]; rfl)⟩)⟩)
theorem cKt {α : Type} {u y z : α} {b c : Bool} {xc yc : xF} {p : Prop} (f : Me u (bif c then y else z)) (ht : kp σ -> c = true -> Me u y -> p) (hf : kp σ -> c = false -> Me u z -> @WI P σ yc k) (hc : c = b := by first | (simp [G]; done) | grind) (kt : Bx p -> @WI P σ xc k := by (intro z; simp [G, Go.Vm.ZI]; (repeat (with_reducible refine Go.Mo.sdg ?_)); exact z.h)) : @CI P b σ xc yc k :=
 Ok hc (fun s h => kt ⟨(ht s h ⟨f.h.trans (by rw [h]; rfl)⟩)⟩) (fun s h => (hf s h ⟨f.h.trans (by rw [h]; rfl)⟩))
theorem cKf {α : Type} {u y z : α} {b c : Bool} {xc yc : xF} {q : Prop} (f : Me u (bif c then y else z)) (ht : kp σ -> c = true -> Me u y -> @WI P σ xc k) (hf : kp σ -> c = false -> Me u z -> q) (hc : c = b := by first | (simp [G]; done) | grind) (kf : Bx q -> @WI P σ yc k := by (intro z; simp [G, Go.Vm.ZI]; (repeat (with_reducible refine Go.Mo.sdg ?_)); exact z.h)) : @CI P b σ xc yc k :=
 Ok hc (fun s h => (ht s h ⟨f.h.trans (by rw [h]; rfl)⟩)) (fun s h => kf ⟨(hf s h ⟨f.h.trans (by rw [h]; rfl)⟩)⟩)
theorem cKo {α : Type} {u y z : α} {b c : Bool} {xc yc : xF} (f : Me u (bif c then y else z)) (ht : kp σ -> c = true -> Me u y -> @WI P σ xc k) (hf : kp σ -> c = false -> Me u z -> @WI P σ yc k) (hc : c = b := by first | (simp [G]; done) | grind) : @CI P b σ xc yc k :=
 Ok hc (fun s h => (ht s h ⟨f.h.trans (by rw [h]; rfl)⟩)) (fun s h => (hf s h ⟨f.h.trans (by rw [h]; rfl)⟩))
theorem cRg {A : KD} {o : OpI} {l : Km} {c : Call} {f : FuncId} {d : Nat} {own : Bool} {rows res : List (List D)} {p : Prop} (hs : Ql P f own rows res) (h : p) (pP : o.o.op = .call c := by exact rfl) (hc : c.callee = .value (.func f) := by exact rfl) (hg : o.o.guard = none := by exact rfl) (hd : o.o.dst = some d := by exact rfl) (pe : (XG P σ c.args.toList c.argTypes.toList).2 = some rows := by simp) (pX : (XG P σ c.args.toList c.argTypes.toList).1 := by simp) (pt : YY P σ c.args.toList c.argTypes.toList = true \/ KA own res := by simp) (kk : Bx p -> @EI P (σ.put d (qL res)) A l k := by (intro z; simp [G, Go.Vm.ZI]; (repeat (with_reducible refine Go.Mo.sdg ?_)); exact z.h)) : @SI P σ A o l k := Lf pP hc hg hd hs pe pX pt (kk ⟨h⟩)
theorem cRs {A : KD} {o : OpI} {l : Km} {c : Call} {f : FuncId} {d : Nat} {own : Bool} {rows res : List (List D)} {p : Prop} (hs : Ql P f own rows res) (h : p) (pP : o.o.op = .call c := by exact rfl) (hc : c.callee = .value (.func f) := by exact rfl) (hg : o.o.guard = none := by exact rfl) (hd : o.o.dst = some d := by exact rfl) (pe : (XG P σ c.args.toList c.argTypes.toList).2 = some rows := by simp) (pX : (XG P σ c.args.toList c.argTypes.toList).1 := by simp) (pt : YY P σ c.args.toList c.argTypes.toList = true \/ KA own res := by simp) (kk : Bx p -> @EI P (σ.put d (qL res)) A l k := by (intro z; simp; (repeat (with_reducible refine Go.Mo.sd ?_)); exact z.h)) : @SI P σ A o l k := Lf pP hc hg hd hs pe pX pt (kk ⟨h⟩)
theorem cRf {A : KD} {o : OpI} {l : Km} {c : Call} {f : FuncId} {d : Nat} {own : Bool} {rows res : List (List D)} {p q : Prop} (F : q) (hs : Ql P f own rows res) (h : p) (pP : o.o.op = .call c := by exact rfl) (hc : c.callee = .value (.func f) := by exact rfl) (hg : o.o.guard = none := by exact rfl) (hd : o.o.dst = some d := by exact rfl) (pe : (XG P σ c.args.toList c.argTypes.toList).2 = some rows := by simp) (pX : (XG P σ c.args.toList c.argTypes.toList).1 := by simp) (pt : YY P σ c.args.toList c.argTypes.toList = true \/ KA own res := by simp) (kk : q -> Bx p -> @EI P (σ.put d (qL res)) A l k := by (intro F z; simp [F, Go.Vm.ZI]; (repeat (with_reducible refine Go.Mo.sd ?_)); exact z.h)) : @SI P σ A o l k := Lf pP hc hg hd hs pe pX pt (kk F ⟨h⟩)
theorem cOs {A : KD} {o : OpI} {l : Km} {c : Call} {f : FuncId} {d : Nat} {rows res : List (List D)} {p : Prop} (hs : Ql P f true rows res) (h : p) (pP : o.o.op = .call c := by exact rfl) (hc : c.callee = .value (.func f) := by exact rfl) (hg : o.o.guard = none := by exact rfl) (hd : o.o.dst = some d := by exact rfl) (pe : (XG P σ c.args.toList c.argTypes.toList).2 = some rows := by simp) (pX : (XG P σ c.args.toList c.argTypes.toList).1 := by simp) (pt : YY P σ c.args.toList c.argTypes.toList = true \/ KA true res := by simp) (hf : σ.fresh d = true := by simp) (kk : Bx p -> @EI P (σ.new d (jN d res) (xD res.flatten)) A l k := by (intro z; simp; (repeat (with_reducible refine Go.Mo.sd ?_)); exact z.h)) : @SI P σ A o l k := vI pP hc hg hd hs pe pX pt hf (kk ⟨h⟩)
theorem cDg {A : KD} {o : OpI} {l : Km} {c : Call} {f : FuncId} {d : Nat} {rows res : List (List D)} {p : Prop} (qs : List Bool) (hs : Yx P f rows res) (h : p) (pP : o.o.op = .call c := by exact rfl) (hc : c.callee = .value (.func f) := by exact rfl) (hg : o.o.guard = none := by exact rfl) (hd : o.o.dst = some d := by exact rfl) (pe : (XG P σ c.args.toList c.argTypes.toList).2 = some rows := by simp) (pX : (XG P σ c.args.toList c.argTypes.toList).1 := by simp) (hq : yk qs res.flatten := by simp [-Bool.exists_bool, -Bool.forall_bool]) (hf : σ.fresh d = true := by simp) (kk : Bx p -> @EI P (σ.new d (jN d res) (YS qs res.flatten)) A l k := by (intro z; simp [G, Go.Vm.ZI]; (repeat (with_reducible refine Go.Mo.sdg ?_)); exact z.h)) : @SI P σ A o l k := F7 qs pP hc hg hd hs pe pX hq hf (kk ⟨h⟩)
theorem cDs {A : KD} {o : OpI} {l : Km} {c : Call} {f : FuncId} {d : Nat} {rows res : List (List D)} {p : Prop} (qs : List Bool) (hs : Yx P f rows res) (h : p) (pP : o.o.op = .call c := by exact rfl) (hc : c.callee = .value (.func f) := by exact rfl) (hg : o.o.guard = none := by exact rfl) (hd : o.o.dst = some d := by exact rfl) (pe : (XG P σ c.args.toList c.argTypes.toList).2 = some rows := by simp) (pX : (XG P σ c.args.toList c.argTypes.toList).1 := by simp) (hq : yk qs res.flatten := by simp [-Bool.exists_bool, -Bool.forall_bool]) (hf : σ.fresh d = true := by simp) (kk : Bx p -> @EI P (σ.new d (jN d res) (YS qs res.flatten)) A l k := by (intro z; simp; (repeat (with_reducible refine Go.Mo.sd ?_)); exact z.h)) : @SI P σ A o l k := F7 qs pP hc hg hd hs pe pX hq hf (kk ⟨h⟩)
theorem cDf {A : KD} {o : OpI} {l : Km} {c : Call} {f : FuncId} {d : Nat} {rows res : List (List D)} {p q : Prop} (F : q) (qs : List Bool) (hs : Yx P f rows res) (h : p) (pP : o.o.op = .call c := by exact rfl) (hc : c.callee = .value (.func f) := by exact rfl) (hg : o.o.guard = none := by exact rfl) (hd : o.o.dst = some d := by exact rfl) (pe : (XG P σ c.args.toList c.argTypes.toList).2 = some rows := by simp) (pX : (XG P σ c.args.toList c.argTypes.toList).1 := by simp) (hq : yk qs res.flatten := by simp [-Bool.exists_bool, -Bool.forall_bool]) (hf : σ.fresh d = true := by simp) (kk : q -> Bx p -> @EI P (σ.new d (jN d res) (YS qs res.flatten)) A l k := by (intro F z; simp [F, Go.Vm.ZI]; (repeat (with_reducible refine Go.Mo.sd ?_)); exact z.h)) : @SI P σ A o l k := F7 qs pP hc hg hd hs pe pX hq hf (kk F ⟨h⟩)
theorem cGo {A : KD} {o : OpI} {l : Km} {c : Call} {f : FuncId} {d : Nat} {j dj : Nat} {want g own : Bool} {rows : List (List D)} {res : List D} (hs : g = true -> Ql P f own rows [res]) (h : @EI P (σ.put d (.cnd g (qL [res]))) A l k) (pP : o.o.op = .call c := by exact rfl) (hc : c.callee = .value (.func f) := by exact rfl) (hg : o.o.guard = some (j, want) := by exact rfl) (hd : o.o.dst = some d := by exact rfl) (nI : (A.ops[j]?).bind (·.dst) = some dj := by exact rfl) (nP : qQ want (σ.get dj) = some g := by exact rfl) (pe : (XG P σ c.args.toList c.argTypes.toList).2 = some rows := by first | (simp; done) | (simp [G]; done) | (simp [G]; omega) | (simp_all; done)) (pa : dj < σ.length := by first | (simp; done) | (simp [G]; done) | (simp [G]; omega) | (simp_all; done)) (pX : g = true -> (XG P σ c.args.toList c.argTypes.toList).1 := by first | (simp; done) | (simp [G]; done) | (simp [G]; omega) | (simp_all; done)) (pt : YY P σ c.args.toList c.argTypes.toList = true \/ KA own [res] := by first | (simp; done) | (simp [G]; done) | (simp [G]; omega) | (simp_all; done)) : @SI P σ A o l k := Es pP hc hg hd nI nP hs pe pa pX pt h
theorem cGg {A : KD} {o : OpI} {l : Km} {c : Call} {f : FuncId} {d : Nat} {j dj : Nat} {want g own : Bool} {rows : List (List D)} {res : List D} {p : Prop} (hs : g = true -> Ql P f own rows [res]) (h : p) (pP : o.o.op = .call c := by exact rfl) (hc : c.callee = .value (.func f) := by exact rfl) (hg : o.o.guard = some (j, want) := by exact rfl) (hd : o.o.dst = some d := by exact rfl) (nI : (A.ops[j]?).bind (·.dst) = some dj := by exact rfl) (nP : qQ want (σ.get dj) = some g := by exact rfl) (pe : (XG P σ c.args.toList c.argTypes.toList).2 = some rows := by first | (simp; done) | (simp [G]; done) | (simp [G]; omega) | (simp_all; done)) (pa : dj < σ.length := by first | (simp; done) | (simp [G]; done) | (simp [G]; omega) | (simp_all; done)) (pX : g = true -> (XG P σ c.args.toList c.argTypes.toList).1 := by first | (simp; done) | (simp [G]; done) | (simp [G]; omega) | (simp_all; done)) (pt : YY P σ c.args.toList c.argTypes.toList = true \/ KA own [res] := by first | (simp; done) | (simp [G]; done) | (simp [G]; omega) | (simp_all; done)) (kk : Bx p -> @EI P (σ.put d (.cnd g (qL [res]))) A l k := by (intro z; simp [G, Go.Vm.ZI]; (repeat (with_reducible refine Go.Mo.sdg ?_)); exact z.h)) : @SI P σ A o l k := Es pP hc hg hd nI nP hs pe pa pX pt (kk ⟨h⟩)
theorem cGs {A : KD} {o : OpI} {l : Km} {c : Call} {f : FuncId} {d : Nat} {j dj : Nat} {want g own : Bool} {rows : List (List D)} {res : List D} {p : Prop} (hs : g = true -> Ql P f own rows [res]) (h : p) (pP : o.o.op = .call c := by exact rfl) (hc : c.callee = .value (.func f) := by exact rfl) (hg : o.o.guard = some (j, want) := by exact rfl) (hd : o.o.dst = some d := by exact rfl) (nI : (A.ops[j]?).bind (·.dst) = some dj := by exact rfl) (nP : qQ want (σ.get dj) = some g := by exact rfl) (pe : (XG P σ c.args.toList c.argTypes.toList).2 = some rows := by simp) (pa : dj < σ.length := by simp) (pX : g = true -> (XG P σ c.args.toList c.argTypes.toList).1 := by simp) (pt : YY P σ c.args.toList c.argTypes.toList = true \/ KA own [res] := by simp) (kk : Bx p -> @EI P (σ.put d (.cnd g (qL [res]))) A l k := by (intro z; simp; (repeat (with_reducible refine Go.Mo.sd ?_)); exact z.h)) : @SI P σ A o l k := Es pP hc hg hd nI nP hs pe pa pX pt (kk ⟨h⟩)
theorem cBo {A : KD} {o : OpI} {l : Km} {cl : Call} {f : FuncId} {d : Nat} {x0 : Operand} {xs : List Operand} {t0 : TypeId} {ts : List TypeId} {pf res : List (List D)} {row pU : List D} {dp : Bool} {t : Nat} (qs : List Bool) (hs : xY P f dp row pf pU res) (h : @EI P (Db dp (σ.YC t 0 (.box (pU.map .d))) d res qs) A l k) (pP : o.o.op = .call cl := by exact rfl) (hc : cl.callee = .value (.func f) := by exact rfl) (lK : o.o.guard = none := by exact rfl) (hd : o.o.dst = some d := by exact rfl) (oQ : A.bar o.o = true := by exact rfl) (ha : cl.args.toList = x0 :: xs := by exact rfl) (mI : cl.argTypes.toList = t0 :: ts := by exact rfl) (hx : gOf (look P σ t0 x0) = true /\ unc (look P σ t0 x0) = .one (.bptr t 0) := by exact ⟨rfl, rfl⟩) (ho : σ.ob t 0 = .box (row.map .d) := by simp) (pX : (XG P σ xs ts).1 := by simp) (pe : (XG P σ xs ts).2 = some pf := by simp) (pt : YY P σ xs ts = true := by simp) (ot : dp = true -> (σ.YC t 0 (.box (pU.map .d))).fresh d = true /\ yk qs res.flatten := by simp [-Bool.exists_bool, -Bool.forall_bool]) : @SI P σ A o l k := uw qs pP hc lK hd oQ ha mI hs hx ho pX pe pt ot h
theorem cBs {A : KD} {o : OpI} {l : Km} {cl : Call} {f : FuncId} {d : Nat} {x0 : Operand} {xs : List Operand} {t0 : TypeId} {ts : List TypeId} {pf res : List (List D)} {row pU : List D} {dp : Bool} {t : Nat} {p : Prop} (qs : List Bool) (hs : xY P f dp row pf pU res) (h : p) (pP : o.o.op = .call cl := by exact rfl) (hc : cl.callee = .value (.func f) := by exact rfl) (lK : o.o.guard = none := by exact rfl) (hd : o.o.dst = some d := by exact rfl) (oQ : A.bar o.o = true := by exact rfl) (ha : cl.args.toList = x0 :: xs := by exact rfl) (mI : cl.argTypes.toList = t0 :: ts := by exact rfl) (hx : gOf (look P σ t0 x0) = true /\ unc (look P σ t0 x0) = .one (.bptr t 0) := by exact ⟨rfl, rfl⟩) (ho : σ.ob t 0 = .box (row.map .d) := by simp) (pX : (XG P σ xs ts).1 := by simp) (pe : (XG P σ xs ts).2 = some pf := by simp) (pt : YY P σ xs ts = true := by simp) (ot : dp = true -> (σ.YC t 0 (.box (pU.map .d))).fresh d = true /\ yk qs res.flatten := by simp [-Bool.exists_bool, -Bool.forall_bool]) (kk : Bx p -> @EI P (Db dp (σ.YC t 0 (.box (pU.map .d))) d res qs) A l k := by (intro z; simp; (repeat (with_reducible refine Go.Mo.sd ?_)); exact z.h)) : @SI P σ A o l k := uw qs pP hc lK hd oQ ha mI hs hx ho pX pe pt ot (kk ⟨h⟩)
theorem cNs {A : KD} {o : OpI} {l : Km} {cl : Call} {f : FuncId} {d : Nat} {pf : List (List D)} {pU : List D} {p : Prop} (hs : NO P f pf pU) (h : p) (pP : o.o.op = .call cl := by exact rfl) (hc : cl.callee = .value (.func f) := by exact rfl) (lK : o.o.guard = none := by exact rfl) (hd : o.o.dst = some d := by exact rfl) (oQ : A.bar o.o = true := by exact rfl) (pX : (XG P σ cl.args.toList cl.argTypes.toList).1 := by simp) (pe : (XG P σ cl.args.toList cl.argTypes.toList).2 = some pf := by simp) (pt : YY P σ cl.args.toList cl.argTypes.toList = true := by simp) (ot : σ.fresh d = true := by simp) (m7 : Kj P o.o = false := by exact rfl) (kk : Bx p -> @EI P (σ.new d (.one (.bptr d 0)) [.box (pU.map .d)]) A l k := by (intro z; simp; (repeat (with_reducible refine Go.Mo.sd ?_)); exact z.h)) : @SI P σ A o l k := sC pP hc lK hd oQ hs pX pe pt ot (kk ⟨h⟩) m7
theorem dIo {id : Nat} {l : List Oper} {br : Oper -> Bool} (hm : P.follows .mixedOrders = true) (h : @EI P σ ⟨⟨l⟩, fun _ => false⟩ ⟨l⟩ k) (hdr : Oi P ⟨l⟩ (fun i => i) (fun _ => false) = true := by kernel_rfl) (oG : xP ⟨l⟩ (fun i => i) σ = true := by kernel_rfl) : @DI P id σ ⟨⟨l⟩, br⟩ k := wL hm hdr oG h
theorem dIg {id : Nat} {l : List Oper} {br : Oper -> Bool} {p : Prop} (hm : P.follows .mixedOrders = true) (h : p) (hdr : Oi P ⟨l⟩ (fun i => i) (fun _ => false) = true := by kernel_rfl) (oG : xP ⟨l⟩ (fun i => i) σ = true := by kernel_rfl) (kk : Bx p -> @EI P σ ⟨⟨l⟩, fun _ => false⟩ ⟨l⟩ k := by (intro z; simp [G, Go.Vm.ZI]; (repeat (with_reducible refine Go.Mo.sdg ?_)); exact z.h)) : @DI P id σ ⟨⟨l⟩, br⟩ k := wL hm hdr oG (kk ⟨h⟩)
theorem dIs {id : Nat} {l : List Oper} {br : Oper -> Bool} {p : Prop} (hm : P.follows .mixedOrders = true) (h : p) (hdr : Oi P ⟨l⟩ (fun i => i) (fun _ => false) = true := by kernel_rfl) (oG : xP ⟨l⟩ (fun i => i) σ = true := by kernel_rfl) (kk : Bx p -> @EI P σ ⟨⟨l⟩, fun _ => false⟩ ⟨l⟩ k := by (intro z; (try simp); (repeat (with_reducible refine Go.Mo.sd ?_)); exact z.h)) : @DI P id σ ⟨⟨l⟩, br⟩ k := wL hm hdr oG (kk ⟨h⟩)
theorem eIs {A : KD} {o : OpI} {l : Km} {d : Nat} {p : Prop}  (h : p) (hp : F1 o.o = true := by exact rfl) (hg : o.o.guard = none := by exact rfl) (hd : o.o.dst = some d := by exact rfl) (kk : Bx p -> (evS P σ o.o d).1 /\ @EI P (evS P σ o.o d).2 A l k := by (intro z; simp; (repeat (with_reducible refine Go.Mo.sd ?_)); exact z.h)) : @SI P σ A o l k := evI hp hg hd (kk ⟨h⟩)
theorem sGo {A : KD} {o : OpI} {l : Km} {j dj d : Nat} {want g : Bool}  (h : @EI P (σ.put d (.cnd false .any)) A l k) (hg : o.o.guard = some (j, want) := by exact rfl) (hd : o.o.dst = some d := by exact rfl) (nI : (A.ops[j]?).bind (·.dst) = some dj := by exact rfl) (nP : qQ want (σ.get dj) = some g := by exact rfl) (pa : dj < σ.length := by simp) (cZ : g = false := by simp [G]) : @SI P σ A o l k := uu hg hd nI nP pa cZ h
theorem sGg {A : KD} {o : OpI} {l : Km} {j dj d : Nat} {want g : Bool} {p : Prop}  (h : p) (hg : o.o.guard = some (j, want) := by exact rfl) (hd : o.o.dst = some d := by exact rfl) (nI : (A.ops[j]?).bind (·.dst) = some dj := by exact rfl) (nP : qQ want (σ.get dj) = some g := by exact rfl) (pa : dj < σ.length := by simp) (cZ : g = false := by simp [G]) (kk : Bx p -> @EI P (σ.put d (.cnd false .any)) A l k := by (intro z; simp [G, Go.Vm.ZI]; (repeat (with_reducible refine Go.Mo.sdg ?_)); exact z.h)) : @SI P σ A o l k := uu hg hd nI nP pa cZ (kk ⟨h⟩)
theorem gIf {A : KD} {o : OpI} {l : Km} {j dj d : Nat} {want g : Bool} {r1 r2 : Prop} {q : Prop} (ht : r1 -> ((evV P σ o.o.op o.o.type).1 /\ gOf (evV P σ o.o.op o.o.type).2 = true /\ (unc (evV P σ o.o.op o.o.type).2).flat = true) /\ @EI P (σ.put d (.cnd true (unc (evV P σ o.o.op o.o.type).2))) A l k) (hf : r2 -> q) (pP : Nd o.o.op = false := by exact rfl) (hg : o.o.guard = some (j, want) := by exact rfl) (hd : o.o.dst = some d := by exact rfl) (nI : (A.ops[j]?).bind (·.dst) = some dj := by exact rfl) (nP : qQ want (σ.get dj) = some g := by exact rfl) (pa : dj < σ.length := by simp) (k1 : g = true -> r1 := by (intro h; (try simp only [beq_true, beq_false, Bool.not_eq_true', Bool.not_eq_false', Bool.true_and, Bool.and_true] at h); exact h)) (k2 : g = false -> r2 := by (intro h; (try simp only [beq_true, beq_false, Bool.not_eq_true', Bool.not_eq_false', Bool.true_and, Bool.and_true] at h); exact h)) (kf : r2 -> Bx q -> @EI P (σ.put d (.cnd false .any)) A l k := by (intro G z; simp [G, Go.Vm.ZI]; (repeat (with_reducible refine Go.Mo.sdg ?_)); exact z.h)) : @SI P σ A o l k := HI pP hg hd nI nP pa (fun h => ht (k1 h)) (fun h => (fun G => kf G ⟨hf G⟩) (k2 h))
theorem gIo {A : KD} {o : OpI} {l : Km} {j dj d : Nat} {want g : Bool} {r1 r2 : Prop} (ht : r1 -> ((evV P σ o.o.op o.o.type).1 /\ gOf (evV P σ o.o.op o.o.type).2 = true /\ (unc (evV P σ o.o.op o.o.type).2).flat = true) /\ @EI P (σ.put d (.cnd true (unc (evV P σ o.o.op o.o.type).2))) A l k) (hf : r2 -> @EI P (σ.put d (.cnd false .any)) A l k) (pP : Nd o.o.op = false := by exact rfl) (hg : o.o.guard = some (j, want) := by exact rfl) (hd : o.o.dst = some d := by exact rfl) (nI : (A.ops[j]?).bind (·.dst) = some dj := by exact rfl) (nP : qQ want (σ.get dj) = some g := by exact rfl) (pa : dj < σ.length := by simp) (k1 : g = true -> r1 := by (intro h; (try simp only [beq_true, beq_false, Bool.not_eq_true', Bool.not_eq_false', Bool.true_and, Bool.and_true] at h); exact h)) (k2 : g = false -> r2 := by (intro h; (try simp only [beq_true, beq_false, Bool.not_eq_true', Bool.not_eq_false', Bool.true_and, Bool.and_true] at h); exact h)) : @SI P σ A o l k := HI pP hg hd nI nP pa (fun h => ht (k1 h)) (fun h => hf (k2 h))
theorem gJf {A : KD} {o : OpI} {l : Km} {j dj d : Nat} {want g : Bool} {r1 r2 s : Prop} {q : Prop} (G : s) (ht : s /\ r1 -> ((evV P σ o.o.op o.o.type).1 /\ gOf (evV P σ o.o.op o.o.type).2 = true /\ (unc (evV P σ o.o.op o.o.type).2).flat = true) /\ @EI P (σ.put d (.cnd true (unc (evV P σ o.o.op o.o.type).2))) A l k) (hf : s /\ r2 -> q) (pP : Nd o.o.op = false := by exact rfl) (hg : o.o.guard = some (j, want) := by exact rfl) (hd : o.o.dst = some d := by exact rfl) (nI : (A.ops[j]?).bind (·.dst) = some dj := by exact rfl) (nP : qQ want (σ.get dj) = some g := by exact rfl) (pa : dj < σ.length := by simp) (k1 : g = true -> r1 := by (intro h; (try simp only [beq_true, beq_false, Bool.not_eq_true', Bool.not_eq_false', Bool.true_and, Bool.and_true] at h); exact h)) (k2 : g = false -> r2 := by (intro h; (try simp only [beq_true, beq_false, Bool.not_eq_true', Bool.not_eq_false', Bool.true_and, Bool.and_true] at h); exact h)) (kf : s /\ r2 -> Bx q -> @EI P (σ.put d (.cnd false .any)) A l k := by (intro G z; simp [G, Go.Vm.ZI]; (repeat (with_reducible refine Go.Mo.sdg ?_)); exact z.h)) : @SI P σ A o l k := HI pP hg hd nI nP pa (fun h => ht ⟨G, k1 h⟩) (fun h => (fun G => kf G ⟨hf G⟩) ⟨G, k2 h⟩)
theorem gJo {A : KD} {o : OpI} {l : Km} {j dj d : Nat} {want g : Bool} {r1 r2 s : Prop} (G : s) (ht : s /\ r1 -> ((evV P σ o.o.op o.o.type).1 /\ gOf (evV P σ o.o.op o.o.type).2 = true /\ (unc (evV P σ o.o.op o.o.type).2).flat = true) /\ @EI P (σ.put d (.cnd true (unc (evV P σ o.o.op o.o.type).2))) A l k) (hf : s /\ r2 -> @EI P (σ.put d (.cnd false .any)) A l k) (pP : Nd o.o.op = false := by exact rfl) (hg : o.o.guard = some (j, want) := by exact rfl) (hd : o.o.dst = some d := by exact rfl) (nI : (A.ops[j]?).bind (·.dst) = some dj := by exact rfl) (nP : qQ want (σ.get dj) = some g := by exact rfl) (pa : dj < σ.length := by simp) (k1 : g = true -> r1 := by (intro h; (try simp only [beq_true, beq_false, Bool.not_eq_true', Bool.not_eq_false', Bool.true_and, Bool.and_true] at h); exact h)) (k2 : g = false -> r2 := by (intro h; (try simp only [beq_true, beq_false, Bool.not_eq_true', Bool.not_eq_false', Bool.true_and, Bool.and_true] at h); exact h)) : @SI P σ A o l k := HI pP hg hd nI nP pa (fun h => ht ⟨G, k1 h⟩) (fun h => hf ⟨G, k2 h⟩)
theorem gK {A : KD} {o : OpI} {l : Km} {j dj d : Nat} {want g : Bool} {r1 : Prop} (ht : r1 -> ((evV P σ o.o.op o.o.type).1 /\ gOf (evV P σ o.o.op o.o.type).2 = true /\ (unc (evV P σ o.o.op o.o.type).2).flat = true) /\ @EI P (σ.put d (.cnd true (unc (evV P σ o.o.op o.o.type).2))) A l k) (pP : Nd o.o.op = false := by exact rfl) (hg : o.o.guard = some (j, want) := by exact rfl) (hd : o.o.dst = some d := by exact rfl) (nI : (A.ops[j]?).bind (·.dst) = some dj := by exact rfl) (nP : qQ want (σ.get dj) = some g := by exact rfl) (pa : dj < σ.length := by simp) (k1 : g = true -> r1 := by (intro h; (try simp only [beq_true, beq_false, Bool.not_eq_true', Bool.not_eq_false', Bool.true_and, Bool.and_true] at h); exact h)) (k2 : g = false -> False := by first | (intro g0; simp at g0; done) | (intro g0; simp [G] at g0; done)) : @SI P σ A o l k := HI pP hg hd nI nP pa (fun h => ht (k1 h)) (fun h => (k2 h).elim)
theorem rt {α : Type} {x y : α} {fn : Func} {res : List (List D)} (rv : List ResultVar) (f : Me x y) (hf : fn.results = rv.toArray := by exact rfl) (h : x = y -> (Jn P σ rv).1 /\ kI σ (Jn P σ rv).2 = some res := by (intro f; simp [f])) : Dx P fn false res .ret σ := uZ hf (h f.h)
theorem rtg {α : Type} {x y : α} {fn : Func} {res : List (List D)} (rv : List ResultVar) (f : Me x y) (hf : fn.results = rv.toArray := by exact rfl) (h : x = y -> (Jn P σ rv).1 /\ kI σ (Jn P σ rv).2 = some res := by (intro f; simp [f, G])) : Dx P fn false res .ret σ := uZ hf (h f.h)
theorem rtO {α : Type} {x y : α} {fn : Func} {res : List (List D)} (rv : List ResultVar) (f : Me x y) (hf : fn.results = rv.toArray := by exact rfl) (h : x = y -> (Jn P σ rv).1 /\ UD σ (Jn P σ rv).2 = some res /\ (Yv (Jn P σ rv).2.flatten).Nodup := by (intro f; simp [f])) : Dx P fn true res .ret σ := ta hf (h f.h)
theorem rtD {α : Type} {x y : α} {fn : Func} {res : List (List D)} (rv : List ResultVar) (f : Me x y) (hf : fn.results = rv.toArray := by exact rfl) (h : x = y -> (Jn P σ rv).1 /\ KR σ (Jn P σ rv).2 = some res /\ Jv σ (Jn P σ rv).2 /\ (Yv (Jn P σ rv).2.flatten).Nodup := by (intro f; simp [f, -Bool.exists_bool, -Bool.forall_bool])) : AI P fn res .ret σ := Cb hf (h f.h)
theorem SO {α : Type} {x y : α} {fn : Func} {res : List (List D)} (rv : List ResultVar) (f : Me x y) (hf : fn.results = rv.toArray := by exact rfl) (h : x = y -> (Jn P σ rv).1 /\ KR σ (Jn P σ rv).2 = some res /\ Jv σ (Jn P σ rv).2 /\ (Yv (Jn P σ rv).2.flatten).Nodup := by (intro f; simp [f, G, -Bool.exists_bool, -Bool.forall_bool])) : AI P fn res .ret σ := Cb hf (h f.h)
end
class NxI where
 p : St -> Prop
def Nx (σ : St) [n : NxI] : Prop := n.p σ
section
variable {P : Program} {σ : St} {k : Fr}
theorem P2 {c : xF} {n n' : St -> Prop} (hn : ∀ σ', n σ' -> n' σ') (h : @WI P σ c (.nxt n k)) : AWP P c.c (Fr.run P (.nxt n' k)) σ :=
 DS (fun e σ' hq => by cases e <;> first | exact hn _ hq | exact hq) (Vt h)
abbrev Q1 {R : Type} {A0 : Type} (L : Nat -> A0 -> R) (S : A0 -> St) (I : Nat -> A0 -> Prop) (t : R) (b : Nat) : NxI := ⟨fun τ => ∃ a0, Me t (L b a0) /\ (1 <= b /\ I b a0) /\ Wk τ (S a0)⟩
theorem nx1 {R : Type} {A0 : Type} {L : Nat -> A0 -> R} {S : A0 -> St} {I : Nat -> A0 -> Prop} {t : R} {b : Nat} {a0 : A0} (e : Me t (L b a0)) (hI : 1 <= b /\ I b a0 := by ((try dsimp only); first | omega | (simp at *; omega))) (hw : Wk σ (S a0) := by exact Kt (by simp)) : @Nx σ (Q1 L S I t b) := ⟨a0, e, hI, hw⟩
theorem ny1 {R : Type} {A0 : Type} {L : Nat -> A0 -> R} {S : A0 -> St} {I : Nat -> A0 -> Prop} {t : R} {b : Nat} {a0 : A0} {q : Prop} (F : q) (e : Me t (L b a0)) (hI : 1 <= b /\ I b a0 := by ((try dsimp only); first | omega | (simp at *; omega))) (kw : q -> Wk σ (S a0) := by (intro F; exact Kt (by simp [F]))) : @Nx σ (Q1 L S I t b) := ⟨a0, e, hI, kw F⟩
theorem lp1 {c : xF} {R : Type} {A0 : Type} {L B : Nat -> A0 -> R} (hL : ∀ (a0 : A0) (n : Nat), L (Nat.succ n) a0 = B n a0) (S : A0 -> St) (I : Nat -> A0 -> Prop) (n0 : Nat) (b0 : A0) {p : Nat -> A0 -> Prop}
  (round : ∀ n (a0 : A0), Me (L n0 b0) (B n a0) -> 1 <= n + 1 /\ I (n + 1) a0 -> p n a0) (hI : 1 <= n0 /\ I n0 b0 := by first | omega | (dsimp only; omega) | simp) (h0 : Wk σ (S b0) := by exact Kt (by simp)) (kk : ∀ n (a0 : A0), Bx (p n a0) -> @WI P (S a0) c (.nxt (fun σ' => @Nx σ' (Q1 L S I (L n0 b0) n)) k) := by (intro n_ e8 z; simp; (repeat (with_reducible refine Go.Mo.sd ?_)); exact z.h)) : @RO P σ c k := by
 refine Vq (ι := { s : Nat × A0 // Me (L n0 b0) (L s.1 s.2) /\ (1 <= s.1 /\ I s.1 s.2) }) (fun s => S s.1.2) (fun s => s.1.1) ⟨(n0, b0), ⟨rfl⟩, hI⟩ h0 ?_
 rintro ⟨⟨n1, a0⟩, e, j⟩
 obtain ⟨n, rfl⟩ : ∃ q, n1 = q + 1 := ⟨n1 - 1, by have := j.1; (try dsimp only at this); omega⟩
 refine P2 (fun σ' hn => ?_) (kk n a0 ⟨round n a0 ⟨by have := e.h; (try dsimp only at this); rw [this, hL]⟩ j⟩)
 obtain ⟨c0, e2, j2, w2⟩ := hn
 exact ⟨⟨(n, c0), e2, j2⟩, Nat.lt_succ_self n, w2⟩
abbrev Q2 {R : Type} {A0 A1 : Type} (L : Nat -> A0 -> A1 -> R) (S : A0 -> A1 -> St) (I : Nat -> A0 -> A1 -> Prop) (t : R) (b : Nat) : NxI := ⟨fun τ => ∃ a0 a1, Me t (L b a0 a1) /\ (1 <= b /\ I b a0 a1) /\ Wk τ (S a0 a1)⟩
theorem nx2 {R : Type} {A0 A1 : Type} {L : Nat -> A0 -> A1 -> R} {S : A0 -> A1 -> St} {I : Nat -> A0 -> A1 -> Prop} {t : R} {b : Nat} {a0 : A0} {a1 : A1} (e : Me t (L b a0 a1)) (hI : 1 <= b /\ I b a0 a1 := by ((try dsimp only); first | omega | (simp at *; omega))) (hw : Wk σ (S a0 a1) := by exact Kt (by simp)) : @Nx σ (Q2 L S I t b) := ⟨a0, a1, e, hI, hw⟩
theorem ny2 {R : Type} {A0 A1 : Type} {L : Nat -> A0 -> A1 -> R} {S : A0 -> A1 -> St} {I : Nat -> A0 -> A1 -> Prop} {t : R} {b : Nat} {a0 : A0} {a1 : A1} {q : Prop} (F : q) (e : Me t (L b a0 a1)) (hI : 1 <= b /\ I b a0 a1 := by ((try dsimp only); first | omega | (simp at *; omega))) (kw : q -> Wk σ (S a0 a1) := by (intro F; exact Kt (by simp [F]))) : @Nx σ (Q2 L S I t b) := ⟨a0, a1, e, hI, kw F⟩
theorem lp2 {c : xF} {R : Type} {A0 A1 : Type} {L B : Nat -> A0 -> A1 -> R} (hL : ∀ (a0 : A0) (a1 : A1) (n : Nat), L (Nat.succ n) a0 a1 = B n a0 a1) (S : A0 -> A1 -> St) (I : Nat -> A0 -> A1 -> Prop) (n0 : Nat) (b0 : A0) (b1 : A1) {p : Nat -> A0 -> A1 -> Prop}
  (round : ∀ n (a0 : A0) (a1 : A1), Me (L n0 b0 b1) (B n a0 a1) -> 1 <= n + 1 /\ I (n + 1) a0 a1 -> p n a0 a1) (hI : 1 <= n0 /\ I n0 b0 b1 := by first | omega | (dsimp only; omega) | simp) (h0 : Wk σ (S b0 b1) := by exact Kt (by simp)) (kk : ∀ n (a0 : A0) (a1 : A1), Bx (p n a0 a1) -> @WI P (S a0 a1) c (.nxt (fun σ' => @Nx σ' (Q2 L S I (L n0 b0 b1) n)) k) := by (intro n_ e8 cg z; simp; (repeat (with_reducible refine Go.Mo.sd ?_)); exact z.h)) : @RO P σ c k := by
 refine Vq (ι := { s : Nat × A0 × A1 // Me (L n0 b0 b1) (L s.1 s.2.1 s.2.2) /\ (1 <= s.1 /\ I s.1 s.2.1 s.2.2) }) (fun s => S s.1.2.1 s.1.2.2) (fun s => s.1.1) ⟨(n0, b0, b1), ⟨rfl⟩, hI⟩ h0 ?_
 rintro ⟨⟨n1, a0, a1⟩, e, j⟩
 obtain ⟨n, rfl⟩ : ∃ q, n1 = q + 1 := ⟨n1 - 1, by have := j.1; (try dsimp only at this); omega⟩
 refine P2 (fun σ' hn => ?_) (kk n a0 a1 ⟨round n a0 a1 ⟨by have := e.h; (try dsimp only at this); rw [this, hL]⟩ j⟩)
 obtain ⟨c0, c1, e2, j2, w2⟩ := hn
 exact ⟨⟨(n, c0, c1), e2, j2⟩, Nat.lt_succ_self n, w2⟩
abbrev Q3 {R : Type} {A0 A1 A2 : Type} (L : Nat -> A0 -> A1 -> A2 -> R) (S : A0 -> A1 -> A2 -> St) (I : Nat -> A0 -> A1 -> A2 -> Prop) (t : R) (b : Nat) : NxI := ⟨fun τ => ∃ a0 a1 a2, Me t (L b a0 a1 a2) /\ (1 <= b /\ I b a0 a1 a2) /\ Wk τ (S a0 a1 a2)⟩
theorem nx3 {R : Type} {A0 A1 A2 : Type} {L : Nat -> A0 -> A1 -> A2 -> R} {S : A0 -> A1 -> A2 -> St} {I : Nat -> A0 -> A1 -> A2 -> Prop} {t : R} {b : Nat} {a0 : A0} {a1 : A1} {a2 : A2} (e : Me t (L b a0 a1 a2)) (hI : 1 <= b /\ I b a0 a1 a2 := by ((try dsimp only); first | omega | (simp at *; omega))) (hw : Wk σ (S a0 a1 a2) := by exact Kt (by simp)) : @Nx σ (Q3 L S I t b) := ⟨a0, a1, a2, e, hI, hw⟩
theorem ny3 {R : Type} {A0 A1 A2 : Type} {L : Nat -> A0 -> A1 -> A2 -> R} {S : A0 -> A1 -> A2 -> St} {I : Nat -> A0 -> A1 -> A2 -> Prop} {t : R} {b : Nat} {a0 : A0} {a1 : A1} {a2 : A2} {q : Prop} (F : q) (e : Me t (L b a0 a1 a2)) (hI : 1 <= b /\ I b a0 a1 a2 := by ((try dsimp only); first | omega | (simp at *; omega))) (kw : q -> Wk σ (S a0 a1 a2) := by (intro F; exact Kt (by simp [F]))) : @Nx σ (Q3 L S I t b) := ⟨a0, a1, a2, e, hI, kw F⟩
theorem lp3 {c : xF} {R : Type} {A0 A1 A2 : Type} {L B : Nat -> A0 -> A1 -> A2 -> R} (hL : ∀ (a0 : A0) (a1 : A1) (a2 : A2) (n : Nat), L (Nat.succ n) a0 a1 a2 = B n a0 a1 a2) (S : A0 -> A1 -> A2 -> St) (I : Nat -> A0 -> A1 -> A2 -> Prop) (n0 : Nat) (b0 : A0) (b1 : A1) (b2 : A2) {p : Nat -> A0 -> A1 -> A2 -> Prop}
  (round : ∀ n (a0 : A0) (a1 : A1) (a2 : A2), Me (L n0 b0 b1 b2) (B n a0 a1 a2) -> 1 <= n + 1 /\ I (n + 1) a0 a1 a2 -> p n a0 a1 a2) (hI : 1 <= n0 /\ I n0 b0 b1 b2 := by first | omega | (dsimp only; omega) | simp) (h0 : Wk σ (S b0 b1 b2) := by exact Kt (by simp)) (kk : ∀ n (a0 : A0) (a1 : A1) (a2 : A2), Bx (p n a0 a1 a2) -> @WI P (S a0 a1 a2) c (.nxt (fun σ' => @Nx σ' (Q3 L S I (L n0 b0 b1 b2) n)) k) := by (intro n_ e8 cg bJ z; simp; (repeat (with_reducible refine Go.Mo.sd ?_)); exact z.h)) : @RO P σ c k := by
 refine Vq (ι := { s : Nat × A0 × A1 × A2 // Me (L n0 b0 b1 b2) (L s.1 s.2.1 s.2.2.1 s.2.2.2) /\ (1 <= s.1 /\ I s.1 s.2.1 s.2.2.1 s.2.2.2) }) (fun s => S s.1.2.1 s.1.2.2.1 s.1.2.2.2) (fun s => s.1.1) ⟨(n0, b0, b1, b2), ⟨rfl⟩, hI⟩ h0 ?_
 rintro ⟨⟨n1, a0, a1, a2⟩, e, j⟩
 obtain ⟨n, rfl⟩ : ∃ q, n1 = q + 1 := ⟨n1 - 1, by have := j.1; (try dsimp only at this); omega⟩
 refine P2 (fun σ' hn => ?_) (kk n a0 a1 a2 ⟨round n a0 a1 a2 ⟨by have := e.h; (try dsimp only at this); rw [this, hL]⟩ j⟩)
 obtain ⟨c0, c1, c2, e2, j2, w2⟩ := hn
 exact ⟨⟨(n, c0, c1, c2), e2, j2⟩, Nat.lt_succ_self n, w2⟩
abbrev Q4 {R : Type} {A0 A1 A2 A3 : Type} (L : Nat -> A0 -> A1 -> A2 -> A3 -> R) (S : A0 -> A1 -> A2 -> A3 -> St) (I : Nat -> A0 -> A1 -> A2 -> A3 -> Prop) (t : R) (b : Nat) : NxI := ⟨fun τ => ∃ a0 a1 a2 a3, Me t (L b a0 a1 a2 a3) /\ (1 <= b /\ I b a0 a1 a2 a3) /\ Wk τ (S a0 a1 a2 a3)⟩
theorem nx4 {R : Type} {A0 A1 A2 A3 : Type} {L : Nat -> A0 -> A1 -> A2 -> A3 -> R} {S : A0 -> A1 -> A2 -> A3 -> St} {I : Nat -> A0 -> A1 -> A2 -> A3 -> Prop} {t : R} {b : Nat} {a0 : A0} {a1 : A1} {a2 : A2} {a3 : A3} (e : Me t (L b a0 a1 a2 a3)) (hI : 1 <= b /\ I b a0 a1 a2 a3 := by ((try dsimp only); first | omega | (simp at *; omega))) (hw : Wk σ (S a0 a1 a2 a3) := by exact Kt (by simp)) : @Nx σ (Q4 L S I t b) := ⟨a0, a1, a2, a3, e, hI, hw⟩
theorem ny4 {R : Type} {A0 A1 A2 A3 : Type} {L : Nat -> A0 -> A1 -> A2 -> A3 -> R} {S : A0 -> A1 -> A2 -> A3 -> St} {I : Nat -> A0 -> A1 -> A2 -> A3 -> Prop} {t : R} {b : Nat} {a0 : A0} {a1 : A1} {a2 : A2} {a3 : A3} {q : Prop} (F : q) (e : Me t (L b a0 a1 a2 a3)) (hI : 1 <= b /\ I b a0 a1 a2 a3 := by ((try dsimp only); first | omega | (simp at *; omega))) (kw : q -> Wk σ (S a0 a1 a2 a3) := by (intro F; exact Kt (by simp [F]))) : @Nx σ (Q4 L S I t b) := ⟨a0, a1, a2, a3, e, hI, kw F⟩
theorem lp4 {c : xF} {R : Type} {A0 A1 A2 A3 : Type} {L B : Nat -> A0 -> A1 -> A2 -> A3 -> R} (hL : ∀ (a0 : A0) (a1 : A1) (a2 : A2) (a3 : A3) (n : Nat), L (Nat.succ n) a0 a1 a2 a3 = B n a0 a1 a2 a3) (S : A0 -> A1 -> A2 -> A3 -> St) (I : Nat -> A0 -> A1 -> A2 -> A3 -> Prop) (n0 : Nat) (b0 : A0) (b1 : A1) (b2 : A2) (b3 : A3) {p : Nat -> A0 -> A1 -> A2 -> A3 -> Prop}
  (round : ∀ n (a0 : A0) (a1 : A1) (a2 : A2) (a3 : A3), Me (L n0 b0 b1 b2 b3) (B n a0 a1 a2 a3) -> 1 <= n + 1 /\ I (n + 1) a0 a1 a2 a3 -> p n a0 a1 a2 a3) (hI : 1 <= n0 /\ I n0 b0 b1 b2 b3 := by first | omega | (dsimp only; omega) | simp) (h0 : Wk σ (S b0 b1 b2 b3) := by exact Kt (by simp)) (kk : ∀ n (a0 : A0) (a1 : A1) (a2 : A2) (a3 : A3), Bx (p n a0 a1 a2 a3) -> @WI P (S a0 a1 a2 a3) c (.nxt (fun σ' => @Nx σ' (Q4 L S I (L n0 b0 b1 b2 b3) n)) k) := by (intro n_ e8 cg bJ a3_ z; simp; (repeat (with_reducible refine Go.Mo.sd ?_)); exact z.h)) : @RO P σ c k := by
 refine Vq (ι := { s : Nat × A0 × A1 × A2 × A3 // Me (L n0 b0 b1 b2 b3) (L s.1 s.2.1 s.2.2.1 s.2.2.2.1 s.2.2.2.2) /\ (1 <= s.1 /\ I s.1 s.2.1 s.2.2.1 s.2.2.2.1 s.2.2.2.2) }) (fun s => S s.1.2.1 s.1.2.2.1 s.1.2.2.2.1 s.1.2.2.2.2) (fun s => s.1.1) ⟨(n0, b0, b1, b2, b3), ⟨rfl⟩, hI⟩ h0 ?_
 rintro ⟨⟨n1, a0, a1, a2, a3⟩, e, j⟩
 obtain ⟨n, rfl⟩ : ∃ q, n1 = q + 1 := ⟨n1 - 1, by have := j.1; (try dsimp only at this); omega⟩
 refine P2 (fun σ' hn => ?_) (kk n a0 a1 a2 a3 ⟨round n a0 a1 a2 a3 ⟨by have := e.h; (try dsimp only at this); rw [this, hL]⟩ j⟩)
 obtain ⟨c0, c1, c2, c3, e2, j2, w2⟩ := hn
 exact ⟨⟨(n, c0, c1, c2, c3), e2, j2⟩, Nat.lt_succ_self n, w2⟩
abbrev Q5 {R : Type} {A0 A1 A2 A3 A4 : Type} (L : Nat -> A0 -> A1 -> A2 -> A3 -> A4 -> R) (S : A0 -> A1 -> A2 -> A3 -> A4 -> St) (I : Nat -> A0 -> A1 -> A2 -> A3 -> A4 -> Prop) (t : R) (b : Nat) : NxI := ⟨fun τ => ∃ a0 a1 a2 a3 a4, Me t (L b a0 a1 a2 a3 a4) /\ (1 <= b /\ I b a0 a1 a2 a3 a4) /\ Wk τ (S a0 a1 a2 a3 a4)⟩
theorem nx5 {R : Type} {A0 A1 A2 A3 A4 : Type} {L : Nat -> A0 -> A1 -> A2 -> A3 -> A4 -> R} {S : A0 -> A1 -> A2 -> A3 -> A4 -> St} {I : Nat -> A0 -> A1 -> A2 -> A3 -> A4 -> Prop} {t : R} {b : Nat} {a0 : A0} {a1 : A1} {a2 : A2} {a3 : A3} {a4 : A4} (e : Me t (L b a0 a1 a2 a3 a4)) (hI : 1 <= b /\ I b a0 a1 a2 a3 a4 := by ((try dsimp only); first | omega | (simp at *; omega))) (hw : Wk σ (S a0 a1 a2 a3 a4) := by exact Kt (by simp)) : @Nx σ (Q5 L S I t b) := ⟨a0, a1, a2, a3, a4, e, hI, hw⟩
theorem lp5 {c : xF} {R : Type} {A0 A1 A2 A3 A4 : Type} {L B : Nat -> A0 -> A1 -> A2 -> A3 -> A4 -> R} (hL : ∀ (a0 : A0) (a1 : A1) (a2 : A2) (a3 : A3) (a4 : A4) (n : Nat), L (Nat.succ n) a0 a1 a2 a3 a4 = B n a0 a1 a2 a3 a4) (S : A0 -> A1 -> A2 -> A3 -> A4 -> St) (I : Nat -> A0 -> A1 -> A2 -> A3 -> A4 -> Prop) (n0 : Nat) (b0 : A0) (b1 : A1) (b2 : A2) (b3 : A3) (b4 : A4) {p : Nat -> A0 -> A1 -> A2 -> A3 -> A4 -> Prop}
  (round : ∀ n (a0 : A0) (a1 : A1) (a2 : A2) (a3 : A3) (a4 : A4), Me (L n0 b0 b1 b2 b3 b4) (B n a0 a1 a2 a3 a4) -> 1 <= n + 1 /\ I (n + 1) a0 a1 a2 a3 a4 -> p n a0 a1 a2 a3 a4) (hI : 1 <= n0 /\ I n0 b0 b1 b2 b3 b4 := by first | omega | (dsimp only; omega) | simp) (h0 : Wk σ (S b0 b1 b2 b3 b4) := by exact Kt (by simp)) (kk : ∀ n (a0 : A0) (a1 : A1) (a2 : A2) (a3 : A3) (a4 : A4), Bx (p n a0 a1 a2 a3 a4) -> @WI P (S a0 a1 a2 a3 a4) c (.nxt (fun σ' => @Nx σ' (Q5 L S I (L n0 b0 b1 b2 b3 b4) n)) k) := by (intro n_ e8 cg bJ a3_ a4_ z; simp; (repeat (with_reducible refine Go.Mo.sd ?_)); exact z.h)) : @RO P σ c k := by
 refine Vq (ι := { s : Nat × A0 × A1 × A2 × A3 × A4 // Me (L n0 b0 b1 b2 b3 b4) (L s.1 s.2.1 s.2.2.1 s.2.2.2.1 s.2.2.2.2.1 s.2.2.2.2.2) /\ (1 <= s.1 /\ I s.1 s.2.1 s.2.2.1 s.2.2.2.1 s.2.2.2.2.1 s.2.2.2.2.2) }) (fun s => S s.1.2.1 s.1.2.2.1 s.1.2.2.2.1 s.1.2.2.2.2.1 s.1.2.2.2.2.2) (fun s => s.1.1) ⟨(n0, b0, b1, b2, b3, b4), ⟨rfl⟩, hI⟩ h0 ?_
 rintro ⟨⟨n1, a0, a1, a2, a3, a4⟩, e, j⟩
 obtain ⟨n, rfl⟩ : ∃ q, n1 = q + 1 := ⟨n1 - 1, by have := j.1; (try dsimp only at this); omega⟩
 refine P2 (fun σ' hn => ?_) (kk n a0 a1 a2 a3 a4 ⟨round n a0 a1 a2 a3 a4 ⟨by have := e.h; (try dsimp only at this); rw [this, hL]⟩ j⟩)
 obtain ⟨c0, c1, c2, c3, c4, e2, j2, w2⟩ := hn
 exact ⟨⟨(n, c0, c1, c2, c3, c4), e2, j2⟩, Nat.lt_succ_self n, w2⟩
abbrev Q9 {R : Type} {A0 A1 A2 A3 A4 A5 A6 A7 A8 : Type} (L : Nat -> A0 -> A1 -> A2 -> A3 -> A4 -> A5 -> A6 -> A7 -> A8 -> R) (S : A0 -> A1 -> A2 -> A3 -> A4 -> A5 -> A6 -> A7 -> A8 -> St) (I : Nat -> A0 -> A1 -> A2 -> A3 -> A4 -> A5 -> A6 -> A7 -> A8 -> Prop) (t : R) (b : Nat) : NxI := ⟨fun τ => ∃ a0 a1 a2 a3 a4 a5 a6 a7 a8, Me t (L b a0 a1 a2 a3 a4 a5 a6 a7 a8) /\ (1 <= b /\ I b a0 a1 a2 a3 a4 a5 a6 a7 a8) /\ Wk τ (S a0 a1 a2 a3 a4 a5 a6 a7 a8)⟩
theorem ny9 {R : Type} {A0 A1 A2 A3 A4 A5 A6 A7 A8 : Type} {L : Nat -> A0 -> A1 -> A2 -> A3 -> A4 -> A5 -> A6 -> A7 -> A8 -> R} {S : A0 -> A1 -> A2 -> A3 -> A4 -> A5 -> A6 -> A7 -> A8 -> St} {I : Nat -> A0 -> A1 -> A2 -> A3 -> A4 -> A5 -> A6 -> A7 -> A8 -> Prop} {t : R} {b : Nat} {a0 : A0} {a1 : A1} {a2 : A2} {a3 : A3} {a4 : A4} {a5 : A5} {a6 : A6} {a7 : A7} {a8 : A8} {q : Prop} (F : q) (e : Me t (L b a0 a1 a2 a3 a4 a5 a6 a7 a8)) (hI : 1 <= b /\ I b a0 a1 a2 a3 a4 a5 a6 a7 a8 := by ((try dsimp only); first | omega | (simp at *; omega))) (kw : q -> Wk σ (S a0 a1 a2 a3 a4 a5 a6 a7 a8) := by (intro F; exact Kt (by simp [F]))) : @Nx σ (Q9 L S I t b) := ⟨a0, a1, a2, a3, a4, a5, a6, a7, a8, e, hI, kw F⟩
theorem lp9 {c : xF} {R : Type} {A0 A1 A2 A3 A4 A5 A6 A7 A8 : Type} {L B : Nat -> A0 -> A1 -> A2 -> A3 -> A4 -> A5 -> A6 -> A7 -> A8 -> R} (hL : ∀ (a0 : A0) (a1 : A1) (a2 : A2) (a3 : A3) (a4 : A4) (a5 : A5) (a6 : A6) (a7 : A7) (a8 : A8) (n : Nat), L (Nat.succ n) a0 a1 a2 a3 a4 a5 a6 a7 a8 = B n a0 a1 a2 a3 a4 a5 a6 a7 a8) (S : A0 -> A1 -> A2 -> A3 -> A4 -> A5 -> A6 -> A7 -> A8 -> St) (I : Nat -> A0 -> A1 -> A2 -> A3 -> A4 -> A5 -> A6 -> A7 -> A8 -> Prop) (n0 : Nat) (b0 : A0) (b1 : A1) (b2 : A2) (b3 : A3) (b4 : A4) (b5 : A5) (b6 : A6) (b7 : A7) (b8 : A8) {p : Nat -> A0 -> A1 -> A2 -> A3 -> A4 -> A5 -> A6 -> A7 -> A8 -> Prop}
  (round : ∀ n (a0 : A0) (a1 : A1) (a2 : A2) (a3 : A3) (a4 : A4) (a5 : A5) (a6 : A6) (a7 : A7) (a8 : A8), Me (L n0 b0 b1 b2 b3 b4 b5 b6 b7 b8) (B n a0 a1 a2 a3 a4 a5 a6 a7 a8) -> 1 <= n + 1 /\ I (n + 1) a0 a1 a2 a3 a4 a5 a6 a7 a8 -> p n a0 a1 a2 a3 a4 a5 a6 a7 a8) (hI : 1 <= n0 /\ I n0 b0 b1 b2 b3 b4 b5 b6 b7 b8 := by first | omega | (dsimp only; omega) | simp) (h0 : Wk σ (S b0 b1 b2 b3 b4 b5 b6 b7 b8) := by exact Kt (by simp)) (kk : ∀ n (a0 : A0) (a1 : A1) (a2 : A2) (a3 : A3) (a4 : A4) (a5 : A5) (a6 : A6) (a7 : A7) (a8 : A8), Bx (p n a0 a1 a2 a3 a4 a5 a6 a7 a8) -> @WI P (S a0 a1 a2 a3 a4 a5 a6 a7 a8) c (.nxt (fun σ' => @Nx σ' (Q9 L S I (L n0 b0 b1 b2 b3 b4 b5 b6 b7 b8) n)) k) := by (intro n_ e8 cg bJ a3_ a4_ a5_ a6_ a7_ a8_ z; simp; (repeat (with_reducible refine Go.Mo.sd ?_)); exact z.h)) : @RO P σ c k := by
 refine Vq (ι := { s : Nat × A0 × A1 × A2 × A3 × A4 × A5 × A6 × A7 × A8 // Me (L n0 b0 b1 b2 b3 b4 b5 b6 b7 b8) (L s.1 s.2.1 s.2.2.1 s.2.2.2.1 s.2.2.2.2.1 s.2.2.2.2.2.1 s.2.2.2.2.2.2.1 s.2.2.2.2.2.2.2.1 s.2.2.2.2.2.2.2.2.1 s.2.2.2.2.2.2.2.2.2) /\ (1 <= s.1 /\ I s.1 s.2.1 s.2.2.1 s.2.2.2.1 s.2.2.2.2.1 s.2.2.2.2.2.1 s.2.2.2.2.2.2.1 s.2.2.2.2.2.2.2.1 s.2.2.2.2.2.2.2.2.1 s.2.2.2.2.2.2.2.2.2) }) (fun s => S s.1.2.1 s.1.2.2.1 s.1.2.2.2.1 s.1.2.2.2.2.1 s.1.2.2.2.2.2.1 s.1.2.2.2.2.2.2.1 s.1.2.2.2.2.2.2.2.1 s.1.2.2.2.2.2.2.2.2.1 s.1.2.2.2.2.2.2.2.2.2) (fun s => s.1.1) ⟨(n0, b0, b1, b2, b3, b4, b5, b6, b7, b8), ⟨rfl⟩, hI⟩ h0 ?_
 rintro ⟨⟨n1, a0, a1, a2, a3, a4, a5, a6, a7, a8⟩, e, j⟩
 obtain ⟨n, rfl⟩ : ∃ q, n1 = q + 1 := ⟨n1 - 1, by have := j.1; (try dsimp only at this); omega⟩
 refine P2 (fun σ' hn => ?_) (kk n a0 a1 a2 a3 a4 a5 a6 a7 a8 ⟨round n a0 a1 a2 a3 a4 a5 a6 a7 a8 ⟨by have := e.h; (try dsimp only at this); rw [this, hL]⟩ j⟩)
 obtain ⟨c0, c1, c2, c3, c4, c5, c6, c7, c8, e2, j2, w2⟩ := hn
 exact ⟨⟨(n, c0, c1, c2, c3, c4, c5, c6, c7, c8), e2, j2⟩, Nat.lt_succ_self n, w2⟩
abbrev Q16 {R : Type} {A0 A1 A2 A3 A4 A5 A6 A7 A8 A9 lL lM lN lO lP lQ : Type} (L : Nat -> A0 -> A1 -> A2 -> A3 -> A4 -> A5 -> A6 -> A7 -> A8 -> A9 -> lL -> lM -> lN -> lO -> lP -> lQ -> R) (S : A0 -> A1 -> A2 -> A3 -> A4 -> A5 -> A6 -> A7 -> A8 -> A9 -> lL -> lM -> lN -> lO -> lP -> lQ -> St) (I : Nat -> A0 -> A1 -> A2 -> A3 -> A4 -> A5 -> A6 -> A7 -> A8 -> A9 -> lL -> lM -> lN -> lO -> lP -> lQ -> Prop) (t : R) (b : Nat) : NxI := ⟨fun τ => ∃ a0 a1 a2 a3 a4 a5 a6 a7 a8 a9 mu mv mw my mz m0, Me t (L b a0 a1 a2 a3 a4 a5 a6 a7 a8 a9 mu mv mw my mz m0) /\ (1 <= b /\ I b a0 a1 a2 a3 a4 a5 a6 a7 a8 a9 mu mv mw my mz m0) /\ Wk τ (S a0 a1 a2 a3 a4 a5 a6 a7 a8 a9 mu mv mw my mz m0)⟩
theorem s5 {R : Type} {A0 A1 A2 A3 A4 A5 A6 A7 A8 A9 lL lM lN lO lP lQ : Type} {L : Nat -> A0 -> A1 -> A2 -> A3 -> A4 -> A5 -> A6 -> A7 -> A8 -> A9 -> lL -> lM -> lN -> lO -> lP -> lQ -> R} {S : A0 -> A1 -> A2 -> A3 -> A4 -> A5 -> A6 -> A7 -> A8 -> A9 -> lL -> lM -> lN -> lO -> lP -> lQ -> St} {I : Nat -> A0 -> A1 -> A2 -> A3 -> A4 -> A5 -> A6 -> A7 -> A8 -> A9 -> lL -> lM -> lN -> lO -> lP -> lQ -> Prop} {t : R} {b : Nat} {a0 : A0} {a1 : A1} {a2 : A2} {a3 : A3} {a4 : A4} {a5 : A5} {a6 : A6} {a7 : A7} {a8 : A8} {a9 : A9} {mu : lL} {mv : lM} {mw : lN} {my : lO} {mz : lP} {m0 : lQ} (e : Me t (L b a0 a1 a2 a3 a4 a5 a6 a7 a8 a9 mu mv mw my mz m0)) (hI : 1 <= b /\ I b a0 a1 a2 a3 a4 a5 a6 a7 a8 a9 mu mv mw my mz m0 := by ((try dsimp only); first | omega | (simp at *; omega))) (hw : Wk σ (S a0 a1 a2 a3 a4 a5 a6 a7 a8 a9 mu mv mw my mz m0) := by exact Kt (by simp)) : @Nx σ (Q16 L S I t b) := ⟨a0, a1, a2, a3, a4, a5, a6, a7, a8, a9, mu, mv, mw, my, mz, m0, e, hI, hw⟩
theorem sn {c : xF} {R : Type} {A0 A1 A2 A3 A4 A5 A6 A7 A8 A9 lL lM lN lO lP lQ : Type} {L B : Nat -> A0 -> A1 -> A2 -> A3 -> A4 -> A5 -> A6 -> A7 -> A8 -> A9 -> lL -> lM -> lN -> lO -> lP -> lQ -> R} (hL : ∀ (a0 : A0) (a1 : A1) (a2 : A2) (a3 : A3) (a4 : A4) (a5 : A5) (a6 : A6) (a7 : A7) (a8 : A8) (a9 : A9) (mu : lL) (mv : lM) (mw : lN) (my : lO) (mz : lP) (m0 : lQ) (n : Nat), L (Nat.succ n) a0 a1 a2 a3 a4 a5 a6 a7 a8 a9 mu mv mw my mz m0 = B n a0 a1 a2 a3 a4 a5 a6 a7 a8 a9 mu mv mw my mz m0) (S : A0 -> A1 -> A2 -> A3 -> A4 -> A5 -> A6 -> A7 -> A8 -> A9 -> lL -> lM -> lN -> lO -> lP -> lQ -> St) (I : Nat -> A0 -> A1 -> A2 -> A3 -> A4 -> A5 -> A6 -> A7 -> A8 -> A9 -> lL -> lM -> lN -> lO -> lP -> lQ -> Prop) (n0 : Nat) (b0 : A0) (b1 : A1) (b2 : A2) (b3 : A3) (b4 : A4) (b5 : A5) (b6 : A6) (b7 : A7) (b8 : A8) (b9 : A9) (ep : lL) (er : lM) (et : lN) (eu : lO) (ew : lP) (ez : lQ) {p : Nat -> A0 -> A1 -> A2 -> A3 -> A4 -> A5 -> A6 -> A7 -> A8 -> A9 -> lL -> lM -> lN -> lO -> lP -> lQ -> Prop}
  (round : ∀ n (a0 : A0) (a1 : A1) (a2 : A2) (a3 : A3) (a4 : A4) (a5 : A5) (a6 : A6) (a7 : A7) (a8 : A8) (a9 : A9) (mu : lL) (mv : lM) (mw : lN) (my : lO) (mz : lP) (m0 : lQ), Me (L n0 b0 b1 b2 b3 b4 b5 b6 b7 b8 b9 ep er et eu ew ez) (B n a0 a1 a2 a3 a4 a5 a6 a7 a8 a9 mu mv mw my mz m0) -> 1 <= n + 1 /\ I (n + 1) a0 a1 a2 a3 a4 a5 a6 a7 a8 a9 mu mv mw my mz m0 -> p n a0 a1 a2 a3 a4 a5 a6 a7 a8 a9 mu mv mw my mz m0) (hI : 1 <= n0 /\ I n0 b0 b1 b2 b3 b4 b5 b6 b7 b8 b9 ep er et eu ew ez := by first | omega | (dsimp only; omega) | simp) (h0 : Wk σ (S b0 b1 b2 b3 b4 b5 b6 b7 b8 b9 ep er et eu ew ez) := by exact Kt (by simp)) (kk : ∀ n (a0 : A0) (a1 : A1) (a2 : A2) (a3 : A3) (a4 : A4) (a5 : A5) (a6 : A6) (a7 : A7) (a8 : A8) (a9 : A9) (mu : lL) (mv : lM) (mw : lN) (my : lO) (mz : lP) (m0 : lQ), Bx (p n a0 a1 a2 a3 a4 a5 a6 a7 a8 a9 mu mv mw my mz m0) -> @WI P (S a0 a1 a2 a3 a4 a5 a6 a7 a8 a9 mu mv mw my mz m0) c (.nxt (fun σ' => @Nx σ' (Q16 L S I (L n0 b0 b1 b2 b3 b4 b5 b6 b7 b8 b9 ep er et eu ew ez) n)) k) := by (intro n_ e8 cg bJ a3_ a4_ a5_ a6_ a7_ a8_ a9_ a10_ a11_ a12_ a13_ a14_ a15_ z; simp; (repeat (with_reducible refine Go.Mo.sd ?_)); exact z.h)) : @RO P σ c k := by
 refine Vq (ι := { s : Nat × A0 × A1 × A2 × A3 × A4 × A5 × A6 × A7 × A8 × A9 × lL × lM × lN × lO × lP × lQ // Me (L n0 b0 b1 b2 b3 b4 b5 b6 b7 b8 b9 ep er et eu ew ez) (L s.1 s.2.1 s.2.2.1 s.2.2.2.1 s.2.2.2.2.1 s.2.2.2.2.2.1 s.2.2.2.2.2.2.1 s.2.2.2.2.2.2.2.1 s.2.2.2.2.2.2.2.2.1 s.2.2.2.2.2.2.2.2.2.1 s.2.2.2.2.2.2.2.2.2.2.1 s.2.2.2.2.2.2.2.2.2.2.2.1 s.2.2.2.2.2.2.2.2.2.2.2.2.1 s.2.2.2.2.2.2.2.2.2.2.2.2.2.1 s.2.2.2.2.2.2.2.2.2.2.2.2.2.2.1 s.2.2.2.2.2.2.2.2.2.2.2.2.2.2.2.1 s.2.2.2.2.2.2.2.2.2.2.2.2.2.2.2.2) /\ (1 <= s.1 /\ I s.1 s.2.1 s.2.2.1 s.2.2.2.1 s.2.2.2.2.1 s.2.2.2.2.2.1 s.2.2.2.2.2.2.1 s.2.2.2.2.2.2.2.1 s.2.2.2.2.2.2.2.2.1 s.2.2.2.2.2.2.2.2.2.1 s.2.2.2.2.2.2.2.2.2.2.1 s.2.2.2.2.2.2.2.2.2.2.2.1 s.2.2.2.2.2.2.2.2.2.2.2.2.1 s.2.2.2.2.2.2.2.2.2.2.2.2.2.1 s.2.2.2.2.2.2.2.2.2.2.2.2.2.2.1 s.2.2.2.2.2.2.2.2.2.2.2.2.2.2.2.1 s.2.2.2.2.2.2.2.2.2.2.2.2.2.2.2.2) }) (fun s => S s.1.2.1 s.1.2.2.1 s.1.2.2.2.1 s.1.2.2.2.2.1 s.1.2.2.2.2.2.1 s.1.2.2.2.2.2.2.1 s.1.2.2.2.2.2.2.2.1 s.1.2.2.2.2.2.2.2.2.1 s.1.2.2.2.2.2.2.2.2.2.1 s.1.2.2.2.2.2.2.2.2.2.2.1 s.1.2.2.2.2.2.2.2.2.2.2.2.1 s.1.2.2.2.2.2.2.2.2.2.2.2.2.1 s.1.2.2.2.2.2.2.2.2.2.2.2.2.2.1 s.1.2.2.2.2.2.2.2.2.2.2.2.2.2.2.1 s.1.2.2.2.2.2.2.2.2.2.2.2.2.2.2.2.1 s.1.2.2.2.2.2.2.2.2.2.2.2.2.2.2.2.2) (fun s => s.1.1) ⟨(n0, b0, b1, b2, b3, b4, b5, b6, b7, b8, b9, ep, er, et, eu, ew, ez), ⟨rfl⟩, hI⟩ h0 ?_
 rintro ⟨⟨n1, a0, a1, a2, a3, a4, a5, a6, a7, a8, a9, mu, mv, mw, my, mz, m0⟩, e, j⟩
 obtain ⟨n, rfl⟩ : ∃ q, n1 = q + 1 := ⟨n1 - 1, by have := j.1; (try dsimp only at this); omega⟩
 refine P2 (fun σ' hn => ?_) (kk n a0 a1 a2 a3 a4 a5 a6 a7 a8 a9 mu mv mw my mz m0 ⟨round n a0 a1 a2 a3 a4 a5 a6 a7 a8 a9 mu mv mw my mz m0 ⟨by have := e.h; (try dsimp only at this); rw [this, hL]⟩ j⟩)
 obtain ⟨c0, c1, c2, c3, c4, c5, c6, c7, c8, c9, c10, c11, c12, c13, c14, c15, e2, j2, w2⟩ := hn
 exact ⟨⟨(n, c0, c1, c2, c3, c4, c5, c6, c7, c8, c9, c10, c11, c12, c13, c14, c15), e2, j2⟩, Nat.lt_succ_self n, w2⟩
end
section
variable {P : Program} {σ : St} {k : Fr}
theorem T7 {A : KD} {o : OpI} {l : Km} {d : Nat} {T : TypeId} {n : Nat} {parts : Array (Nat × Operand)} (h : @EI P (σ.new d (.one (.sref d 0 0 (Ku P σ (ZT P T) (P.cellsOf (ZT P T)) parts.toList 0).2.length)) [.lit (P.cellsOf (ZT P T)) (Ku P σ (ZT P T) (P.cellsOf (ZT P T)) parts.toList 0).2]) A l k) (pP : o.o.op = .buildSlice T n parts := by exact rfl) (hg : o.o.guard = none := by exact rfl) (hd : o.o.dst = some d := by exact rfl)
  (h1 : σ.fresh d = true /\ XW P T = true /\ Qg P (ZT P T) = true /\ 0 < P.cellsOf (ZT P T) /\ parts.toList.length = n /\ n * P.cellsOf (ZT P T) <= 16777216 := by simp) (h2 : (Ku P σ (ZT P T) (P.cellsOf (ZT P T)) parts.toList 0).1 := by simp)
  (h3 : YU d (Ku P σ (ZT P T) (P.cellsOf (ZT P T)) parts.toList 0).2.flatten = false := by simp)
  : @SI P σ A o l k := s7 pP hg hd h1 h2 h3 h
theorem Ss {A : KD} {o : OpI} {l : Km} {d : Nat} {x y : Operand} {t : TypeId} {pW news : List (List D)} {l1 l2 : List (Nat × Nat)} {size : Nat} (h : @EI P ((σ.Z9 (l1 ++ l2)).new d (.one (.sref d 0 0 (pW.length + news.length))) [.arr true size (pW ++ news)]) A l k) (pP : o.o.op = .call ⟨.builtin .append, #[x, y], #[t, t]⟩ := by exact rfl) (hg : o.o.guard = none := by exact rfl) (hd : o.o.dst = some d := by exact rfl) (oQ : A.bar o.o = true := by exact rfl)
  (oy : size = P.cellsOf (ZT P t) := by simp) (h1 : gOf (look P σ t x) = true /\ gOf (look P σ t y) = true /\ XW P t = true /\ Qg P (ZT P t) = true /\ 0 < P.cellsOf (ZT P t) := by simp)
  (h2 : (VI σ (unc (look P σ t x)) size).1 /\ (VI σ (unc (look P σ t x)) size).2 = (pW, l1) := by simp) (h3 : (VV σ (unc (look P σ t y)) size).1 /\ (VV σ (unc (look P σ t y)) size).2 = (news, l2) := by simp)
  (h4 : (l1 ++ l2).Nodup /\ (σ.Z9 (l1 ++ l2)).fresh d = true := by simp) (h5 : (pW.length + news.length) * P.bytesOf (ZT P t) <= 140737488355328 /\ pW.length + news.length <= 9223372036854775807 := by (simp <;> omega))
  : @SI P σ A o l k := sE pP hg hd oQ oy h1 h2 h3 h4 h5 h
theorem AG {A : KD} {o : OpI} {l : Km} {T : TypeId} {x y : Operand} {t j i size : Nat} {rows : List (List D)} {ds : List D} {L : List (Nat × Nat)} (h : @EI P ((σ.Z9 L).YC t j (.arr true size (rows.set i ds))) A l k) (pP : o.o.op = .store T x y := by exact rfl) (hg : o.o.guard = none := by exact rfl) (hd : o.o.dst = none := by exact rfl) (oQ : A.bar o.o = true := by exact rfl)
  (hx : unc (look P σ 0 x) = .one (.ptr t j i 0) := by simp) (ho : σ.ob t j = .arr true size rows := by simp) (hi : i < rows.length := by (simp; try omega)) (h1 : xo P T = true /\ gOf (look P σ 0 x) = true /\ gOf (look P σ T y) = true /\ (unc (look P σ T y)).flat = true := by simp)
  (h2 : Jd σ (unc (look P σ T y)).cells = some ds := by simp) (h3 : QI σ (unc (look P σ T y)).cells := by simp) (h4 : Yv (unc (look P σ T y)).cells = L := by simp) (h5 : L.Nodup /\ (t, j) ∉ L /\ (σ.Z9 L).zi (At.isT t) = false := by simp) (h6 : ds.length = P.cellsOf T /\ P.cellsOf T = size := by simp)
  : @SI P σ A o l k := sr pP hg hd oQ hx ho hi h1 h2 h3 h4 h5 h6 h
end
theorem wkS {σ σ' : St} (ρ : Ren) (F : List (Nat × Nat)) (po : VW σ' ρ ρ = true := by exact rfl) (h : SF σ ρ F σ σ' 0 := by simp) : Wk σ σ' := X1 ρ F po h
theorem drJ {P : Program} {id : Nat} {σ : St} {l : List Oper} {br : Oper -> Bool} {k : Fr} (bs : List Nat) (hm : P.follows .mixedOrders = true) (h : @EI P σ ⟨⟨l⟩, O8 bs⟩ ⟨l⟩ k) (hdr : Vm.Oi P ⟨l⟩ (fun i => i) (O8 bs) = true := by kernel_rfl) (oG : xP ⟨l⟩ (fun i => i) σ = true := by kernel_rfl) : @DI P id σ ⟨⟨l⟩, br⟩ k := sM bs hm hdr oG h
theorem bsD {P : Program} {σ : St} {k : Fr} {A : KD} {o : OpI} {l : Km} {d : Nat} {T : TypeId} {n : Nat} {parts : Array (Nat × Operand)} (h : @EI P (σ.put d (.one (.d (.sl (P.cellsOf (ZT P T)) (qo P σ (ZT P T) (P.cellsOf (ZT P T)) parts.toList 0).2)))) A l k) (pP : o.o.op = .buildSlice T n parts := by exact rfl) (hg : o.o.guard = none := by exact rfl) (hd : o.o.dst = some d := by exact rfl)
  (h1 : XW P T = true /\ Qg P (ZT P T) = true /\ 0 < P.cellsOf (ZT P T) /\ parts.toList.length = n /\ n * P.cellsOf (ZT P T) <= 16777216 := by simp) (h2 : (qo P σ (ZT P T) (P.cellsOf (ZT P T)) parts.toList 0).1 := by simp) : @SI P σ A o l k := sy pP hg hd h1 h2 h
theorem rpS {g p : Prop} (h : p) (kk : Bx p -> g := by (intro z; (repeat (with_reducible refine Go.Mo.sd ?_)); exact z.h)) : g := kk ⟨h⟩
theorem rpG {g p : Prop} (h : p) (kk : Bx p -> g := by (intro z; (repeat (with_reducible refine Go.Mo.sdg ?_)); exact z.h)) : g := kk ⟨h⟩
theorem xs {p q : Prop} (u : q) (h : q -> p := by (intro u; simp (maxDischargeDepth := 12) [u])) : p := h u
@[simp] abbrev rI (x : Int) : List D := [.int .i64 x]
@[simp] abbrev rB (b : Bool) : List D := [.bool b]
@[simp] abbrev rS (s : ByteArray) : List D := [.str s]
@[simp] abbrev rL {α : Type} (n : Nat) (f : α -> List D) (l : List α) : List D := [.sl n (l.map f)]
def DY (l : List Bool) : List At := l.map (fun b => .d (.bool b))
def zB (n : Nat) : List Bool := List.replicate n false
@[simp] theorem tj (n : Nat) : (zB n).length = n := List.length_replicate ..
@[simp] theorem Cj (σ : St) (ρ : Ren) (F : List (Nat × Nat)) : ∀ l : List Bool, S6 σ ρ F (DY l) (DY l) = True
 | [] => by simp [DY, S6]
 | b :: l => by
  have h := Cj σ ρ F l
  simp only [DY, List.map_cons, S6, H9] at h ⊢
  simp [h]
@[simp] theorem CN (t : Nat) : ∀ l : List Bool, YU t (DY l) = false
 | [] => by simp [DY, YU]
 | b :: l => by
  have h := CN t l
  simp only [DY, List.map_cons] at h ⊢
  simp [YU, At.ref] at h ⊢
  exact h
end Go.Vm
