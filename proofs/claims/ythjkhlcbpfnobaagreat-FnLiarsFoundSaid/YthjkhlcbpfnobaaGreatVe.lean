/- An abstract machine RH the model of Go, by value, and that it is sound: part Ve. No condition. -/
import Derived.Test.YthjkhlcbpfnobaaGreatVd
set_option linter.unusedVariables false
set_option linter.unusedSimpArgs false
namespace Go.Vm
open Go.RowKit
section
variable {P : Program} {σ : St} {k : Fr}
end
end Go.Vm
namespace Go.Vm
open Go.RowKit
def Iz (σ : St) : V -> Option Nat
 | .one (.d (.sl _ rows)) => some rows.length
 | .one (.sref t j _ len) => (match σ.ob t j with | .arr _ _ _ => some len | _ => none)
 | .fix _ (.one (.sref t j _ len)) => (match σ.ob t j with | .arr _ _ _ => some len | _ => none)
 | _ => none
def yg (σ : St) : Prop := ∀ t n, Iz σ (σ.get t) = some n -> n <= 9223372036854775807
theorem G1 {T : CS} {h : Nat -> Nat -> Hd} {σ : St} {w : World} : ∀ {v : V} {val : Value} {n : Nat}, Iz σ v = some n -> Xe T h σ.ob w v val -> n <= maxLen
 | .one (.d (.sl s rows)), val, n, hn, hv => by
  simp only [Iz] at hn
  cases hn
  obtain ⟨base, cap, _, h1, h2⟩ := LJ (r := (show Rd T w val (.sl s rows) from hv))
  omega
 | .one (.sref u j lo len), val, n, hn, hv => by
  simp only [Iz] at hn
  split at hn
  ·rename_i q s rows ho
   cases hn
   have hh := (show Zm T h σ.ob w (.sref u j lo len) val from hv).2.1 _ _ _ ho
   obtain ⟨_, _, _, base, cap, _, h1, h2, _⟩ := hh
   omega
  ·cases hn
 | .fix u0 (.one (.sref u j lo len)), val, n, hn, hv => by
  simp only [Iz] at hn
  split at hn
  ·rename_i q s rows ho
   cases hn
   have hh := (show Zm T h σ.ob w (.sref u j lo len) val from hv.2).2.1 _ _ _ ho
   obtain ⟨_, _, _, base, cap, _, h1, h2, _⟩ := hh
   omega
  ·cases hn
theorem MI {T0 : CS} {B : Nat -> Prop} {σ : St} {a : Act} {w : World} (r : X6 T0 B σ a w) : yg σ := by
 obtain ⟨X, h, r⟩ := r
 intro t n hn
 exact G1 hn (r.get t)
theorem Ow {P : Program} {c : Code} {Q : Exit -> St -> Prop} {σ : St} (h : yg σ -> AWP P c Q σ) : AWP P c Q σ := fun T0 B a w r => h (MI r) T0 B a w r
section
variable {P : Program} {σ : St} {k : Fr}
theorem Ee {b : Bool} {x y : KO} (ht : yg σ -> b = true -> @WI P σ x k) (hf : yg σ -> b = false -> @WI P σ y k) : @CI P b σ x y k :=
 ⟨fun h => Ow fun hk => ya (ht hk h), fun h => Ow fun hk => ya (hf hk h)⟩
theorem V2 {b c : Bool} {x y : KO} (hc : c = b) (ht : yg σ -> c = true -> @WI P σ x k) (hf : yg σ -> c = false -> @WI P σ y k) : @CI P b σ x y k := by
 subst hc; exact Ee ht hf
theorem okL {c : KO} (h : yg σ -> @WT P σ c k) : @WT P σ c k := Ow h
theorem okD {id : Nat} {A : Qo} (h : yg σ -> @DI P id σ A k) : @DI P id σ A k := Ow h
def Sf : Op -> Bool
 | .call _ => true
 | _ => false
theorem OM {A : Qo} {o : OpI} {l : JP} {j dj d : Nat} {want g : Bool} (wA : Sf o.o.op = false) (hg : o.o.guard = some (j, want)) (hd : o.o.dst = some d)
  (uD : (A.ops[j]?).bind (·.dst) = some dj) (uN : zX want (σ.get dj) = some g) (wO : dj < σ.length)
  (ht : g = true -> ((evV P σ o.o.op o.o.type).1 /\ gOf (evV P σ o.o.op o.o.type).2 = true /\ (unc (evV P σ o.o.op o.o.type).2).flat = true) /\ @EI P (σ.put d (.cnd true (unc (evV P σ o.o.op o.o.type).2))) A l k)
  (hf : g = false -> @EI P (σ.put d (.cnd false .any)) A l k) : @SI P σ A o l k := by
 have step : ∀ v, (g = true -> (evV P σ o.o.op o.o.type).1 /\ gOf (evV P σ o.o.op o.o.type).2 = true /\ v = unc (evV P σ o.o.op o.o.type).2 /\ v.flat = true) -> YX P A.ops o.o σ (σ.put d (.cnd g v)) := by
  intro v hv
  unfold YX
  simp only [hg]
  refine ⟨dj, d, g, v, uD, wO, hd, uN, fun rp => ?_, rfl⟩
  obtain ⟨h1, h2, h3, h4⟩ := hv rp
  have base : ∃ v0, Zv P σ o.o.op o.o.type v0 /\ gOf v0 = true /\ v = unc v0 /\ v.flat = true := ⟨_, Mq h1, h2, h3, h4⟩
  unfold Uk
  split
  ·rename_i c hc; rw [hc] at wA; cases wA
  ·exact base
 cases g with
 | true =>
  obtain ⟨⟨h1, h2, h3⟩, h4⟩ := ht rfl
  exact ⟨_, .inl (step _ fun _ => ⟨h1, h2, rfl, h3⟩), Xw h4⟩
 | false => exact ⟨_, .inl (step .any (fun h => by cases h)), Xw (hf rfl)⟩
end
theorem FN {P : Program} {σ : St} {k : Fr} {A : Qo} {o : OpI} {l : JP} {j dj d : Nat} {want g : Bool} (hg : o.o.guard = some (j, want)) (hd : o.o.dst = some d)
  (uD : (A.ops[j]?).bind (·.dst) = some dj) (uN : zX want (σ.get dj) = some g) (wO : dj < σ.length) (mr : g = false)
  (h : @EI P (σ.put d (.cnd false .any)) A l k) : @SI P σ A o l k := by
 subst mr
 refine ⟨_, .inl ?_, Xw h⟩
 unfold YX
 simp only [hg]
 exact ⟨dj, d, false, .any, uD, wO, hd, uN, (fun h => by cases h), rfl⟩
def nth {α : Type} [Inhabited α] (l : List α) (i : Nat) : α := l.getD i default
theorem ZI {α : Type} [Inhabited α] {f : α -> List D} {l : List α} {i : Nat} (h : i < l.length) : rowAt (l.map f) i = f (nth l i) := by
 simp [rowAt, nth, h]
theorem Jy {α : Type} {f : α -> List D} {l : List α} {i : Nat} {x : α} {r : List D} (h : r = f x) : (l.map f).set i r = (l.set i x).map f := by
 rw [h, List.map_set]
abbrev W (x : Int) : Int := IntKind.i64.wrap x
theorem XV {x : Int} (h1 : -9223372036854775808 <= x) (h2 : x <= 9223372036854775807) : IntKind.i64.wrap x = x := by
 have hr : IntKind.i64.min <= x /\ x <= IntKind.i64.max := by
  constructor
  ·show -9223372036854775808 <= x; exact h1
  ·show x <= 9223372036854775807; exact h2
 simp only [IntKind.wrap]
 first
  | (simp [IntKind.bits, IntKind.signed]; omega)
  | omega
theorem jL (i : Nat) : ((i : Int) - 1).toNat = i - 1 := by omega
attribute [simp] St.fresh JX V.ref V.VQ YB qe
end Go.Vm
namespace Go.Vm
open Go.RowKit
attribute [simp] St.Ft O8 M3 At.E8 ES
section
variable {P : Program} {σ : St} {k : Fr}
end
end Go.Vm
namespace Go.Vm
open Go.RowKit
def At.isP (t : Nat) : At -> Bool
 | .tref u _ _ _ _ => u == t
 | .ptr u _ _ _ => u == t
 | _ => false
section
variable {P : Program} {T0 : CS} {B : Nat -> Prop} {σ : St} {a : Act} {w w' : World} {X X' : Nat -> Prop} {h : Nat -> Nat -> Hd}
theorem Rel.EE (r : Rel T0 B σ a w X h) {t : Nat} {size : Nat} {rows : List (List At)} {news : List (List D)} {L : List (Nat × Nat)} (ho : σ.ob t 0 = .lit size rows) (uG : Qb σ rows = some news) (wa : QK σ rows)
  (hL : Z7 rows.flatten = L) (vF : L.Nodup) (oL : (t, 0) ∉ L) (hp : (σ.ZX L).Jh (At.isP t) = false) : X6 T0 B ((σ.ZX L).ZT t 0 (.arr true size news)) a w := by
 have wU : σ.ob t 0 ≠ .none := by rw [ho]; simp
 have h0 := r.obj t 0
 rw [ho] at h0
 obtain ⟨e, xs, uR, hz, wD⟩ := h0
 obtain ⟨ia, nG, eJ⟩ := KK uG
 have wF := kA r wD ia (KA wa) (by rw [hL]; exact vF)
 rw [hL] at wF
 have r1 := r.ZX L
 have wX := r.JN L
 have uI : ∀ b', (h t 0).u b' -> Xd σ h L b' -> False := by
  rintro b' uF ⟨p, rf, wB, mZ⟩
  obtain ⟨q1, q2⟩ := r.inj t 0 p.1 p.2 b' wU wB uF mZ
  exact oL (by rw [q1, q2]; exact rf)
 have uu : (σ.ZX L).ob t 0 = .lit size rows := by rw [St.QU, if_neg oL, ho]
 have uJ : (σ.ZX L).ob t 0 ≠ .none := by rw [uu]; simp
 have vW : ∀ u i, ¬ (u = t /\ i = 0) -> ((σ.ZX L).ZT t 0 (.arr true size news)).ob u i = (σ.ZX L).ob u i := by
  intro u i wB
  rw [St.Yj _ t 0 _ u i uJ, if_neg wB]
 have vR : ((σ.ZX L).ZT t 0 (.arr true size news)).ob t 0 = .arr true size news := by rw [St.Yj _ t 0 _ t 0 uJ]; simp
 generalize hσ : (σ.ZX L).ZT t 0 (.arr true size news) = σ2 at *
 generalize hσ1 : σ.ZX L = σ1 at *
 have hlen : σ2.length = σ1.length := by rw [<- hσ, St.YR]
 have vO : ∀ u, σ2.get u = σ1.get u := fun u => by rw [<- hσ, St.Y2]
 let wP : Hd := ⟨(h t 0).v, fun k => (xs[k]?).getD undef, fun b => (h t 0).u b \/ Xd σ h L b⟩
 let h' : Nat -> Nat -> Hd := fun u i => if u = t /\ i = 0 then wP else h u i
 have u3 : ∀ u i, ¬ (u = t /\ i = 0) -> h' u i = h u i := fun u i wB => if_neg wB
 have my : h' t 0 = wP := by simp [h']
 have hv : ∀ u i, (h' u i).v = (h u i).v := by
  intro u i
  by_cases hc : u = t /\ i = 0
  ·obtain ⟨rfl, rfl⟩ := hc; rw [my]
  ·rw [u3 u i hc]
 have at_ : ∀ {x : At} {v : Value}, At.isP t x = false -> Zm (Tof T0 X) h σ1.ob w x v -> Zm (Tof T0 X) h' σ2.ob w x v := by
  intro x v py rx
  cases x with
  | any => exact rx
  | d x => exact rx
  | nil s => exact rx
  | sref u i lo len =>
   refine ⟨rx.1, fun q s rws hq => ?_, fun s rws hq => ?_⟩
   ·by_cases hc : u = t /\ i = 0
    ·obtain ⟨rfl, rfl⟩ := hc
     rw [vR] at hq; cases hq
     rw [hv, <- nG]; exact rx.2.2 _ _ uu
    ·rw [vW u i hc] at hq; rw [hv]; exact rx.2.1 _ _ _ hq
   ·by_cases hc : u = t /\ i = 0
    ·obtain ⟨rfl, rfl⟩ := hc
     rw [vR] at hq; cases hq
    ·rw [vW u i hc] at hq; rw [hv]; exact rx.2.2 _ _ hq
  | ptr u i k c =>
   refine ⟨rx.1, fun q s rws hq => ?_⟩
   have hc : ¬ (u = t /\ i = 0) := fun hc => by simp [At.isP, hc.1] at py
   rw [vW u i hc] at hq; rw [hv]; exact rx.2 _ _ _ hq
  | bptr u c =>
   refine ⟨rx.1, fun cells hq => ?_⟩
   by_cases hc : u = t
   ·subst hc; rw [vR] at hq; cases hq
   ·rw [vW u 0 (fun hh => hc hh.1)] at hq; rw [hv]; exact rx.2 _ hq
  | fn f u =>
   refine ⟨rx.1, fun cells hq => ?_⟩
   by_cases hc : u = t
   ·subst hc; rw [vR] at hq; cases hq
   ·rw [vW u 0 (fun hh => hc hh.1)] at hq; rw [hv]; exact rx.2 _ hq
  | tref u i k c o =>
   refine ⟨rx.1, fun s rws hq => ?_⟩
   have hc : ¬ (u = t /\ i = 0) := fun hc => by simp [At.isP, hc.1] at py
   rw [vW u i hc] at hq; rw [u3 u i hc]; exact rx.2 _ _ hq
  | rptr rr c => exact rx
 have vX : ∀ u i, σ2.ob u i ≠ .none -> σ1.ob u i ≠ .none := by
  intro u i hn
  by_cases hc : u = t /\ i = 0
  ·obtain ⟨rfl, rfl⟩ := hc; exact uJ
  ·rw [vW u i hc] at hn; exact hn
 refine ⟨X, h', by rw [r1.size, hlen], r1.defers, r1.hB, r1.hX, r1.hT, fun u hu => ?_, fun u i => ?_, fun u i b hn hb => ?_, fun u i b hn hb => ?_, fun u i u' i' b hn wz hb wM => ?_⟩
 ·rw [hlen] at hu
  rw [vO]; exact Xe.map at_ (St.VD hp u) (r1.slot u hu)
 ·by_cases hc : u = t /\ i = 0
  ·obtain ⟨rfl, rfl⟩ := hc
   rw [vR, my]
   refine ⟨e, xs, by rw [<- nG]; exact uR, eJ size hz, wF.mono (fun b hb => ⟨.inr hb, fun ud => uI b (r.ub u 0 b wU ud) hb⟩), fun k x d hx _ _ => by simp [wP, hx]⟩
  ·rw [vW u i hc, u3 u i hc]
   exact Xs.map at_ (fun b k v hb hc => ⟨hc, hb⟩) (fun ho b => r1.ub u i b ho) (fun _ _ _ => rfl) (St.Tz hp u i) (r1.obj u i)
 ·by_cases hc : u = t /\ i = 0
  ·obtain ⟨rfl, rfl⟩ := hc
   rw [my] at hb ⊢; exact .inl (r.ub u 0 b wU hb)
  ·rw [u3 u i hc] at hb ⊢; exact r1.ub u i b (vX u i hn) hb
 ·by_cases hc : u = t /\ i = 0
  ·obtain ⟨rfl, rfl⟩ := hc
   rw [my] at hb
   rcases hb with hb | hb
   ·exact r.own u 0 b wU hb
   ·have := wX b hb; exact ⟨this.1, this.2.1, this.2.2.1⟩
  ·rw [u3 u i hc] at hb; exact r1.own u i b (vX u i hn) hb
 ·have key : ∀ u i b, ¬ (u = t /\ i = 0) -> σ1.ob u i ≠ .none -> (h u i).u b -> (h' t 0).u b -> False := by
   intro u i b hc hn hb wM
   rw [my] at wM
   rcases wM with wM | wM
   ·exact hc (r1.inj u i t 0 b hn uJ hb wM)
   ·exact (wX b wM).2.2.2 u i hn hb
  by_cases hc : u = t /\ i = 0
  ·by_cases wu : u' = t /\ i' = 0
   ·exact ⟨hc.1.trans wu.1.symm, hc.2.trans wu.2.symm⟩
   ·obtain ⟨rfl, rfl⟩ := hc
    rw [u3 u' i' wu] at wM
    exact (key u' i' b wu (vX u' i' wz) wM hb).elim
  ·rw [u3 u i hc] at hb
   by_cases wu : u' = t /\ i' = 0
   ·obtain ⟨rfl, rfl⟩ := wu
    exact (key u i b hc (vX u i hn) hb wM).elim
   ·rw [u3 u' i' wu] at wM
    exact r1.inj u i u' i' b (vX u i hn) (vX u' i' wz) hb wM
end
section
variable {P : Program} {σ : St} {k : Fr}
theorem Fe {A : Qo} {o : OpI} {l : JP} {d : Nat} {T : TypeId} {n : Nat} {parts : Array (Nat × Operand)} {news : List (List D)} {L : List (Nat × Nat)} (wA : o.o.op = .buildSlice T n parts) (hg : o.o.guard = none) (hd : o.o.dst = some d) (wj : A.bar o.o = true)
  (h1 : (σ.fresh d = true /\ d < σ.length) /\ YS P T = true /\ XD P (ZH P T) = true /\ 0 < P.cellsOf (ZH P T) /\ parts.toList.length = n /\ n * P.cellsOf (ZH P T) <= 16777216) (h2 : (Qx P σ (ZH P T) (P.cellsOf (ZH P T)) parts.toList 0).1)
  (h3 : Zs d (Qx P σ (ZH P T) (P.cellsOf (ZH P T)) parts.toList 0).2.flatten = false)
  (h4 : Qb (σ.new d (.one (.sref d 0 0 (Qx P σ (ZH P T) (P.cellsOf (ZH P T)) parts.toList 0).2.length)) [.lit (P.cellsOf (ZH P T)) (Qx P σ (ZH P T) (P.cellsOf (ZH P T)) parts.toList 0).2]) (Qx P σ (ZH P T) (P.cellsOf (ZH P T)) parts.toList 0).2 = some news /\
   QK (σ.new d (.one (.sref d 0 0 (Qx P σ (ZH P T) (P.cellsOf (ZH P T)) parts.toList 0).2.length)) [.lit (P.cellsOf (ZH P T)) (Qx P σ (ZH P T) (P.cellsOf (ZH P T)) parts.toList 0).2]) (Qx P σ (ZH P T) (P.cellsOf (ZH P T)) parts.toList 0).2)
  (h5 : Z7 (Qx P σ (ZH P T) (P.cellsOf (ZH P T)) parts.toList 0).2.flatten = L /\ L.Nodup /\ (d, 0) ∉ L)
  (h6 : ((σ.new d (.one (.sref d 0 0 (Qx P σ (ZH P T) (P.cellsOf (ZH P T)) parts.toList 0).2.length)) [.lit (P.cellsOf (ZH P T)) (Qx P σ (ZH P T) (P.cellsOf (ZH P T)) parts.toList 0).2]).ZX L).Jh (At.isP d) = false)
  (h : @EI P (((σ.new d (.one (.sref d 0 0 (Qx P σ (ZH P T) (P.cellsOf (ZH P T)) parts.toList 0).2.length)) [.lit (P.cellsOf (ZH P T)) (Qx P σ (ZH P T) (P.cellsOf (ZH P T)) parts.toList 0).2]).ZX L).ZT d 0 (.arr true (P.cellsOf (ZH P T)) news)) A l k) : @SI P σ A o l k := by
 refine ⟨_, .inr ⟨wj, ?_, fun d' wP hc => XH (Xb (z7 (fun e => wP (by rw [hd, e])) hc)), fun hh => by simp [y9, wA] at hh, fun hh => by first | (simp [zj, wA] at hh; done) | (unfold zj at hh; rw [wA] at hh; split at hh <;> simp_all), fun hh _ => by first | (simp [QL, wA] at hh; done) | (unfold QL at hh; rw [wA] at hh; split at hh <;> simp_all)⟩, Xw h⟩
 rintro T0 B a w K Q' ⟨X, hh, r⟩ hK
 have hw : Region.wanted o.o (yielded A.ops a.tmps) = true := by simp [Region.wanted, hg]
 rw [if_pos hw]
 refine kE r wA hd h1.1.1 h1.2.1 h1.2.2.1 h1.2.2.2.1 h1.2.2.2.2.1 h1.2.2.2.2.2 (S3 h2) h3 (fun a' w' hr mu => hK a' w' ?_ mu)
 obtain ⟨X', u3, r'⟩ := hr
 exact Rel.EE r' (by rw [St.Xm, if_pos ⟨rfl, h1.1.2⟩]; rfl) h4.1 h4.2 h5.1 h5.2.1 h5.2.2 h6
end
attribute [simp] At.isP
theorem Yx.own {P : Program} {f : FuncId} {args res : List (List D)} (hs : Yx P f args res) : QE P f true args res := by
 refine ⟨hs.1, fun T w wq hT ha => (hs.2 T w wq hT ha).mono ?_⟩
 rintro e w' ⟨vs, wh, he, hb, hf, hl, ⟨hlen, Sk, h1, h2, h3⟩⟩
 refine ⟨vs, wh, fun b => (w.heap.size <= b /\ b < w'.heap.size) /\ ∀ (k : Nat) (c : Value) (d : D), wh.flatten[k]? = some c -> res.flatten[k]? = some d -> d.scalar = false -> blk c ≠ some b, he, hb, fun b hb => hb.1, hf, Ks hl (fun k x d hx hd => ?_), fun _ => ⟨fun i c d b hc hd vN pz => ?_, fun i j c c' d d' b hc hd wu wP vN oR pz iv => ?_⟩⟩
 ·simp only [Km, if_true]
  have ho := h1 k x d hx hd
  cases ho with
  | int k n => exact .int _ _
  | bool b => exact .bool _
  | str s => exact .str _
  | unk v h => exact .unk _ h
  | sl v size rows S e' xs pX ho hz wM eQ hk ph wP =>
   refine ⟨e', xs, ho, hz, Zg.KD eQ (fun i y dd hy uK => (hk i y dd hy uK).rd (fun b k' hb => .inr ⟨h2 k b (ph i b hb).1, fun k2 c2 d2 sT sY p8 mv => ?_⟩))⟩
   have uW := h1 k2 c2 d2 sT sY
   have pY : Sk k2 b := by
    cases uW with
    | int k n => cases p8
    | bool b => cases p8
    | str s => cases p8
    | unk => cases p8
    | sl v2 oP oQ S2 e2 gR gS uW o7 wk pw rl wL m3 => exact wk b mv
   have := h3 k k2 b (ph i b hb).1 pY
   subst this
   rw [hx] at sT; cases sT
   exact (ph i b hb).2 mv
 ·have uW := h1 i c d hc hd
  have pY : Sk i b := by
   cases uW with
   | int k n => cases vN
   | bool b => cases vN
   | str s => cases vN
   | unk => cases vN
   | sl v2 oP oQ S2 e2 gR gS uW o7 wk pw rl wL m3 => exact wk b pz
  have := h2 i b pY
  exact ⟨this.1, this.2, fun hy => hy.2 i c d hc hd vN pz⟩
 ·have pY : ∀ (i : Nat) (c : Value) (d : D), wh.flatten[i]? = some c -> res.flatten[i]? = some d -> d.scalar = false -> blk c = some b -> Sk i b := by
   intro i c d hc hd vN pz
   have uW := h1 i c d hc hd
   cases uW with
   | int k n => cases vN
   | bool b => cases vN
   | str s => cases vN
   | unk => cases vN
   | sl v2 oP oQ S2 e2 gR gS uW o7 wk pw rl wL m3 => exact wk b pz
  exact h3 i j b (pY i c d hc hd vN pz) (pY j c' d' wu wP oR iv)
end Go.Vm
namespace Go.Vm
open Go.RowKit
def Pw (σ : St) (F : List (Nat × Nat)) : At -> At
 | .sref t j lo len => if inF F t j then (match σ.ob t j with | .arr _ s rows => .d (.sl s (cut rows lo len)) | _ => .any) else .sref t j lo len
 | .ptr t j i c => if inF F t j then .any else .ptr t j i c
 | .tref t j i c o => if inF F t j then .any else .tref t j i c o
 | x => x
def EV (σ : St) (F : List (Nat × Nat)) : V -> V
 | .one x => .one (Pw σ F x)
 | .agg xs => .agg (xs.map (Pw σ F))
 | .fix u (.one x) => .fix u (.one (Pw σ F x))
 | .fix u (.agg xs) => .fix u (.agg (xs.map (Pw σ F)))
 | _ => .any
def FO (σ : St) (F : List (Nat × Nat)) (t j : Nat) (o : Ob) : Ob :=
 if inF F t j then .none else match o with | .box cs => .box (cs.map (Pw σ F)) | .lit _ _ => .none | o => o
def LB (σ : St) (F : List (Nat × Nat)) (t : Nat) : List Ob -> Nat -> List Ob
 | [], _ => []
 | o :: os, j => FO σ F t j o :: LB σ F t os (j + 1)
def Vw (σ : St) (F : List (Nat × Nat)) : List Ent -> Nat -> List Ent
 | [], _ => []
 | e :: es, t => (EV σ F e.1, LB σ F t e.2 0) :: Vw σ F es (t + 1)
def St.frz (σ : St) (F : List (Nat × Nat)) : St := Vw σ F σ 0
theorem P5 {F : List (Nat × Nat)} : ∀ {σ0 : St} {es : List Ent} {t d : Nat}, Yt es d = true -> Yt (Vw σ0 F es t) d = true
 | σ0, [], t, d, h => by simp [Yt] at h
 | σ0, e :: es, t, 0, h => by
  rw [Kj] at h ⊢
  rcases h with h | ⟨x, h⟩
  ·left; simp only [List.getElem?_cons_zero, Option.some.injEq] at h; subst h; rfl
  ·right; simp only [List.getElem?_cons_zero, Option.some.injEq] at h; subst h; exact ⟨x, rfl⟩
 | σ0, e :: es, t, d + 1, h => by
  have : Yt es d = true := by rw [Kj] at h ⊢; simpa using h
  have := P5 (F := F) (σ0 := σ0) (es := es) (t := t + 1) this
  rw [Kj] at this ⊢
  simpa [Vw] using this
section
variable {P : Program} {σ : St} {k : Fr}
theorem En {A : Qo} {o : OpI} {l : JP} {σ' : St} (wj : A.bar o.o = true) (hw : Wk σ σ') (hc : ∀ d, Yt σ d = true -> Yt σ' d = true) (sS : y9 o.o = false) (ir : zj o.o = false) (tZ : QL P o.o = false \/ Wc A.bar o.o = false) (h : @SI P σ' A o l k) : @SI P σ A o l k := by
 obtain ⟨σ'', hs, hr⟩ := h
 refine ⟨σ'', .inr ⟨wj, fun T0 B a w K Q vw hK => kX hs T0 B a w K Q (hw T0 B a w vw) hK, fun d hd wg => ?_, fun hh => (by rw [sS] at hh; cases hh), fun hh => (by rw [ir] at hh; cases hh), fun hh ho => (by rcases tZ with tZ | tZ <;> (first | (rw [tZ] at hh; cases hh) | (rw [tZ] at ho; cases ho)))⟩, hr⟩
 have h1 := hc d wg
 rcases hs with hs | hs
 ·exact SR hs hd h1
 ·exact hs.2.2.1 d hd h1
theorem xt {A : Qo} {o : OpI} {l : JP} (F : List (Nat × Nat)) (wj : A.bar o.o = true) (hw : kK σ [] F σ (σ.frz F) 0) (h : @SI P (σ.frz F) A o l k) (sS : y9 o.o = false := by exact rfl) (ir : zj o.o = false := by exact rfl) (tZ : QL P o.o = false \/ Wc A.bar o.o = false := by first | exact .inl rfl | exact .inr rfl) : @SI P σ A o l k :=
 En wj (QB [] F rfl hw) (fun _ hd => P5 hd) sS ir tZ h
end
attribute [simp] Pw EV FO LB Vw St.frz
end Go.Vm
namespace Go.Vm
end Go.Vm
namespace Go.Vm
theorem El (P : Program) {σ σ' : St} {qq : Bool} (q2 : Bool) {d u j n size : Nat} {rows : List (List D)} (rp : σ.get d = .one (.sref u j 0 n)) (ho : σ.ob u j = .arr qq size rows) (hle : n <= rows.length) (lB : q2 = true -> qq = true) (w7 : (σ.ZT u j .none).fresh d = true)
  (h : Wk ((σ.ZT u j .none).new d (.one (.sref d 0 0 (rows.take n).length)) [.arr q2 size (rows.take n)]) σ') : Wk σ σ' := by
 have e : (rows.take n).length = n := by rw [List.length_take]; omega
 rw [e] at h
 rintro T0 B a w ⟨X, hh, r⟩
 refine h T0 B a w ?_
 have hv : Zv P σ (Oper.mk (some d) (.move (.tmp d)) 0 "" #[] none).op 0 (.one (.sref u j 0 n)) := by
  show V.one (.sref u j 0 n) = look P σ 0 (.tmp d)
  rw [<- rp]; rfl
 have key : ∀ (K : Act -> World -> Prop) (Q : Exit -> Act -> World -> Prop), (∀ a' w', X6 T0 B ((σ.ZT u j .none).new d (.one (.sref d 0 0 n)) [.arr q2 size (rows.take n)]) a' w' -> YQ B w w' -> K a' w') -> (Oper.mk (some d) (.move (.tmp d)) 0 "" #[] none).wp P a w K Q := by
  intro K Q hK
  cases qq with
  | false =>
   cases q2 with
   | false => exact Ik r rfl hv ho hle w7 hK
   | true => cases lB rfl
  | true =>
   cases q2 with
   | false => exact L4 r rfl hv ho hle w7 hK
   | true => exact Ic r rfl hv ho hle w7 hK
 have k2 := key (fun a' w' => w' = w -> X6 T0 B ((σ.ZT u j .none).new d (.one (.sref d 0 0 n)) [.arr q2 size (rows.take n)]) a' w') (fun _ _ _ => True) (fun a' w' hr _ _ => hr)
 unfold Oper.wp at k2
 simp only [execOp, Sem.run_pure, Oper.upon_value] at k2
 have k3 := k2 trivial
 have e2 : a.put (some d) (a.eval (.tmp d)) = a := by
  show { a with tmps := a.tmps.setIfInBounds d (a.tmps.getD d undef) } = a
  have : a.tmps.setIfInBounds d (a.tmps.getD d undef) = a.tmps := by
   apply Array.ext
   ·simp
   ·intro i h1 h2
    rw [Array.getElem_setIfInBounds]
    split
    ·rename_i hi; subst hi; simp [Array.getD, h2]
    ·rfl
  rw [this]
 rw [e2] at k3
 exact k3
end Go.Vm
namespace Go.Vm
open Go.RowKit
abbrev ptr (b : Nat) : Value := .pointer (some ⟨b, 0, none⟩)
abbrev Pp (T : CS) (w : World) (wq : List Value) (args : List (List D)) : Prop := Zg (fun v row => ∃ cs, Je v cs /\ Zg (Rd T w) cs row) wq args
def KX (n : Nat) (pre : List (List D)) (v : Value) (cells : List At) (v8 : List Ob) (post : List (List D)) : St :=
 Wp pre ++ (.fix v (.one (.bptr pre.length 0)), .box cells :: v8) :: (Wp post ++ List.replicate (n - (pre.length + 1 + post.length)) (V.any, []))
section
variable {P : Program} {T0 : CS} {B : Nat -> Prop} {σ : St} {a : Act} {w w' : World} {X X' : Nat -> Prop} {h : Nat -> Nat -> Hd}
theorem IQ (post : List (List D)) (m t : Nat) : ∃ x, (match (Wp post ++ List.replicate m ((V.any, []) : Ent))[t]? with | some e => e | none => (V.any, [])) = (x, []) /\ (x = .any \/ ∃ r, post[t]? = some r /\ x = vOf (r.map .d)) := by
 rcases Nat.lt_or_ge t post.length with h | h
 ·rw [List.getElem?_append_left (by rw [Xr]; exact h), js, List.getElem?_eq_getElem h]
  exact ⟨_, rfl, .inr ⟨_, rfl, rfl⟩⟩
 ·rw [List.getElem?_append_right (by rw [Xr]; exact h), List.getElem?_replicate]
  refine ⟨.any, ?_, .inl rfl⟩
  split
  ·rename_i e he
   split at he
   ·cases he; rfl
   ·cases he
  ·rfl
theorem HP (n : Nat) (pre : List (List D)) (v : Value) (cells : List At) (v8 : List Ob) (post : List (List D)) (t : Nat) :
  (t = pre.length /\ (KX n pre v cells v8 post)[t]? = some (.fix v (.one (.bptr pre.length 0)), .box cells :: v8)) \/
  (t ≠ pre.length /\ (∀ j, (KX n pre v cells v8 post).ob t j = .none) /\ ((KX n pre v cells v8 post).get t = .any \/ ∃ r, (KX n pre v cells v8 post).get t = vOf (r.map .d) /\ ((t < pre.length /\ pre[t]? = some r) \/ (pre.length < t /\ post[t - pre.length - 1]? = some r)))) := by
 rcases Nat.lt_trichotomy t pre.length with h | h | h
 ·refine .inr ⟨by omega, ?_⟩
  have : (KX n pre v cells v8 post)[t]? = some (vOf (pre[t].map .d), []) := by
   unfold KX
   rw [List.getElem?_append_left (by rw [Xr]; exact h), js, List.getElem?_eq_getElem h]; rfl
  refine ⟨fun j => by unfold St.ob; rw [this]; simp [Zw], .inr ⟨pre[t], by unfold St.get; rw [this], .inl ⟨h, List.getElem?_eq_getElem h⟩⟩⟩
 ·refine .inl ⟨h, ?_⟩
  unfold KX
  rw [List.getElem?_append_right (by rw [Xr]; omega), Xr, h, Nat.sub_self]; rfl
 ·refine .inr ⟨by omega, ?_⟩
  have e1 : (KX n pre v cells v8 post)[t]? = (Wp post ++ List.replicate (n - (pre.length + 1 + post.length)) ((V.any, []) : Ent))[t - pre.length - 1]? := by
   unfold KX
   rw [List.getElem?_append_right (by rw [Xr]; omega), Xr, show t - pre.length = (t - pre.length - 1) + 1 by omega, List.getElem?_cons_succ]; rfl
  obtain ⟨x, hx, hr⟩ := IQ post (n - (pre.length + 1 + post.length)) (t - pre.length - 1)
  rw [<- e1] at hx
  constructor
  ·intro j
   unfold St.ob
   cases hq : (KX n pre v cells v8 post)[t]? with
   | none => rfl
   | some e => rw [hq] at hx; simp only at hx; rw [hx]; simp [Zw]
  ·have hg : (KX n pre v cells v8 post).get t = x := by
    unfold St.get
    cases hq : (KX n pre v cells v8 post)[t]? with
    | none => rw [hq] at hx; simp only at hx; injection hx
    | some e => rw [hq] at hx; simp only at hx; rw [hx]
   rcases hr with rfl | ⟨r, hr, rfl⟩
   ·exact .inl hg
   ·exact .inr ⟨r, hg, .inr ⟨h, hr⟩⟩
theorem OH {T : CS} {S : Nat -> Prop} {n b : Nat} {pre post : List (List D)} {cells : List At} {v8 : List Ob} {vv uC : List Value} (hd : Nat -> Hd)
  (hT : ∀ k i, T k i -> k < w.heap.size /\ k ≠ b /\ ¬ S k) (hS : ∀ k, S k -> k < w.heap.size /\ k ≠ b) (hb : b < w.heap.size) (h0 : hd 0 = Hd.of (ptr b))
  (ua : ∀ (h : Nat -> Nat -> Hd) (ob : Nat -> Nat -> Ob), (∀ j, h pre.length j = hd j) -> (∀ j, ob pre.length j = Zw (.box cells :: v8) j) -> Xs (Tof T (fun _ => False)) h ob w (hd 0) (.box cells))
  (vW : ∀ (h : Nat -> Nat -> Hd) (ob : Nat -> Nat -> Ob) (j : Nat), Xs (Tof T (fun _ => False)) h ob w (hd (j + 1)) (Zw v8 j))
  (vS : ∀ j k, Zw v8 j ≠ .none -> blk (hd (j + 1)).v = some k -> (hd (j + 1)).u k) (wF : ∀ j k, Zw v8 j ≠ .none -> (hd (j + 1)).u k -> S k)
  (pK : ∀ i j k, Zw v8 i ≠ .none -> Zw v8 j ≠ .none -> (hd (i + 1)).u k -> (hd (j + 1)).u k -> i = j) (mS : Pp T w vv pre) (gN : Pp T w uC post) :
  X6 T (fun k => k < w.heap.size /\ k ≠ b /\ ¬ S k) (KX n pre (ptr b) cells v8 post) { tmps := (vv ++ ptr b :: uC).toArray ++ Array.replicate (n - (vv ++ ptr b :: uC).toArray.size) undef, defers := [] } w := by
 have mR := mS.length
 have pw := gN.length
 have uv := HP n pre (ptr b) cells v8 post
 have w6 : ∀ j, (KX n pre (ptr b) cells v8 post).ob pre.length j = Zw (.box cells :: v8) j := by
  intro j
  rcases uv pre.length with ⟨_, h⟩ | ⟨h, _⟩
  ·unfold St.ob; rw [h]
  ·exact absurd rfl h
 have pV : ∀ t j, (KX n pre (ptr b) cells v8 post).ob t j ≠ .none -> t = pre.length := by
  intro t j hn
  rcases uv t with ⟨h, _⟩ | ⟨_, h, _⟩
  ·exact h
  ·exact absurd (h j) hn
 have ri : ∀ b k v, T b k -> w.cell? ⟨b, k, none⟩ = some v -> w.cell? ⟨b, k, none⟩ = some v /\ Tof T (fun _ => False) b k := fun b k v hb hc => ⟨hc, .inl hb⟩
 have nJ : ∀ k, (hd 0).u k ↔ k = b := fun k => by rw [h0]; simp [Hd.of, blk, eq_comm]
 have vQ : ∀ j, Zw (.box cells :: v8) j ≠ .none -> (j = 0 \/ ∃ i, j = i + 1 /\ Zw v8 i ≠ .none) := by
  intro j hn
  cases j with
  | zero => exact .inl rfl
  | succ j => exact .inr ⟨j, rfl, by rw [zz] at hn; exact hn⟩
 have iu : ∀ j k, Zw (.box cells :: v8) j ≠ .none -> (hd j).u k -> k = b \/ S k := by
  intro j k hn hu
  rcases vQ j hn with rfl | ⟨i, rfl, hi⟩
  ·exact .inl ((nJ k).1 hu)
  ·exact .inr (wF i k hi hu)
 have oO : ∀ {wq : List Value} {args : List (List D)} {t : Nat} {r : List D}, Pp T w wq args -> args[t]? = some r -> ∃ v, wq[t]? = some v /\ Xe (Tof T (fun _ => False)) (fun t j => if t = pre.length then hd j else Hd.of undef) (KX n pre (ptr b) cells v8 post).ob w (vOf (r.map .d)) v := by
  intro wq args t r ha hr
  obtain ⟨v, hv, cs, hf, wD⟩ := ha.get' t r hr
  exact ⟨v, hv, (Tw hf (yy (wD.imp fun _ _ => Rd.mono ri))).up⟩
 refine ⟨fun _ => False, fun t j => if t = pre.length then hd j else Hd.of undef, ?_⟩
 refine ⟨?_, rfl, (fun k hk => hk.1), (fun b hb => hb.elim), (fun k i hk => hT k i hk), fun t ht => ?_, fun t j => ?_, fun t j k hn hk => ?_, fun t j k hn hk => ?_, fun t j t' j' k hn wz hk vt => ?_⟩
 ·simp [KX, Xr, mR, pw]; omega
 ·rcases uv t with ⟨rfl, h⟩ | ⟨wB, _, h⟩
  ·have u4 : ((vv ++ ptr b :: uC).toArray ++ Array.replicate (n - (vv ++ ptr b :: uC).toArray.size) undef).getD pre.length undef = ptr b := by
    rw [Array.getD_eq_getD_getElem?, Array.getElem?_append_left (by simp; omega)]
    simp [<- mR]
   rw [u4]
   unfold St.get; rw [h]
   exact ⟨rfl, rfl, fun wH _ => ⟨b, by simp [h0, Hd.of], rfl⟩⟩
  ·rcases h with h | ⟨r, h, hr⟩
   ·rw [h]; trivial
   ·rw [h]
    rcases hr with ⟨wO, hr⟩ | ⟨wO, hr⟩
    ·obtain ⟨v, hv, vw⟩ := oO mS hr
     have u4 : ((vv ++ ptr b :: uC).toArray ++ Array.replicate (n - (vv ++ ptr b :: uC).toArray.size) undef).getD t undef = v := by
      rw [Array.getD_eq_getD_getElem?, Array.getElem?_append_left (by simp; omega)]
      simp [List.getElem?_append_left (show t < vv.length by omega), hv]
     simp only [u4]; exact vw
    ·obtain ⟨v, hv, vw⟩ := oO gN hr
     have l7 := (List.getElem?_eq_some_iff.1 hv).1
     have u4 : ((vv ++ ptr b :: uC).toArray ++ Array.replicate (n - (vv ++ ptr b :: uC).toArray.size) undef).getD t undef = v := by
      rw [Array.getD_eq_getD_getElem?, Array.getElem?_append_left (by simp; omega)]
      simp only [List.getElem?_toArray]
      rw [List.getElem?_append_right (by omega), show t - vv.length = (t - pre.length - 1) + 1 by omega, List.getElem?_cons_succ, hv]; rfl
     simp only [u4]; exact vw
 ·by_cases hn : (KX n pre (ptr b) cells v8 post).ob t j = .none
  ·rw [hn]; trivial
  ·obtain rfl := pV t j hn
   rw [w6]
   simp only [if_true]
   cases j with
   | zero => exact ua _ _ (fun j => by simp) w6
   | succ j => rw [zz]; exact vW _ _ j
 ·obtain rfl := pV t j hn
  rw [w6] at hn
  simp only [if_true] at hk ⊢
  rcases vQ j hn with rfl | ⟨i, rfl, hi⟩
  ·rw [h0] at hk ⊢; exact hk
  ·exact vS i k hi hk
 ·obtain rfl := pV t j hn
  rw [w6] at hn
  simp only [if_true] at hk
  rcases iu j k hn hk with rfl | hs
  ·exact ⟨fun hh => hh.2.1 rfl, fun hh => hh, hb⟩
  ·exact ⟨fun hh => hh.2.2 hs, fun hh => hh, (hS k hs).1⟩
 ·obtain rfl := pV t j hn
  obtain rfl := pV t' j' wz
  rw [w6] at hn wz
  simp only [if_true] at hk vt
  refine ⟨rfl, ?_⟩
  rcases vQ j hn with rfl | ⟨i, rfl, hi⟩
  ·rcases vQ j' wz with rfl | ⟨i', rfl, vc⟩
   ·rfl
   ·exact absurd ((nJ k).1 hk) (hS k (wF i' k vc vt)).2
  ·rcases vQ j' wz with rfl | ⟨i', rfl, vc⟩
   ·exact absurd ((nJ k).1 vt) (hS k (wF i k hi hk)).2
   ·rw [pK i i' k hi vc hk vt]
end
end Go.Vm
namespace Go.Vm
open Go.RowKit
def FK (dp : Bool) (T : CS) (w : World) (b : Nat) (wE : List D) (res : List (List D)) (e : Ending) (w' : World) : Prop :=
 ∃ (vs : List Value) (wh : List (List Value)) (Y : Nat -> Prop), e = .returned (kT vs) /\ YQ (fun k => k < w.heap.size /\ k ≠ b) w w' /\ (∀ k, Y k -> w.heap.size <= k /\ k < w'.heap.size) /\
  (∃ cs e', w'.heap[b]? = some (.cells cs e' (0, 0)) /\ Zg (Rd (Tof T Y) w') cs.toList wE) /\ Zg Je vs wh /\ Zg (fun (cs : List Value) (row : List D) => cs.length = row.length) wh res /\
  (if dp then Xz w' wh.flatten res.flatten (fun k => w.heap.size <= k /\ k < w'.heap.size /\ ¬ Y k) else Zg (fun cs row => Zg (Rd (Tof T Y) w') cs row) wh res)
def KE (P : Program) (f : FuncId) (dp : Bool) (row : List D) (args : List (List D)) (wE : List D) (res : List (List D)) : Prop :=
 qU P f = true /\ ∀ (T : CS) (w : World) (b : Nat) (wq : List Value), (∀ k i, T k i -> k < w.heap.size /\ k ≠ b) -> b < w.heap.size -> (∃ cs e, w.heap[b]? = some (.cells cs e (0, 0)) /\ Zg (Rd T w) cs.toList row) ->
  Pp T w wq args -> Calls P f (ptr b :: wq).toArray w (FK dp T w b wE res)
def F8 (P : Program) (fn : Func) (v : Value) (dp : Bool) (wE : List D) (res : List (List D)) (e : Exit) (σ : St) : Prop :=
 (e = .ret \/ e = .normal) /\ (∃ v8, σ.head? = some (.fix v (.one (.bptr 0 0)), .box (wE.map .d) :: v8)) /\ ∃ vY, jY P σ fn.results.toList vY /\
  (if dp then Qb σ vY = some res /\ QK σ vY /\ (Z7 vY.flatten).Nodup else zo σ vY = some res)
def Ui (P : Program) (f : FuncId) (args : List (List D)) (wE : List D) : Prop :=
 qU P f = true /\ ∀ (T : CS) (w : World) (wq : List Value), (∀ k i, T k i -> k < w.heap.size) -> Pp T w wq args ->
  Calls P f wq.toArray w fun e w' => ∃ b Y, e = .returned (ptr b) /\ Below w.heap.size w w' /\ w.heap.size <= b /\ b < w'.heap.size /\ (∀ k, Y k -> w.heap.size <= k /\ k < w'.heap.size /\ k ≠ b) /\ ∃ cs e', w'.heap[b]? = some (.cells cs e' (0, 0)) /\ Zg (Rd (Tof T Y) w') cs.toList wE
def Fv (P : Program) (fn : Func) (wE : List D) (e : Exit) (σ : St) : Prop :=
 (e = .ret \/ e = .normal) /\ ∃ u, jY P σ fn.results.toList [[.bptr u 0]] /\ σ.ob u 0 = .box (wE.map .d)
section
variable {P : Program} {T0 : CS} {B : Nat -> Prop} {σ : St} {a : Act} {w w' : World} {X X' : Nat -> Prop} {h : Nat -> Nat -> Hd}
theorem kW {T : CS} {ob : Nat -> Nat -> Ob} : ∀ {row : List D} {cs : List Value}, Zg (Zm T h ob w) (row.map .d) cs -> Zg (Rd T w) cs row
 | [], _, wD => by cases wD; exact .nil
 | _ :: _, _, wD => by cases wD with | cons h1 h2 => exact .cons h1 (kW h2)
theorem R3 {f : FuncId} {fn : Func} {c : Code} (hf : P.funcs[f]? = some fn) (hb : fn.body = some c) (wa : qU P f = true) {dp : Bool} {row : List D} {args : List (List D)} {wE : List D} {res : List (List D)}
  (hw : ∀ v, AWP P c (F8 P fn v dp wE res) (KX fn.ntmps [] v (row.map .d) [] args)) : KE P f dp row args wE res := by
 refine ⟨wa, fun T w b wq hT wM ⟨iw, e0, mU, ou⟩ wI => calls_of_wp hf hb ?_⟩
 have rH := OH (w := w) (T := T) (S := fun _ => False) (n := fn.ntmps) (b := b) (pre := []) (post := args) (cells := row.map .d) (v8 := []) (vv := []) (uC := wq) (fun _ => Hd.of (ptr b))
  (fun k i hk => ⟨(hT k i hk).1, (hT k i hk).2, fun hh => hh⟩) (fun k hk => hk.elim) wM rfl
  (fun h ob _ _ => ⟨b, iw, e0, rfl, mU, yy (ou.imp fun _ _ => Rd.mono (fun b k v hb hc => ⟨hc, .inl hb⟩))⟩) (fun h ob j => by simp [Zw, Xs]) (fun j k hn => by simp [Zw] at hn) (fun j k hn => by simp [Zw] at hn) (fun i j k hn => by simp [Zw] at hn) .nil wI
 simp only [List.nil_append] at rH
 refine wp_mono (hw (ptr b) T _ _ w rH) ?_
 rintro e a' w' ⟨σ', ⟨he, ⟨v8, pL⟩, vY, v3, wG⟩, ⟨X, h, r⟩, wN⟩
 obtain ⟨vs, wh, wV, wc, wD⟩ := yT r v3
 have vM : 0 < σ'.length := by
  cases σ' with
  | nil => simp at pL
  | cons e σ => simp
 have p9 : σ'.get 0 = .fix (ptr b) (.one (.bptr 0 0)) := by
  cases σ' with
  | nil => simp at pL
  | cons e σ => simp at pL; simp [St.get, pL]
 have vL : σ'.ob 0 0 = .box (wE.map .d) := by
  cases σ' with
  | nil => simp at pL
  | cons e σ => simp at pL; simp [St.ob, pL, Zw]
 have sQ := r.slot 0 vM
 rw [p9] at sQ
 obtain ⟨nH, uS⟩ := sQ
 obtain ⟨b1, vP, vG⟩ := uS.2 _ vL
 rw [nH] at vG
 have ud : b1 = b := by injection vG with vG; injection vG with vG; injection vG with vG; exact vG.symm
 subst ud
 have vQ := r.obj 0 0
 rw [vL] at vQ
 obtain ⟨b2, sw, e', wk, u3, tV⟩ := vQ
 rw [vP] at wk
 have ud : b2 = b1 := by injection wk with wk; injection wk with wk; injection wk with wk; exact wk.symm
 subst ud
 have pW : YQ (fun k => k < w.heap.size /\ k ≠ b2) w w' := ⟨wN.os, wN.tape, wN.output, wN.size, fun k hk => wN.block k ⟨hk.1, hk.2, fun hh => hh⟩⟩
 have eO : ∀ k, X k -> k = b2 -> False := by
  rintro k hx rfl
  have vS := r.ub 0 0 k (by rw [vL]; simp) (by rw [vP]; rfl)
  exact (r.own 0 0 k (by rw [vL]; simp) vS).2.1 hx
 have hD : ∀ k, X k -> w.heap.size <= k /\ k < w'.heap.size := by
  intro k hk
  have h1 := r.hX k hk
  refine ⟨?_, h1.2⟩
  rcases Nat.lt_or_ge k w.heap.size with wO | tD
  ·exact absurd ⟨wO, fun hh => eO k hk hh, fun hh => hh⟩ h1.1
  ·exact tD
 have goal : a'.defers = [] /\ ∃ v, (results fn a'.tmps).run P w' = .ok v w' /\ FK dp T w b2 wE res (.returned v) w' := by
  refine ⟨r.defers, _, wV, ?_⟩
  cases dp with
  | true =>
   simp only [if_true] at wG
   obtain ⟨uG, uU, vF⟩ := wG
   refine ⟨vs, wh, X, rfl, pW, hD, ⟨sw, e', u3, kW tV⟩, wc, ?_, ?_⟩
   ·clear vF uU v3 wV wc hw
    induction wD generalizing res with
    | nil => simp [Qb] at uG; subst uG; exact .nil
    | cons h1 _ ih =>
     simp only [Qb] at uG
     split at uG
     ·rename_i row rs wi um
      cases uG
      exact .cons (by rw [<- h1.length]; exact (Ko wi).1) (ih um)
     ·cases uG
   ·simp only [if_true]
    refine (kA r (Kd wD) (KK uG).1 (KA uU) vF).mono (fun k hk => ?_)
    have hg := r.JN _ k hk
    refine ⟨?_, hg.2.2.1, hg.2.1⟩
    rcases Nat.lt_or_ge k w.heap.size with wO | tD
    ·refine absurd ⟨wO, ?_, fun hh => hh⟩ hg.1
     rintro rfl
     obtain ⟨p, hp, wB, hu⟩ := hk
     have vS := r.ub 0 0 k (by rw [vL]; simp) (by rw [vP]; rfl)
     obtain ⟨e1, e2⟩ := r.inj p.1 p.2 0 0 k wB (by rw [vL]; simp) hu vS
     obtain ⟨i, lo, len, hx⟩ := kp hp
     have hm := kc (KA uU) i _ hx
     rw [e1, e2] at hm
     obtain ⟨d, hd, mw⟩ := (Zg.get (R := fun x d => mvD σ' x = some d) (Zg.KD (Ko (KK uG).1).1 (fun i a b h1 h2 => (Ko (KK uG).1).2 i a b h1 h2)) i _ hx)
     rw [e1, e2] at mw
     simp [mvD, vL] at mw
    ·exact tD
  | false =>
   simp only [Bool.false_eq_true, if_false] at wG
   refine ⟨vs, wh, fun k => w.heap.size <= k /\ k < w'.heap.size, rfl, pW, fun k hk => hk, ⟨sw, e', u3, (kW tV).imp fun _ _ => Rd.mono (fun k i v hk hc => ⟨hc, ?_⟩)⟩, wc, ?_, ?_⟩
   ·rcases hk with hk | hk
    ·exact .inl hk
    ·exact .inr (hD k hk)
   ·clear v3 wV wc hw
    induction wD generalizing res with
    | nil => simp [zo] at wG; subst wG; exact .nil
    | cons h1 _ ih =>
     simp only [zo] at wG
     split at wG
     ·rename_i row rs wi um
      cases wG
      exact .cons ((r.rowOf false wi h1 (fun hh => by cases hh)).length) (ih um)
     ·cases wG
   ·simp only [Bool.false_eq_true, if_false]
    refine q7 r (fun k i hk => ?_) wG wD
    rcases hk with hk | ⟨t, j, q, size, rows, ho, hk⟩
    ·rcases hk with hk | hk
     ·exact .inl hk
     ·exact .inr (hD k hk)
    ·have wB : σ'.ob t j ≠ .none := by rw [ho]; simp
     have wF := r.own t j k wB hk
     refine .inr ⟨?_, wF.2.2⟩
     rcases Nat.lt_or_ge k w.heap.size with wO | tD
     ·refine absurd ⟨wO, ?_, fun hh => hh⟩ wF.1
      rintro rfl
      have vS := r.ub 0 0 k (by rw [vL]; simp) (by rw [vP]; rfl)
      obtain ⟨e1, e2⟩ := r.inj t j 0 0 k wB (by rw [vL]; simp) hk vS
      rw [e1, e2, vL] at ho; cases ho
     ·exact tD
 rcases he with rfl | rfl
 ·exact goal
 ·exact goal
theorem Rr {f : FuncId} {fn : Func} {c : Code} (hf : P.funcs[f]? = some fn) (hb : fn.body = some c) (wa : qU P f = true) {args : List (List D)} {wE : List D}
  (hw : AWP P c (Fv P fn wE) (zg fn.ntmps args)) : Ui P f args wE := by
 refine ⟨wa, fun T w wq hT wI => calls_of_wp hf hb ?_⟩
 refine wp_mono (hw T (fun b => b < w.heap.size) _ w (RF hT wI)) ?_
 rintro e a' w' ⟨σ', ⟨he, u, v3, nI⟩, ⟨X, h, r⟩, wN⟩
 have v5 : Below w.heap.size w w' := ⟨wN.os, wN.tape, wN.output, wN.size, wN.block⟩
 obtain ⟨vs, wh, wV, wc, wD⟩ := yT r v3
 cases wD with
 | cons h1 wD =>
  cases wD
  cases h1 with
  | @cons _ c0 _ _ hx h1 =>
   cases h1
   cases wc with
   | @cons v0 _ _ _ hu hn =>
    cases hn
    have uF : v0 = c0 := by
     rcases hu with ⟨c', nm, rfl, _⟩ | ⟨hn, _⟩
     ·cases nm; rfl
     ·simp at hn
    subst uF
    obtain ⟨b, vP, hv⟩ := hx.2 _ nI
    have vQ := r.obj u 0
    rw [nI] at vQ
    obtain ⟨b2, sw, e', wk, u3, tV⟩ := vQ
    rw [vP] at wk
    have ud : b2 = b := by injection wk with wk; injection wk with wk; injection wk with wk; exact wk.symm
    subst ud
    have wB : σ'.ob u 0 ≠ .none := by rw [nI]; simp
    have vS := r.ub u 0 b2 wB (by rw [vP]; rfl)
    have wF := r.own u 0 b2 wB vS
    have goal : a'.defers = [] /\ ∃ v, (results fn a'.tmps).run P w' = .ok v w' /\ ∃ b Y, Ending.returned v = .returned (ptr b) /\ Below w.heap.size w w' /\ w.heap.size <= b /\ b < w'.heap.size /\ (∀ k, Y k -> w.heap.size <= k /\ k < w'.heap.size /\ k ≠ b) /\ ∃ cs e', w'.heap[b]? = some (.cells cs e' (0, 0)) /\ Zg (Rd (Tof T Y) w') cs.toList wE := by
     refine ⟨r.defers, _, wV, b2, X, by rw [hv]; rfl, v5, by have := wF.1; omega, wF.2.2, fun k hk => ?_, sw, e', u3, kW tV⟩
     have vt := r.hX k hk
     refine ⟨by have := vt.1; omega, vt.2, ?_⟩
     rintro rfl
     exact wF.2.1 hk
    rcases he with rfl | rfl
    ·exact goal
    ·exact goal
end
end Go.Vm
namespace Go.Vm
open Go.RowKit
section
variable {P : Program} {T0 : CS} {B : Nat -> Prop} {σ : St} {a : Act} {w w' : World} {X X' : Nat -> Prop} {h : Nat -> Nat -> Hd}
theorem Lc {T : CS} {ob : Nat -> Nat -> Ob} {hd : Hd} {size : Nat} {rows : List (List D)} (hr : Xs T h ob w hd (.arr true size rows)) (hf : ∀ r ∈ rows, ∀ x ∈ r, x.scalar = true) : Xs T h ob w hd (.arr false size rows) := by
 obtain ⟨e, xs, ho, hz, ⟨hl, Sk, hk, _, _⟩, _⟩ := hr
 refine ⟨e, xs, ho, hz, Zg.KD hl (fun k x d hx hd => ?_)⟩
 obtain ⟨r0, tG, hdr⟩ := List.mem_flatten.1 (List.mem_of_getElem? hd)
 have vN := hf r0 tG d hdr
 have := hk k x d hx hd
 cases this with
 | int k n => exact .int _ _
 | bool b => exact .bool _
 | str s => exact .str _
 | unk v h => exact .unk _ h
 | sl => cases vN
theorem Rel.EB (r : Rel T0 B σ a w X h) {d : Nat} (hf : σ.fresh d = true) (M : Nat -> Prop) (hM : ∀ b, M b -> ¬ B b /\ ¬ X b /\ b < w.heap.size /\ ∀ t j, σ.ob t j ≠ .none -> ¬ (h t j).u b) {vs : List Value} {wh : List (List Value)} {res : List (List D)} (qs : List Bool)
  (wc : Zg Je vs wh) (hlen : Zg (fun (cs : List Value) (row : List D) => cs.length = row.length) wh res) (wF : Xz w wh.flatten res.flatten M) (hq : J0 qs res.flatten) : X6 T0 B (σ.new d (zu d res) (Zq qs res.flatten)) (a.put (some d) (kT vs)) w := by
 have wO := St.QN hf
 obtain ⟨rY, Sk, k1, k2, k3, k4⟩ := OP wF
 have wU : ∀ j, (σ.new d (zu d res) (Zq qs res.flatten)).ob d j = Zw (Zq qs res.flatten) j := fun j => by rw [St.Xm]; simp [wO]
 have hE := wF.top (T := Tof T0 X)
 have uQ : Zg (fun cs row => Zg (yJ (Tof T0 X) w) cs row) wh res := Ks hlen (fun k x d hx hd => by
  obtain ⟨c, hc, ht⟩ := hE.get' k d hd
  rw [hx] at hc; cases hc; exact ht)
 refine ⟨X, fun t j => if t = d then rY j else h t j, ?_⟩
 refine r.OT hf M (Nat.le_refl _) (fun _ _ _ => rfl) (fun b hb => ⟨(hM b hb).1, (hM b hb).2.1, fun t j _ hn => (hM b hb).2.2.2 t j hn⟩) (fun b hb => hb) (fun b hb => .inl hb) (zu d res) (kT vs) (Zq qs res.flatten) rY ?_ (fun j => ?_) (fun j b wB hb => ?_) (fun j b wB hb => ?_) (fun j j' b wB wv hb wM => ?_)
 ·exact S0 (h := fun t j => if t = d then rY j else h t j) (ob := (σ.new d (zu d res) (Zq qs res.flatten)).ob) (t := d) wc uQ (fun i size rows hi => by
   obtain ⟨q, uT, _⟩ := (Z5 qs res.flatten i hq).1 size rows hi
   exact ⟨q, by rw [wU]; exact uT⟩) (fun i c hi => by simp only [if_true]; exact k1 i c hi)
 ·by_cases wB : Zw (Zq qs res.flatten) j = .none
  ·rw [wB]; trivial
  ·obtain ⟨size, rows, hj⟩ := (Z5 qs res.flatten j hq).2 wB
   obtain ⟨q, uT, mb⟩ := (Z5 qs res.flatten j hq).1 size rows hj
   rw [uT]
   have := (k4 j size rows hj).2.2 (Tof T0 X) (fun t j => if t = d then rY j else h t j) (σ.new d (zu d res) (Zq qs res.flatten)).ob
   cases q with
   | true => exact this
   | false => exact Lc this (mb rfl)
 ·obtain ⟨size, rows, hj⟩ := (Z5 qs res.flatten j hq).2 wB
  exact (k4 j size rows hj).2.1 b hb
 ·obtain ⟨size, rows, hj⟩ := (Z5 qs res.flatten j hq).2 wB
  have := k2 j b ((k4 j size rows hj).1 b hb)
  exact ⟨.inr this, (hM b this).2.1, (hM b this).2.2.1⟩
 ·obtain ⟨size, rows, hj⟩ := (Z5 qs res.flatten j hq).2 wB
  obtain ⟨wW, wK, ue⟩ := (Z5 qs res.flatten j' hq).2 wv
  exact k3 j j' b ((k4 j size rows hj).1 b hb) ((k4 j' wW wK ue).1 b wM)
theorem Rel.IK (r : Rel T0 B σ a w X h) {t b : Nat} {cells : List At} {wE : List D} (ho : σ.ob t 0 = .box cells) (hv : (h t 0).v = ptr b) (vK : w.heap.size <= w'.heap.size) (hw : ∀ k, k < w.heap.size -> k ≠ b -> w'.heap[k]? = w.heap[k]?)
  (hX : ∀ b, X b -> X' b) (sZ : ∀ b, X' b -> X b \/ (w.heap.size <= b /\ b < w'.heap.size)) (sK : ∃ cs e, w'.heap[b]? = some (.cells cs e (0, 0)) /\ Zg (Rd (Tof T0 X') w') cs.toList wE) : Rel T0 B (σ.ZT t 0 (.box (wE.map .d))) a w' X' h := by
 have wU : σ.ob t 0 ≠ .none := by rw [ho]; simp
 have we : blk (h t 0).v = some b := by rw [hv]; rfl
 have vS := r.ub t 0 b wU we
 have mz := r.own t 0 b wU vS
 have hT : ∀ k i v, Tof T0 X k i -> w.cell? ⟨k, i, none⟩ = some v -> w'.cell? ⟨k, i, none⟩ = some v /\ Tof T0 X' k i := by
  intro k i v hk hc
  refine ⟨?_, hk.imp id (hX k)⟩
  have wB : k ≠ b := by
   rintro rfl
   rcases hk with hk | hk
   ·exact mz.1 (r.hT _ _ hk)
   ·exact mz.2.1 hk
  rw [World.cell?_of_block (hw k (r.Tlt hk) wB)]; exact hc
 have vW : ∀ u i, ¬ (u = t /\ i = 0) -> (σ.ZT t 0 (.box (wE.map .d))).ob u i = σ.ob u i := by
  intro u i wB
  rw [St.Yj σ t 0 _ u i wU, if_neg wB]
 have vR : (σ.ZT t 0 (.box (wE.map .d))).ob t 0 = .box (wE.map .d) := by rw [St.Yj σ t 0 _ t 0 wU]; simp
 have iW : ∀ u i, Cpt h h σ.ob (σ.ZT t 0 (.box (wE.map .d))).ob u i := by
  intro u i
  by_cases hu : u = t /\ i = 0
  ·obtain ⟨rfl, rfl⟩ := hu
   refine ⟨fun q size rows wZ => ?_, fun size rows wZ => ?_, fun wH wZ => ⟨rfl, cells, ho⟩⟩
   ·rw [vR] at wZ; cases wZ
   ·rw [vR] at wZ; cases wZ
  ·exact Cpt.same rfl (vW u i hu)
 have at_ : ∀ {x : At} {v : Value}, (fun _ => false : At -> Bool) x = false -> Zm (Tof T0 X) h σ.ob w x v -> Zm (Tof T0 X') h (σ.ZT t 0 (.box (wE.map .d))).ob w' x v := fun _ rx => Zm.GR hT iW rx
 have vX : ∀ u i, (σ.ZT t 0 (.box (wE.map .d))).ob u i ≠ .none -> σ.ob u i ≠ .none := by
  intro u i hn
  by_cases hu : u = t /\ i = 0
  ·obtain ⟨rfl, rfl⟩ := hu; exact wU
  ·rw [vW u i hu] at hn; exact hn
 refine ⟨by rw [r.size, St.YR], r.defers, fun b hb => Nat.lt_of_lt_of_le (r.hB b hb) vK, fun k hk => ?_, r.hT, fun u hu => ?_, fun u i => ?_, fun u i k hn => r.ub u i k (vX u i hn), fun u i k hn hk => ?_, fun u i u' i' k hn wz => r.inj u i u' i' k (vX u i hn) (vX u' i' wz)⟩
 ·rcases sZ k hk with hk | hk
  ·have := r.hX k hk; exact ⟨this.1, by omega⟩
  ·exact ⟨fun ud => by have := r.hB k ud; omega, hk.2⟩
 ·rw [St.YR] at hu
  rw [St.Y2]; exact Xe.map at_ (KP _) (r.slot u hu)
 ·by_cases hu : u = t /\ i = 0
  ·obtain ⟨rfl, rfl⟩ := hu
   rw [vR]
   obtain ⟨cs, e, hh, wD⟩ := sK
   exact ⟨b, cs, e, hv, hh, yy wD⟩
  ·rw [vW u i hu]
   exact Xs.map at_ hT (fun ho b => r.ub u i b ho) (fun hn k hk => hw k (r.own u i k hn hk).2.2 (fun e => by
    rw [e] at hk
    obtain ⟨e1, e2⟩ := r.inj u i t 0 b hn wU hk vS
    exact hu ⟨e1, e2⟩)) (yl _) (r.obj u i)
 ·have := r.own u i k (vX u i hn) hk
  refine ⟨this.1, fun hx => ?_, by omega⟩
  rcases sZ k hx with hx | hx
  ·exact this.2.1 hx
  ·omega
def N7 (dp : Bool) (σ : St) (d : Nat) (res : List (List D)) (qs : List Bool) : St := match dp with | true => σ.new d (zu d res) (Zq qs res.flatten) | false => σ.put d (K8 res)
theorem Ux (r : Rel T0 B σ a w X h) {o : Oper} {cl : Call} {f : FuncId} {d : Nat} {x0 : Operand} {xs : List Operand} {t0 : TypeId} {ts : List TypeId} {wS res : List (List D)} {row wE : List D} {dp : Bool} (qs : List Bool) (wA : o.op = .call cl) (hc : cl.callee = .value (.func f)) (hd : o.dst = some d)
  (ha : cl.args.toList = x0 :: xs) {t : Nat} (hg : gOf (look P σ t0 x0) = true) (hx : unc (look P σ t0 x0) = .one (.bptr t 0)) (ho : σ.ob t 0 = .box (row.map .d)) (wI : XW P σ xs ts wS) (wb : Z4 P σ xs ts = true) (hs : KE P f dp row wS wE res)
  (w7 : dp = true -> (σ.ZT t 0 (.box (wE.map .d))).fresh d = true /\ J0 qs res.flatten)
  {K : Act -> World -> Prop} {Q : Exit -> Act -> World -> Prop} (hK : ∀ a' w', X6 T0 B (N7 dp (σ.ZT t 0 (.box (wE.map .d))) d res qs) a' w' -> YQ B w w' -> K a' w') : o.wp P a w K Q := by
 have wU : σ.ob t 0 ≠ .none := by rw [ho]; simp
 have hG := r.arg (P := P) t0 x0 hx hg
 obtain ⟨b, vP, hv⟩ := hG.2 _ ho
 have vQ := r.obj t 0
 rw [ho] at vQ
 obtain ⟨b2, cs, e, wk, hh, wD⟩ := vQ
 rw [vP] at wk
 have ud : b2 = b := by injection wk with wk; injection wk with wk; injection wk with wk; exact wk.symm
 subst ud
 have we : blk (h t 0).v = some b2 := by rw [vP]; rfl
 have vS := r.ub t 0 b2 wU we
 have wF := r.own t 0 b2 wU vS
 have uk := r.XW true wI (fun _ => wb)
 simp only [if_true] at uk
 unfold Oper.wp
 rw [xO wA hc hs.1, Oper.upon_enter]
 rw [show (cl.args.toList.map a.eval).toArray = (ptr b2 :: xs.map a.eval).toArray by rw [ha]; simp [hv]]
 have hT : ∀ k i, Tof T0 X k i -> k < w.heap.size /\ k ≠ b2 := by
  intro k i hk
  refine ⟨r.Tlt hk, ?_⟩
  rintro rfl
  rcases hk with hk | hk
  ·exact wF.1 (r.hT _ _ hk)
  ·exact wF.2.1 hk
 refine (hs.2 (Tof T0 X) w b2 _ hT wF.2.2 ⟨cs, e, hh, kW wD⟩ uk).mono ?_
 rintro e' w' ⟨vs, wh, Y, rfl, wN, hY, ⟨sw, e2, u3, tV⟩, wc, hlen, v3⟩
 rw [hd]
 have ri : ∀ {v : Value} {x : D}, Rd (Tof (Tof T0 X) Y) w' v x -> Rd (Tof T0 (fun k => X k \/ Y k)) w' v x := fun hr => hr.mono (fun k i v hk hc => ⟨hc, by
  rcases hk with (hk | hk) | hk
  ·exact .inl hk
  ·exact .inr (.inl hk)
  ·exact .inr (.inr hk)⟩)
 have r1 := r.IK (w' := w') (X' := fun k => X k \/ Y k) (wE := wE) ho vP wN.size (fun k hk wB => wN.block k ⟨hk, wB⟩) (fun k hk => .inl hk) (fun k hk => hk.imp id (hY k)) ⟨sw, e2, u3, tV.imp fun _ _ => ri⟩
 have m0 : YQ B w w' := ⟨wN.os, wN.tape, wN.output, wN.size, fun k hk => wN.block k ⟨r.hB k hk, fun e => wF.1 (e ▸ hk)⟩⟩
 cases dp with
 | false =>
  simp only [Bool.false_eq_true, if_false] at v3
  exact hK _ _ ⟨_, _, r1.put d _ _ (Pq wc (UI (fun _ _ _ _ _ => ri) v3))⟩ m0
 | true =>
  simp only [if_true] at v3
  obtain ⟨hC, hq⟩ := w7 rfl
  refine hK _ _ (r1.EB hC (fun k => w.heap.size <= k /\ k < w'.heap.size /\ ¬ Y k) (fun k hk => ⟨fun hb => by have := r.hB k hb; omega, ?_, hk.2.1, fun u j hn hu => ?_⟩) qs wc hlen v3 hq) m0
  ·rintro (hx | hy)
   ·have := (r.hX k hx).2; omega
   ·exact hk.2.2 hy
  ·have wz : σ.ob u j ≠ .none := by
    by_cases hc : u = t /\ j = 0
    ·obtain ⟨rfl, rfl⟩ := hc; exact wU
    ·rw [St.Yj σ t 0 _ u j wU, if_neg hc] at hn; exact hn
   have := (r.own u j k wz hu).2.2; omega
theorem NG (r : Rel T0 B σ a w X h) {o : Oper} {cl : Call} {f : FuncId} {d : Nat} {wS : List (List D)} {wE : List D} (wA : o.op = .call cl) (hc : cl.callee = .value (.func f)) (hd : o.dst = some d) (w7 : σ.fresh d = true)
  (wI : XW P σ cl.args.toList cl.argTypes.toList wS) (wb : Z4 P σ cl.args.toList cl.argTypes.toList = true) (hs : Ui P f wS wE)
  {K : Act -> World -> Prop} {Q : Exit -> Act -> World -> Prop} (hK : ∀ a' w', X6 T0 B (σ.new d (.one (.bptr d 0)) [.box (wE.map .d)]) a' w' -> YQ B w w' -> K a' w') : o.wp P a w K Q := by
 have wO := St.QN w7
 have uk := r.XW true wI (fun _ => wb)
 simp only [if_true] at uk
 unfold Oper.wp
 rw [xO wA hc hs.1, Oper.upon_enter]
 refine (hs.2 (Tof T0 X) w _ (fun k i hk => r.Tlt hk) uk).mono ?_
 rintro e' w' ⟨b, Y, rfl, v5, vP, wk, hY, sw, e2, u3, tV⟩
 rw [hd]
 have ri : ∀ {v : Value} {x : D}, Rd (Tof (Tof T0 X) Y) w' v x -> Rd (Tof T0 (fun k => X k \/ Y k)) w' v x := fun hr => hr.mono (fun k i v hk hc => ⟨hc, by
  rcases hk with (hk | hk) | hk
  ·exact .inl hk
  ·exact .inr (.inl hk)
  ·exact .inr (.inr hk)⟩)
 have wU : (σ.new d (.one (.bptr d 0)) [.box (wE.map .d)]).ob d 0 = .box (wE.map .d) := by rw [St.Xm]; simp [wO, Zw]
 refine hK _ _ ⟨fun k => X k \/ Y k, fun t j => if t = d then Hd.of (ptr b) else h t j, ?_⟩ (YQ.Vy v5 r.hB)
 refine r.new w7 (Below.grownBy v5) (fun k hk => .inl hk) (fun k hk => hk.imp id (fun hy => ⟨(hY k hy).1, (hY k hy).2.1⟩)) _ _ _ (fun _ => Hd.of (ptr b)) ⟨rfl, fun cells _ => ⟨b, by simp [Hd.of], rfl⟩⟩ (fun j => ?_) (fun j k _ hk => hk) (fun j k _ hk => ?_) (fun i j k hi hj _ _ => ?_)
 ·cases j with
  | zero => exact ⟨b, sw, e2, rfl, u3, yy (tV.imp fun _ _ => ri)⟩
  | succ j => simp [Zw, Xs]
 ·simp [Hd.of, blk] at hk; subst hk
  refine ⟨vP, ?_, wk⟩
  rintro (hx | hy)
  ·have := (r.hX _ hx).2; omega
  ·exact (hY _ hy).2.2 rfl
 ·have hz : ∀ j, Zw [Ob.box (wE.map .d)] j ≠ .none -> j = 0 := by
   intro j hj
   cases j with
   | zero => rfl
   | succ j => simp [Zw] at hj
  rw [hz i hi, hz j hj]
end
section
variable {P : Program} {σ : St} {k : Fr}
theorem T9 {dp : Bool} {d d' : Nat} {res : List (List D)} {qs : List Bool} (wB : d ≠ d') (wg : Yt σ d = true) : Yt (N7 dp σ d' res qs) d = true := by
 cases dp with
 | false => exact V9 wB wg
 | true => exact z7 wB wg
attribute [simp] N7
theorem Jc {f : FuncId} {fn : Func} {c : Code} (hf : P.funcs[f]? = some fn) (hb : fn.body = some c) (wa : qU P f = true) {dp : Bool} {row : List D} {args : List (List D)} {wE : List D} {res : List (List D)}
  (hw : ∀ v, @WI P (KX fn.ntmps [] v (row.map .d) [] args) ⟨c⟩ (.fin (F8 P fn v dp wE res))) : KE P f dp row args wE res := R3 hf hb wa (fun v => ya (hw v))
theorem KU {fn : Func} {v : Value} {dp : Bool} {wE : List D} {res : List (List D)} {rv : List ResultVar} (hf : fn.results = rv.toArray) (h : (QC P σ rv).1 /\ σ.head? = some (.fix v (.one (.bptr 0 0)), .box (wE.map .d) :: (σ.head?.map (fun e => e.2.tail)).getD []) /\
  (if dp then Qb σ (QC P σ rv).2 = some res /\ QK σ (QC P σ rv).2 /\ (Z7 (QC P σ rv).2.flatten).Nodup else zo σ (QC P σ rv).2 = some res)) : F8 P fn v dp wE res .ret σ :=
 ⟨.inl rfl, ⟨_, h.2.1⟩, _, by rw [hf]; exact qw h.1, h.2.2⟩
theorem Ig {f : FuncId} {fn : Func} {c : Code} (hf : P.funcs[f]? = some fn) (hb : fn.body = some c) (wa : qU P f = true) {args : List (List D)} {wE : List D}
  (hw : @WI P (zg fn.ntmps args) ⟨c⟩ (.fin (Fv P fn wE))) : Ui P f args wE := Rr hf hb wa (ya hw)
theorem E4 {fn : Func} {wE : List D} {rv : List ResultVar} (u : Nat) (hf : fn.results = rv.toArray) (h : (QC P σ rv).1 /\ (QC P σ rv).2 = [[.bptr u 0]] /\ σ.ob u 0 = .box (wE.map .d)) : Fv P fn wE .ret σ :=
 ⟨.inl rfl, u, by rw [hf, <- h.2.1]; exact qw h.1, h.2.2⟩
theorem Mg {ops : Array Oper} {o : Oper} {cl : Call} {f : FuncId} {d : Nat} {x0 : Operand} {xs : List Operand} {t0 : TypeId} {ts : List TypeId} {wS res : List (List D)} {row wE : List D} {dp : Bool} {t : Nat} (qs : List Bool) (wA : o.op = .call cl) (hc : cl.callee = .value (.func f)) (tv : o.guard = none) (hd : o.dst = some d)
  (ha : cl.args.toList = x0 :: xs) (hs : KE P f dp row wS wE res) (hg : gOf (look P σ t0 x0) = true) (hx : unc (look P σ t0 x0) = .one (.bptr t 0)) (ho : σ.ob t 0 = .box (row.map .d))
  (wI : XW P σ xs ts wS) (wb : Z4 P σ xs ts = true) (w7 : dp = true -> (σ.ZT t 0 (.box (wE.map .d))).fresh d = true /\ J0 qs res.flatten) : Eh P ops o σ (N7 dp (σ.ZT t 0 (.box (wE.map .d))) d res qs) := by
 have hm : ∀ z ∈ x0 :: xs, z ∈ o.op.operands.toList := fun z hz => by rw [wA]; exact JI (by rw [ha]; exact hz)
 refine ⟨d, t, row.map .d, wE.map .d, (cond dp (zu d res) (K8 res)), (cond dp (some (Zq qs res.flatten)) none), hd, ho, ⟨x0, xs, ⟨f, cl.argTypes, ?_⟩, t0, hx⟩, fun u => ⟨xD _, xD _⟩, fun u hu => ?_, fun hn => ?_, ?_, fun σ2 hl sW wU iy => ?_⟩
 ·rw [wA]
  obtain ⟨c1, c2, c3⟩ := cl
  simp only at hc ha ⊢
  rw [hc, <- ha]
 ·cases dp with
  | true =>
   have hu := hu.resolve_left (by simp)
   exact ⟨SJ hu res, fun l hl => by cases hl; exact Jm u qs _⟩
  | false => exact ⟨OE u res, fun l hl => by cases hl⟩
 ·cases dp with
  | true => exact (w7 rfl).1
  | false => exact absurd rfl hn
 ·cases dp <;> rfl
 ·have wm : Sub P o.op.operands.toList σ σ2 := ⟨hl, sW, wU⟩
  have gQ : Sub P xs σ σ2 := ⟨hl, fun z hz => sW z (hm z (by simp [hz])), fun z hz => wU z (hm z (by simp [hz]))⟩
  have h0 := sW x0 (hm x0 (by simp)) t0
  have uW : σ2.ob t 0 = .box (row.map .d) := by
   rw [<- ho]
   exact wU x0 (hm x0 (by simp)) t0 t (XC hx (by simp [At.ref])) 0 (by rw [ho]; simp)
  have e : Jj t d (wE.map .d) (cond dp (zu d res) (K8 res)) (cond dp (some (Zq qs res.flatten)) none) σ2 = N7 dp (σ2.ZT t 0 (.box (wE.map .d))) d res qs := by cases dp <;> rfl
  rw [e]
  refine ⟨?_, fun d' wP wg => T9 (fun e => wP (by rw [hd, e])) (XH wg)⟩
  rintro T0 B a w K Q' ⟨X, hh, r⟩ hK
  have hw : Region.wanted o (yielded ops a.tmps) = true := by simp [Region.wanted, tv]
  rw [if_pos hw]
  refine Ux r qs wA hc hd ha (by rw [<- h0]; exact hg) (by rw [<- h0]; exact hx) uW (yF gQ wI) (by rw [z9 gQ]; exact wb) hs (fun gO => ⟨?_, (w7 gO).2⟩) hK
  subst gO
  exact iy (by simp)
theorem Fi {A : Qo} {o : OpI} {l : JP} {cl : Call} {f : FuncId} {d : Nat} {x0 : Operand} {xs : List Operand} {t0 : TypeId} {ts : List TypeId} {wS res : List (List D)} {row wE : List D} {dp : Bool} {t : Nat} (qs : List Bool) (wA : o.o.op = .call cl) (hc : cl.callee = .value (.func f)) (tv : o.o.guard = none) (hd : o.o.dst = some d) (wj : A.bar o.o = true)
  (ha : cl.args.toList = x0 :: xs) (eA : cl.argTypes.toList = t0 :: ts) (hs : KE P f dp row wS wE res) (hx : gOf (look P σ t0 x0) = true /\ unc (look P σ t0 x0) = .one (.bptr t 0)) (ho : σ.ob t 0 = .box (row.map .d))
  (wI : (Yk P σ xs ts).1) (wY : (Yk P σ xs ts).2 = some wS) (wb : Z4 P σ xs ts = true) (w7 : dp = true -> (σ.ZT t 0 (.box (wE.map .d))).fresh d = true /\ J0 qs res.flatten)
  (h : @EI P (N7 dp (σ.ZT t 0 (.box (wE.map .d))) d res qs) A l k) : @SI P σ A o l k := by
 refine ⟨_, .inr ⟨wj, ?_, fun d' wP wg => T9 (fun e => wP (by rw [hd, e])) (XH wg), fun hh => by simp [y9, wA] at hh, fun hh => by first | (simp [zj, wA] at hh; done) | (unfold zj at hh; rw [wA] at hh; split at hh <;> simp_all), fun _ _ => Mg qs wA hc tv hd ha hs hx.1 hx.2 ho (zF wI wY) wb w7⟩, Xw h⟩
 rintro T0 B a w K Q' ⟨X, hh, r⟩ hK
 have hw : Region.wanted o.o (yielded A.ops a.tmps) = true := by simp [Region.wanted, tv]
 rw [if_pos hw]
 exact Ux r qs wA hc hd ha hx.1 hx.2 ho (zF wI wY) wb hs w7 hK
theorem EY {A : Qo} {o : OpI} {l : JP} {cl : Call} {f : FuncId} {d : Nat} {wS : List (List D)} {wE : List D} (wA : o.o.op = .call cl) (hc : cl.callee = .value (.func f)) (tv : o.o.guard = none) (hd : o.o.dst = some d) (wj : A.bar o.o = true) (hs : Ui P f wS wE)
  (wI : (Yk P σ cl.args.toList cl.argTypes.toList).1) (wY : (Yk P σ cl.args.toList cl.argTypes.toList).2 = some wS) (wb : Z4 P σ cl.args.toList cl.argTypes.toList = true) (w7 : σ.fresh d = true)
  (h : @EI P (σ.new d (.one (.bptr d 0)) [.box (wE.map .d)]) A l k) (tZ : QL P o.o = false := by exact rfl) : @SI P σ A o l k := by
 refine ⟨_, .inr ⟨wj, ?_, fun d' wP wg => z7 (fun e => wP (by rw [hd, e])) wg, fun hh => by simp [y9, wA] at hh, fun hh => by first | (simp [zj, wA] at hh; done) | (unfold zj at hh; rw [wA] at hh; split at hh <;> simp_all), fun hh _ => by rw [tZ] at hh; cases hh⟩, Xw h⟩
 rintro T0 B a w K Q' ⟨X, hh, r⟩ hK
 have hw : Region.wanted o.o (yielded A.ops a.tmps) = true := by simp [Region.wanted, tv]
 rw [if_pos hw]
 exact NG r wA hc hd w7 (zF wI wY) wb hs hK
end
end Go.Vm
namespace Go.Vm
open Go.RowKit
def Fh (w : World) (S : Nat -> Prop) (b : Nat) (wE : List D) (e : Ending) (w' : World) : Prop :=
 e = .returned (.tuple #[]) /\ YQ (fun k => k < w.heap.size /\ k ≠ b /\ ¬ S k) w w' /\ ∃ cs e', w'.heap[b]? = some (.cells cs e' (0, 0)) /\ Xz w' cs.toList wE (fun k => (S k \/ (w.heap.size <= k /\ k < w'.heap.size)) /\ k ≠ b)
def SG (P : Program) (f : FuncId) (args : List (List D)) (row wE : List D) : Prop :=
 qU P f = true /\ ∀ (T : CS) (S : Nat -> Prop) (w : World) (b : Nat) (wq : List Value), (∀ k i, T k i -> k < w.heap.size /\ k ≠ b /\ ¬ S k) -> (∀ k, S k -> k < w.heap.size /\ k ≠ b) -> b < w.heap.size ->
  (∃ cs e, w.heap[b]? = some (.cells cs e (0, 0)) /\ Xz w cs.toList row S) -> Pp T w wq args -> Calls P f (wq ++ [ptr b]).toArray w (Fh w S b wE)
def EK (P : Program) (fn : Func) (p : Nat) (v : Value) (wE : List D) (e : Exit) (σ : St) : Prop :=
 (e = .ret \/ e = .normal) /\ jY P σ fn.results.toList [] /\ ∃ tw v8, σ[p]? = some (.fix v (.one (.bptr p 0)), .box tw :: v8) /\ X7 σ tw = some wE /\ XF σ tw /\ (Z7 tw).Nodup
def EW (n : Nat) (sz : Nat) (rows : List (List D)) (args : List (List D)) : St := (.one (.sref 0 0 0 rows.length), [.arr false sz rows]) :: (Wp args ++ List.replicate (n - (args.length + 1)) (V.any, []))
def At.isO (u : Nat) : At -> Bool
 | .sref t _ _ _ => t == u
 | .ptr t _ _ _ => t == u
 | .tref t _ _ _ _ => t == u
 | _ => false
section
variable {P : Program} {T0 : CS} {B : Nat -> Prop} {σ : St} {a : Act} {w w' : World} {X X' : Nat -> Prop} {h : Nat -> Nat -> Hd}
theorem Ls {hf : Nat -> Hd} {row : List D} {qs : List Bool} (hq : J0 qs row) (k4 : ∀ j size rows, row[j]? = some (.sl size rows) -> ∀ T h ob, Xs T h ob w (hf j) (.arr true size rows)) (T : CS) (ob : Nat -> Nat -> Ob) (j : Nat) : Xs T h ob w (hf j) (Zw (Zq qs row) j) := by
 by_cases wB : Zw (Zq qs row) j = .none
 ·rw [wB]; trivial
 ·obtain ⟨size, rows, hj⟩ := (Z5 qs row j hq).2 wB
  obtain ⟨q, uT, mb⟩ := (Z5 qs row j hq).1 size rows hj
  rw [uT]
  have := k4 j size rows hj T h ob
  cases q with
  | true => exact this
  | false => exact Lc this (mb rfl)
theorem PB {f : FuncId} {fn : Func} {c : Code} (hf : P.funcs[f]? = some fn) (hb : fn.body = some c) (wa : qU P f = true) {args : List (List D)} {row wE : List D} (qs : List Bool) (hq : J0 qs row)
  (hw : ∀ v, AWP P c (EK P fn args.length v wE) (KX fn.ntmps args v (QW args.length 1 row) (Zq qs row) [])) : SG P f args row wE := by
 refine ⟨wa, fun T S w b wq hT hS wM ⟨iw, e0, mU, tc⟩ wI => calls_of_wp hf hb ?_⟩
 obtain ⟨rY, Sk, k1, k2, k3, k4⟩ := OP tc
 have rH := OH (w := w) (T := T) (S := S) (n := fn.ntmps) (b := b) (pre := args) (post := []) (cells := QW args.length 1 row) (v8 := Zq qs row) (vv := wq) (uC := []) (fun j => match j with | 0 => Hd.of (ptr b) | j + 1 => rY j)
  hT hS wM rfl (fun h ob hh wU => ⟨b, iw, e0, rfl, mU, ja tc.top (fun i size rows hi => by
    obtain ⟨q, uT, _⟩ := (Z5 qs row i hq).1 size rows hi
    exact ⟨q, by rw [wU, Nat.add_comm, zz]; exact uT⟩) (fun i c hc => by rw [hh, Nat.add_comm]; exact k1 i c hc)⟩)
  (fun h ob j => Ls hq (fun j size rows hj => (k4 j size rows hj).2.2) _ _ j)
  (fun j k hn hk => by
   obtain ⟨size, rows, hj⟩ := (Z5 qs row j hq).2 hn
   exact (k4 j size rows hj).2.1 k hk)
  (fun j k hn hk => by
   obtain ⟨size, rows, hj⟩ := (Z5 qs row j hq).2 hn
   exact k2 j k ((k4 j size rows hj).1 k hk))
  (fun i j k hn wz hk vt => by
   obtain ⟨size, rows, hj⟩ := (Z5 qs row i hq).2 hn
   obtain ⟨wW, wK, ue⟩ := (Z5 qs row j hq).2 wz
   exact k3 i j k ((k4 i size rows hj).1 k hk) ((k4 j wW wK ue).1 k vt)) wI .nil
 refine wp_mono (hw (ptr b) T _ _ w rH) ?_
 rintro e a' w' ⟨σ', ⟨he, v3, tw, v8, uv, uG, uU, vF⟩, ⟨X, h, r⟩, wN⟩
 obtain ⟨vs, wh, wV, wc, wD⟩ := yT r v3
 cases wD
 cases wc
 have vM : args.length < σ'.length := (List.getElem?_eq_some_iff.1 uv).1
 have p9 : σ'.get args.length = .fix (ptr b) (.one (.bptr args.length 0)) := by unfold St.get; rw [uv]
 have vL : σ'.ob args.length 0 = .box tw := by unfold St.ob; rw [uv]; rfl
 have sQ := r.slot _ vM
 rw [p9] at sQ
 obtain ⟨nH, uS⟩ := sQ
 obtain ⟨b1, vP, vG⟩ := uS.2 _ vL
 rw [nH] at vG
 have ud : b1 = b := by injection vG with vG; injection vG with vG; injection vG with vG; exact vG.symm
 subst ud
 have vQ := r.obj args.length 0
 rw [vL] at vQ
 obtain ⟨b2, sw, e', wk, u3, tV⟩ := vQ
 rw [vP] at wk
 have ud : b2 = b1 := by injection wk with wk; injection wk with wk; injection wk with wk; exact wk.symm
 subst ud
 have vS := r.ub args.length 0 b2 (by rw [vL]; simp) (by rw [vP]; rfl)
 have goal : a'.defers = [] /\ ∃ v, (results fn a'.tmps).run P w' = .ok v w' /\ Fh w S b2 wE (.returned v) w' := by
  refine ⟨r.defers, _, wV, rfl, wN, sw, e', u3, (kA r tV uG uU vF).mono (fun k hk => ?_)⟩
  have hg := r.JN _ k hk
  have wB : k ≠ b2 := by
   rintro rfl
   obtain ⟨p, hp, wB, hu⟩ := hk
   obtain ⟨e1, e2⟩ := r.inj p.1 p.2 args.length 0 k wB (by rw [vL]; simp) hu vS
   obtain ⟨i, lo, len, hx⟩ := kp hp
   obtain ⟨d, hd, mw⟩ := (Zg.get (R := fun x d => mvD σ' x = some d) (Zg.KD (Ko uG).1 (fun i a b h1 h2 => (Ko uG).2 i a b h1 h2)) i _ hx)
   rw [e1, e2] at mw
   simp [mvD, vL] at mw
  refine ⟨?_, wB⟩
  by_cases hs : S k
  ·exact .inl hs
  ·refine .inr ⟨?_, hg.2.2.1⟩
   rcases Nat.lt_or_ge k w.heap.size with wO | tD
   ·exact absurd ⟨wO, wB, hs⟩ hg.1
   ·exact tD
 rcases he with rfl | rfl
 ·exact goal
 ·exact goal
theorem Rel.Em (r : Rel T0 B σ a w X h) {u b : Nat} {cells : List At} {wE : List D} {qs : List Bool} (ho : σ.ob u 0 = .box cells) (hv : (h u 0).v = ptr b) (wO : u < σ.length) (M S' : Nat -> Prop) (vK : w.heap.size <= w'.heap.size) (hw : ∀ k, k < w.heap.size -> k ≠ b -> ¬ M k -> w'.heap[k]? = w.heap[k]?)
  (hm : ∀ k, M k -> ¬ B k /\ ¬ X k /\ ∀ t j, σ.ob t j ≠ .none -> ¬ (h t j).u k) (rb : (σ.ZT u 0 .none).Jh (At.isO u) = false) (hq : J0 qs wE) {sw : Array Value} {e' : TypeId} (u3 : w'.heap[b]? = some (.cells sw e' (0, 0)))
  (wF : Xz w' sw.toList wE S') (iu : ∀ k, S' k -> (w.heap.size <= k \/ M k) /\ k < w'.heap.size /\ k ≠ b) : X6 T0 B (σ.new u (σ.get u) (.box (QW u 1 wE) :: Zq qs wE)) a w' := by
 have wU : σ.ob u 0 ≠ .none := by rw [ho]; simp
 have we : blk (h u 0).v = some b := by rw [hv]; rfl
 have vS := r.ub u 0 b wU we
 have mz := r.own u 0 b wU vS
 obtain ⟨rY, Sk, k1, k2, k3, k4⟩ := OP wF
 generalize hσ : σ.new u (σ.get u) (.box (QW u 1 wE) :: Zq qs wE) = σ2
 have sy : ∀ j, σ2.ob u j = Zw (.box (QW u 1 wE) :: Zq qs wE) j := fun j => by rw [<- hσ, St.Xm]; simp [wO]
 have uJ : ∀ t j, t ≠ u -> σ2.ob t j = σ.ob t j := fun t j wB => by rw [<- hσ, St.Xm, if_neg (fun hh => wB hh.1)]
 have vO : ∀ t, σ2.get t = σ.get t := by
  intro t
  rw [<- hσ, St.yn]
  split
  ·rename_i hh; rw [hh.1]
  ·rfl
 have hlen : σ2.length = σ.length := by rw [<- hσ, St.yA]
 let wP : Nat -> Hd := fun j => match j with | 0 => h u 0 | j + 1 => rY j
 let h' : Nat -> Nat -> Hd := fun t j => if t = u then wP j else h t j
 have hT : ∀ k i v, Tof T0 X k i -> w.cell? ⟨k, i, none⟩ = some v -> w'.cell? ⟨k, i, none⟩ = some v /\ Tof T0 X k i := by
  intro k i v hk hc
  refine ⟨?_, hk⟩
  have wB : k ≠ b := by
   rintro rfl
   rcases hk with hk | hk
   ·exact mz.1 (r.hT _ _ hk)
   ·exact mz.2.1 hk
  have pe : ¬ M k := by
   intro nX
   rcases hk with hk | hk
   ·exact (hm k nX).1 (r.hT _ _ hk)
   ·exact (hm k nX).2.1 hk
  rw [World.cell?_of_block (hw k (r.Tlt hk) wB pe)]; exact hc
 have at_ : ∀ {x : At} {v : Value}, At.isO u x = false -> Zm (Tof T0 X) h σ.ob w x v -> Zm (Tof T0 X) h' σ2.ob w' x v := by
  intro x v py rx
  cases x with
  | any => exact rx
  | d x => exact Rd.mono hT rx
  | nil s => exact rx
  | sref t j lo len =>
   have wB : t ≠ u := by simpa [At.isO] using py
   simp only [Zm, h', if_neg wB, uJ t j wB]; exact rx
  | ptr t j i c =>
   have wB : t ≠ u := by simpa [At.isO] using py
   simp only [Zm, h', if_neg wB, uJ t j wB]; exact rx
  | tref t j i c o =>
   have wB : t ≠ u := by simpa [At.isO] using py
   simp only [Zm, h', if_neg wB, uJ t j wB]; exact rx
  | bptr t c =>
   by_cases hc : t = u
   ·subst hc
    refine ⟨rx.1, fun wH _ => ?_⟩
    simp only [h', if_true, wP]; exact rx.2 _ ho
   ·simp only [Zm, h', if_neg hc, uJ t 0 hc]; exact rx
  | fn f t =>
   by_cases hc : t = u
   ·subst hc
    refine ⟨rx.1, fun wH _ => ?_⟩
    simp only [h', if_true, wP]; exact rx.2 _ ho
   ·simp only [Zm, h', if_neg hc, uJ t 0 hc]; exact rx
  | rptr rr c =>
   obtain ⟨b, off, g, e, hk⟩ := rx
   exact ⟨b, off, g, e, fun k d hd => ⟨(hT _ _ _ (hk k d hd).2.1 (hk k d hd).1).1, (hk k d hd).2.1, Rd.mono hT (hk k d hd).2.2⟩⟩
 have vQ : ∀ j, Zw (.box (QW u 1 wE) :: Zq qs wE) j ≠ .none -> j = 0 \/ ∃ i size rows, j = i + 1 /\ wE[i]? = some (.sl size rows) := by
  intro j hn
  cases j with
  | zero => exact .inl rfl
  | succ j =>
   rw [zz] at hn
   obtain ⟨size, rows, hj⟩ := (Z5 qs wE j hq).2 hn
   exact .inr ⟨j, size, rows, rfl, hj⟩
 have nJ : ∀ k, (h u 0).u k -> k < w.heap.size /\ ¬ M k /\ ¬ B k /\ ¬ X k := fun k hk => ⟨(r.own u 0 k wU hk).2.2, fun nX => (hm k nX).2.2 u 0 wU hk, (r.own u 0 k wU hk).1, (r.own u 0 k wU hk).2.1⟩
 have lL : ∀ i size rows k, wE[i]? = some (.sl size rows) -> (rY i).u k -> (w.heap.size <= k \/ M k) /\ k < w'.heap.size /\ k ≠ b := fun i size rows k hi hk => iu k (k2 i k ((k4 i size rows hi).1 k hk))
 have nK : ∀ t j, t ≠ u -> σ.ob t j ≠ .none -> ∀ k, (h t j).u k -> w'.heap[k]? = w.heap[k]? := by
  intro t j wB hn k hk
  refine hw k (r.own t j k hn hk).2.2 ?_ (fun nX => (hm k nX).2.2 t j hn hk)
  rintro rfl
  exact wB (r.inj t j u 0 k hn wU hk vS).1
 refine ⟨X, h', by rw [r.size, hlen], r.defers, fun k hk => Nat.lt_of_lt_of_le (r.hB k hk) vK, fun k hk => ⟨(r.hX k hk).1, Nat.lt_of_lt_of_le (r.hX k hk).2 vK⟩, r.hT, fun t ht => ?_, fun t j => ?_, fun t j k hn hk => ?_, fun t j k hn hk => ?_, fun t j t' j' k hn wz hk vt => ?_⟩
 ·rw [hlen] at ht
  rw [vO]
  have hp : (σ.get t).Jh (At.isO u) = false := by have := St.VD rb t; rwa [St.Y2] at this
  exact Xe.map at_ hp (r.slot t ht)
 ·by_cases hc : t = u
  ·subst hc
   rw [sy]
   cases j with
   | zero =>
    simp only [h', if_true, wP, Pd]
    exact ⟨b, sw, e', hv, u3, ja wF.top (fun i size rows hi => by
     obtain ⟨q, uT, _⟩ := (Z5 qs wE i hq).1 size rows hi
     exact ⟨q, by rw [sy, Nat.add_comm, zz]; exact uT⟩) (fun i c hc => by simp only [if_true, Nat.add_comm 1 i]; exact k1 i c hc)⟩
   | succ j =>
    simp only [h', if_true, wP, zz]
    exact Ls hq (fun j size rows hj => (k4 j size rows hj).2.2) _ _ j
  ·rw [uJ t j hc]
   simp only [h', if_neg hc]
   by_cases hn : σ.ob t j = .none
   ·rw [hn]; trivial
   ·have hp : Jx (At.isO u) [σ.ob t j] = false := by
     have := St.Tz rb t j
     rwa [St.qN, if_neg (fun hh => hc hh.1)] at this
    exact Xs.map at_ hT (fun ho b => r.ub t j b ho) (fun hn k hk => nK t j hc hn k hk) hp (r.obj t j)
 ·by_cases hc : t = u
  ·subst hc
   rw [sy] at hn
   rcases vQ j hn with rfl | ⟨i, size, rows, rfl, hi⟩
   ·simp only [h', if_true, wP] at hk ⊢; exact r.ub t 0 k wU hk
   ·simp only [h', if_true, wP] at hk ⊢; exact (k4 i size rows hi).2.1 k hk
  ·rw [uJ t j hc] at hn
   simp only [h', if_neg hc] at hk ⊢; exact r.ub t j k hn hk
 ·by_cases hc : t = u
  ·subst hc
   rw [sy] at hn
   rcases vQ j hn with rfl | ⟨i, size, rows, rfl, hi⟩
   ·simp only [h', if_true, wP] at hk
    have := nJ k hk; exact ⟨this.2.2.1, this.2.2.2, by omega⟩
   ·simp only [h', if_true, wP] at hk
    have := lL i size rows k hi hk
    rcases this.1 with h1 | h1
    ·exact ⟨fun hb => by have := r.hB k hb; omega, fun hx => by have := (r.hX k hx).2; omega, this.2.1⟩
    ·exact ⟨(hm k h1).1, (hm k h1).2.1, this.2.1⟩
  ·rw [uJ t j hc] at hn
   simp only [h', if_neg hc] at hk
   have := r.own t j k hn hk; exact ⟨this.1, this.2.1, by omega⟩
 ·have key : ∀ t j i k, t ≠ u -> σ.ob t j ≠ .none -> (h t j).u k -> Zw (.box (QW u 1 wE) :: Zq qs wE) i ≠ .none -> (wP i).u k -> False := by
   intro t j i k wB hn hk wz vt
   rcases vQ i wz with rfl | ⟨i, size, rows, rfl, hi⟩
   ·exact wB (r.inj t j u 0 k hn wU hk vt).1
   ·have h1 := lL i size rows k hi vt
    have h2 := r.own t j k hn hk
    rcases h1.1 with h3 | h3
    ·omega
    ·exact (hm k h3).2.2 t j hn hk
  by_cases hc : t = u
  ·by_cases wu : t' = u
   ·subst hc; subst wu
    rw [sy] at hn wz
    simp only [h', if_true] at hk vt
    refine ⟨rfl, ?_⟩
    rcases vQ j hn with rfl | ⟨i, size, rows, rfl, hi⟩
    ·rcases vQ j' wz with rfl | ⟨i', wW, wK, rfl, vc⟩
     ·rfl
     ·have h1 := nJ k hk
      have h2 := lL i' wW wK k vc vt
      rcases h2.1 with h3 | h3
      ·omega
      ·exact absurd h3 h1.2.1
    ·rcases vQ j' wz with rfl | ⟨i', wW, wK, rfl, vc⟩
     ·have h1 := nJ k vt
      have h2 := lL i size rows k hi hk
      rcases h2.1 with h3 | h3
      ·omega
      ·exact absurd h3 h1.2.1
     ·rw [k3 i i' k ((k4 i size rows hi).1 k hk) ((k4 i' wW wK vc).1 k vt)]
   ·subst hc
    rw [sy] at hn
    rw [uJ t' j' wu] at wz
    simp only [h', if_true, if_neg wu] at hk vt
    exact (key t' j' j k wu wz vt hn hk).elim
  ·rw [uJ t j hc] at hn
   simp only [h', if_neg hc] at hk
   by_cases wu : t' = u
   ·subst wu
    rw [sy] at wz
    simp only [h', if_true] at vt
    exact (key t j j' k hc hn hk wz vt).elim
   ·rw [uJ t' j' wu] at wz
    simp only [h', if_neg wu] at vt
    exact r.inj t j t' j' k hn wz hk vt
end
end Go.Vm
namespace Go.Vm
open Go.RowKit
section
variable {P : Program} {T0 : CS} {B : Nat -> Prop} {σ : St} {a : Act} {w w' : World} {X X' : Nat -> Prop} {h : Nat -> Nat -> Hd}
theorem Mh {o : Oper} {c : Call} {t : Nat} {f : FuncId} {x : Value} (wA : o.op = .call c) (hc : c.callee = .value (.tmp t)) (hv : a.tmps.getD t undef = .func (.func f) #[] #[x]) (hf : qU P f = true) :
  (execOp a.eval o).run P w = .ok (.enter f (c.args.toList.map a.eval ++ [x]).toArray) w := by
 unfold qU at hf
 split at hf
 ·rename_i fn nS
  simp only [Bool.and_eq_true, bne_iff_ne, ne_eq] at hf
  obtain ⟨cd, hb⟩ := Option.isSome_iff_exists.1 hf.1
  obtain ⟨callee, args, tw⟩ := c
  simp only at hc; subst hc
  have hm : (args.toList.map a.eval ++ [x]).toArray = args.map a.eval ++ #[x] := by apply Array.toList_inj.1; simp
  have he : a.eval (.tmp t) = .func (.func f) #[] #[x] := hv
  rw [hm]
  simp [execOp, wA, resolve, he, Deferred.ofValue, invoke, callFunc, nS, hf.2, hb]
 ·cases hf
theorem NC (r : Rel T0 B σ a w X h) {o : Oper} {cl : Call} {f : FuncId} {tf u : Nat} {wS : List (List D)} {row wE : List D} {cells : List At} (qs : List Bool) (wA : o.op = .call cl) (hc : cl.callee = .value (.tmp tf)) (hx : σ.get tf = .one (.fn f u)) (ho : σ.ob u 0 = .box cells) (wO : u < σ.length)
  (wI : XW P σ cl.args.toList cl.argTypes.toList wS) (wb : Z4 P σ cl.args.toList cl.argTypes.toList = true) (hs : SG P f wS row wE) (uG : X7 σ cells = some row) (uU : XF σ cells) (vF : (Z7 cells).Nodup) (lJ : (u, 0) ∉ Z7 cells)
  (rb : ((σ.ZX (Z7 cells)).ZT u 0 .none).Jh (At.isO u) = false) (hq : J0 qs wE)
  {K : Act -> World -> Prop} {Q : Exit -> Act -> World -> Prop} (hK : ∀ a' w', X6 T0 B (match o.dst with | some d => ((σ.ZX (Z7 cells)).new u (σ.get u) (.box (QW u 1 wE) :: Zq qs wE)).put d .any | none => (σ.ZX (Z7 cells)).new u (σ.get u) (.box (QW u 1 wE) :: Zq qs wE)) a' w' -> YQ B w w' -> K a' w') : o.wp P a w K Q := by
 have wU : σ.ob u 0 ≠ .none := by rw [ho]; simp
 have nS := r.get tf
 rw [hx] at nS
 obtain ⟨b, vP, hv⟩ := nS.2 _ ho
 have vQ := r.obj u 0
 rw [ho] at vQ
 obtain ⟨b2, cs, e, wk, hh, wD⟩ := vQ
 rw [vP] at wk
 have ud : b2 = b := by injection wk with wk; injection wk with wk; injection wk with wk; exact wk.symm
 subst ud
 have vS := r.ub u 0 b2 wU (by rw [vP]; rfl)
 have wF := r.own u 0 b2 wU vS
 have uk := r.XW true wI (fun _ => wb)
 simp only [if_true] at uk
 have tR : ∀ k, Xd σ h (Z7 cells) k -> k < w.heap.size /\ k ≠ b2 := by
  rintro k ⟨p, hp, wB, hu⟩
  refine ⟨(r.own _ _ k wB hu).2.2, ?_⟩
  rintro rfl
  obtain ⟨e1, e2⟩ := r.inj p.1 p.2 u 0 k wB wU hu vS
  exact lJ (by rw [<- e1, <- e2]; exact hp)
 have wX := r.JN (Z7 cells)
 have hT : ∀ k i, Tof T0 X k i -> k < w.heap.size /\ k ≠ b2 /\ ¬ Xd σ h (Z7 cells) k := by
  intro k i hk
  refine ⟨r.Tlt hk, ?_, fun hg => ?_⟩
  ·rintro rfl
   rcases hk with hk | hk
   ·exact wF.1 (r.hT _ _ hk)
   ·exact wF.2.1 hk
  ·rcases hk with hk | hk
   ·exact (wX k hg).1 (r.hT _ _ hk)
   ·exact (wX k hg).2.1 hk
 unfold Oper.wp
 rw [Mh wA hc hv hs.1, Oper.upon_enter]
 refine (hs.2 (Tof T0 X) (Xd σ h (Z7 cells)) w b2 _ hT tR wF.2.2 ⟨cs, e, hh, kA r wD uG uU vF⟩ uk).mono ?_
 rintro e' w' ⟨rfl, wN, sw, e2, u3, w8⟩
 have r1 := r.ZX (Z7 cells)
 have lh : (σ.ZX (Z7 cells)).ob u 0 = .box cells := by rw [St.QU, if_neg lJ, ho]
 have R := r1.Em (w' := w') (wE := wE) (qs := qs) lh vP (by rw [St.QM]; exact wO) (Xd σ h (Z7 cells)) _ wN.size (fun k hk wB hg => wN.block k ⟨hk, wB, hg⟩) (fun k hk => ⟨(wX k hk).1, (wX k hk).2.1, (wX k hk).2.2.2⟩) rb hq u3 w8 (fun k hk => ⟨hk.1.elim .inr (fun h1 => .inl h1.1), by
  rcases hk.1 with h1 | h1
  ·have := (tR k h1).1; have := wN.size; omega
  ·exact h1.2, hk.2⟩)
 rw [St.Jk] at R
 have m0 : YQ B w w' := ⟨wN.os, wN.tape, wN.output, wN.size, fun k hk => wN.block k ⟨r.hB k hk, fun e => wF.1 (e ▸ hk), fun hg => (wX k hg).1 hk⟩⟩
 cases hd : o.dst with
 | none =>
  rw [hd] at hK
  exact hK _ _ R m0
 | some d =>
  rw [hd] at hK
  obtain ⟨X2, h2, R2⟩ := R
  exact hK _ _ ⟨X2, h2, R2.put d .any _ trivial⟩ m0
theorem LD (r : Rel T0 B σ a w X h) {o : Oper} {f : FuncId} {x : Operand} {d t : Nat} (wA : o.op = .makeFunc (.func f) #[] #[x]) (hd : o.dst = some d) (hg : gOf (look P σ 0 x) = true) (hx : unc (look P σ 0 x) = .one (.bptr t 0)) {cells : List At} (ho : σ.ob t 0 = .box cells)
  {K : Act -> World -> Prop} {Q : Exit -> Act -> World -> Prop} (hK : ∀ a' w', X6 T0 B (σ.put d (.one (.fn f t))) a' w' -> YQ B w w' -> K a' w') : o.wp P a w K Q := by
 have hG := r.arg (P := P) 0 x hx hg
 obtain ⟨b, vP, hv⟩ := hG.2 _ ho
 exact xf (v := .one (.fn f t)) r hd ⟨.func (.func f) #[] #[a.eval x], by simp [execOp, wA, Instr.makeFunc], ⟨rfl, fun wH _ => ⟨b, vP, by rw [hv]⟩⟩⟩ hK
end
section
variable {P : Program} {σ : St} {k : Fr}
theorem Ei {A : Qo} {o : OpI} {l : JP} {f : FuncId} {x : Operand} {d t : Nat} {cells : List At} (wA : o.o.op = .makeFunc (.func f) #[] #[x]) (tv : o.o.guard = none) (hd : o.o.dst = some d) (wj : A.bar o.o = true) (hx : gOf (look P σ 0 x) = true /\ unc (look P σ 0 x) = .one (.bptr t 0)) (ho : σ.ob t 0 = .box cells)
  (h : @EI P (σ.put d (.one (.fn f t))) A l k) : @SI P σ A o l k := by
 refine ⟨_, .inr ⟨wj, ?_, fun d' wP wg => V9 (fun e => wP (by rw [hd, e])) wg, fun hh => by simp [y9, wA] at hh, fun hh => by first | (simp [zj, wA] at hh; done) | (unfold zj at hh; rw [wA] at hh; split at hh <;> simp_all), fun hh _ => by first | (simp [QL, wA] at hh; done) | (unfold QL at hh; rw [wA] at hh; split at hh <;> simp_all)⟩, Xw h⟩
 rintro T0 B a w K Q' ⟨X, hh, r⟩ hK
 have hw : Region.wanted o.o (yielded A.ops a.tmps) = true := by simp [Region.wanted, tv]
 rw [if_pos hw]
 exact LD r wA hd hx.1 hx.2 ho hK
theorem L9 {f : FuncId} {fn : Func} {c : Code} (hf : P.funcs[f]? = some fn) (hb : fn.body = some c) (wa : qU P f = true) {args : List (List D)} {row wE : List D} (qs : List Bool) (hq : J0 qs row)
  (hw : ∀ v, @WI P (KX fn.ntmps args v (QW args.length 1 row) (Zq qs row) []) ⟨c⟩ (.fin (EK P fn args.length v wE))) : SG P f args row wE := PB hf hb wa qs hq (fun v => ya (hw v))
theorem E2 {fn : Func} {p : Nat} {v : Value} {wE : List D} {tw : List At} (hf : fn.results = #[]) (h : σ[p]? = some (.fix v (.one (.bptr p 0)), .box tw :: ((σ[p]?).map (fun e => e.2.tail)).getD []) /\ X7 σ tw = some wE /\ XF σ tw /\ (Z7 tw).Nodup) {e : Exit} (he : e = .ret \/ e = .normal) : EK P fn p v wE e σ :=
 ⟨he, by rw [hf]; rfl, tw, _, h.1, h.2.1, h.2.2.1, h.2.2.2⟩
theorem FP {A : Qo} {o : OpI} {l : JP} {cl : Call} {f : FuncId} {tf u : Nat} {wS : List (List D)} {row wE : List D} {cells : List At} (qs : List Bool) (wA : o.o.op = .call cl) (hc : cl.callee = .value (.tmp tf)) (tv : o.o.guard = none) (wj : A.bar o.o = true) (hs : SG P f wS row wE) (hx : σ.get tf = .one (.fn f u)) (ho : σ.ob u 0 = .box cells) (wO : u < σ.length)
  (wI : (Yk P σ cl.args.toList cl.argTypes.toList).1) (wY : (Yk P σ cl.args.toList cl.argTypes.toList).2 = some wS) (wb : Z4 P σ cl.args.toList cl.argTypes.toList = true) (uG : X7 σ cells = some row) (uU : XF σ cells) (vF : (Z7 cells).Nodup) (lJ : (u, 0) ∉ Z7 cells) (wg : Yt σ u = false)
  (rb : ((σ.ZX (Z7 cells)).ZT u 0 .none).Jh (At.isO u) = false) (hq : J0 qs wE)
  (h : @EI P (match o.o.dst with | some d => ((σ.ZX (Z7 cells)).new u (σ.get u) (.box (QW u 1 wE) :: Zq qs wE)).put d .any | none => (σ.ZX (Z7 cells)).new u (σ.get u) (.box (QW u 1 wE) :: Zq qs wE)) A l k) : @SI P σ A o l k := by
 refine ⟨_, .inr ⟨wj, ?_, fun d' wP wu => ?_, fun hh => by simp [y9, wA] at hh, fun hh => by first | (simp [zj, wA] at hh; done) | (unfold zj at hh; rw [wA] at hh; split at hh <;> simp_all), fun hh _ => by first | (simp [QL, wA] at hh; done) | (unfold QL at hh; rw [wA] at hh; split at hh <;> simp_all)⟩, Xw h⟩
 ·rintro T0 B a w K Q' ⟨X, hh, r⟩ hK
  have hw : Region.wanted o.o (yielded A.ops a.tmps) = true := by simp [Region.wanted, tv]
  rw [if_pos hw]
  exact NC r qs wA hc hx ho wO (zF wI wY) wb hs uG uU vF lJ rb hq hK
 ·have h1 := z7 (v := σ.get u) (os := .box (QW u 1 wE) :: Zq qs wE) (fun e => by rw [e, wg] at wu; cases wu) (Xb (l := Z7 cells) wu)
  cases hd : o.o.dst with
  | none => exact h1
  | some d => exact V9 (fun e => wP (by rw [hd, e])) h1
end
attribute [simp] KX EW At.isO
end Go.Vm
namespace Go.Vm
open Go.RowKit
section
variable {P : Program} {σ : St} {k : Fr}
end
end Go.Vm
namespace Go.Vm
open Go.RowKit
section
variable {P : Program} {σ : St} {k : Fr}
theorem cR {A : Qo} {o : OpI} {l : JP} {c : Call} {f : FuncId} {d : Nat} {own : Bool} {rows res : List (List D)} (hs : QE P f own rows res) (h : @EI P (σ.put d (K8 res)) A l k) (wA : o.o.op = .call c := by exact rfl) (hc : c.callee = .value (.func f) := by exact rfl) (hg : o.o.guard = none := by exact rfl) (hd : o.o.dst = some d := by exact rfl)
  (wY : (Yk P σ c.args.toList c.argTypes.toList).2 = some rows := by simp) (wI : (Yk P σ c.args.toList c.argTypes.toList).1 := by simp) (wb : Z4 P σ c.args.toList c.argTypes.toList = true \/ Jq own res := by simp) : @SI P σ A o l k :=
 Of wA hc hg hd hs wY wI wb h
theorem cD {A : Qo} {o : OpI} {l : JP} {c : Call} {f : FuncId} {d : Nat} {rows res : List (List D)} (qs : List Bool) (hs : Yx P f rows res) (h : @EI P (σ.new d (zu d res) (Zq qs res.flatten)) A l k) (wA : o.o.op = .call c := by exact rfl) (hc : c.callee = .value (.func f) := by exact rfl) (hg : o.o.guard = none := by exact rfl) (hd : o.o.dst = some d := by exact rfl)
  (wY : (Yk P σ c.args.toList c.argTypes.toList).2 = some rows := by simp) (wI : (Yk P σ c.args.toList c.argTypes.toList).1 := by simp) (hq : J0 qs res.flatten := by simp) (hf : σ.fresh d = true := by simp) : @SI P σ A o l k := OV qs wA hc hg hd hs wY wI hq hf h
theorem cC {b : Bool} {x y : KO} (c : Bool) (ht : yg σ -> c = true -> @WI P σ x k) (hf : yg σ -> c = false -> @WI P σ y k) (hc : c = b := by simp) : @CI P b σ x y k := V2 hc ht hf
end
section
variable {P : Program} {σ : St} {k : Fr}
end
@[simp] abbrev eI (t : Nat) (n : Int) : Nat × V × List Ob := (t, .one (.d (.int .i64 n)), [])
@[simp] abbrev eB (t : Nat) (b : Bool) : Nat × V × List Ob := (t, .one (.d (.bool b)), [])
@[simp] abbrev eL {α : Type} (t s : Nat) (l : List α) (f : α -> List D) : Nat × V × List Ob := (t, .one (.d (.sl s (l.map f))), [])
@[simp] abbrev eP (t u c : Nat) : Nat × V × List Ob := (t, .one (.bptr u c), [])
@[simp] abbrev eG (t : Nat) (xs : List At) : Nat × V × List Ob := (t, .agg xs, [])
@[simp] abbrev eX (t : Nat) (xs : List At) : Nat × V × List Ob := (t, .one (.bptr t 0), [.box xs])
end Go.Vm
namespace Go.Vm
open Go.RowKit
structure Me {α : Type} (x y : α) : Prop where
 h : x = y
structure Bx (p : Prop) : Prop where
 h : p
theorem me {α : Type} {x y : α} (h : x = y) : Me x y := ⟨h⟩
theorem ms {α β : Type} {x y y' : α} {l r : β} (f : Me x y) (e : Me l r) (h : l = r -> y = y' := by intro e; simp only [e]; exact rfl) : Me x y' := ⟨f.h.trans (h e.h)⟩
theorem an {p q : Prop} (h : p) (k : q) : p /\ q := ⟨h, k⟩
theorem ix {α : Type} {v : Nat} {l : List α} (h : decide ((v : Int) < (l.length : Int)) = true) : v < l.length := by simpa using h
theorem ml {α : Type} {q : Prop} (l : List α) (m : q) (h : q -> l.length <= 9223372036854775807 := by intro m; simpa using m) : l.length <= 9223372036854775807 := h m
theorem wr (n : Nat) (h : (n : Int) + 1 <= 9223372036854775807 := by first | omega | (simp only [decide_eq_true_eq, decide_eq_false_iff_not, beq_iff_eq, beq_eq_false_iff_ne, bne_iff_ne, ne_eq, Bool.or_eq_false_iff, Bool.or_eq_true, Bool.and_eq_true, Bool.not_eq_true', Bool.not_eq_false'] at *; omega)) : IntKind.i64.wrap ((n : Int) + 1) = (n : Int) + 1 := XV (by omega) (by omega)
section
variable {P : Program} {σ : St} {k : Fr}
theorem so {f : FuncId} {fn : Func} {n : Nat} {own : Bool} {args res : List (List D)} {p : Prop} (hf : P.funcs[f]? = some fn) (hn : fn.ntmps = n) (h : p) {c : Code} (hb : fn.body = some c := by exact rfl) (wa : qU P f = true := by kernel_rfl)
  (kk : Bx p -> @WI P (zg n args) ⟨c⟩ (.fin (NO P fn own res)) := by (intro z; simp; (repeat (with_reducible refine Go.Mo.sd ?_)); exact z.h)) : QE P f own args res := HD hf hb wa (by rw [hn]; exact kk ⟨h⟩)
theorem soD {f : FuncId} {fn : Func} {n : Nat} {args res : List (List D)} {p : Prop} (hf : P.funcs[f]? = some fn) (hn : fn.ntmps = n) (h : p) {c : Code} (hb : fn.body = some c := by exact rfl) (wa : qU P f = true := by kernel_rfl)
  (kk : Bx p -> @WI P (zg n args) ⟨c⟩ (.fin (IB P fn res)) := by (intro z; simp; (repeat (with_reducible refine Go.Mo.sd ?_)); exact z.h)) : Yx P f args res := Is hf hb wa (by rw [hn]; exact kk ⟨h⟩)
theorem cF {α : Type} {u y z : α} {b c : Bool} {xc yc : KO} {p q : Prop} (f : Me u (bif c then y else z)) (ht : yg σ -> c = true -> Me u y -> p) (hf : yg σ -> c = false -> Me u z -> q) (hc : c = b := by simp) (kt : Bx p -> @WI P σ xc k := by (intro z; simp; (repeat (with_reducible refine Go.Mo.sd ?_)); exact z.h)) (kf : Bx q -> @WI P σ yc k := by (intro z; simp; (repeat (with_reducible refine Go.Mo.sd ?_)); exact z.h)) : @CI P b σ xc yc k :=
 V2 hc (fun s h => kt ⟨(ht s h ⟨f.h.trans (by rw [h]; rfl)⟩)⟩) (fun s h => kf ⟨(hf s h ⟨f.h.trans (by rw [h]; rfl)⟩)⟩)
theorem cFt {α : Type} {u y z : α} {b c : Bool} {xc yc : KO} {p : Prop} (f : Me u (bif c then y else z)) (ht : yg σ -> c = true -> Me u y -> p) (hf : yg σ -> c = false -> Me u z -> @WI P σ yc k) (hc : c = b := by simp) (kt : Bx p -> @WI P σ xc k := by (intro z; simp; (repeat (with_reducible refine Go.Mo.sd ?_)); exact z.h)) : @CI P b σ xc yc k :=
 V2 hc (fun s h => kt ⟨(ht s h ⟨f.h.trans (by rw [h]; rfl)⟩)⟩) (fun s h => (hf s h ⟨f.h.trans (by rw [h]; rfl)⟩))
theorem cFf {α : Type} {u y z : α} {b c : Bool} {xc yc : KO} {q : Prop} (f : Me u (bif c then y else z)) (ht : yg σ -> c = true -> Me u y -> @WI P σ xc k) (hf : yg σ -> c = false -> Me u z -> q) (hc : c = b := by simp) (kf : Bx q -> @WI P σ yc k := by (intro z; simp; (repeat (with_reducible refine Go.Mo.sd ?_)); exact z.h)) : @CI P b σ xc yc k :=
 V2 hc (fun s h => (ht s h ⟨f.h.trans (by rw [h]; rfl)⟩)) (fun s h => kf ⟨(hf s h ⟨f.h.trans (by rw [h]; rfl)⟩)⟩)
theorem cFo {α : Type} {u y z : α} {b c : Bool} {xc yc : KO} (f : Me u (bif c then y else z)) (ht : yg σ -> c = true -> Me u y -> @WI P σ xc k) (hf : yg σ -> c = false -> Me u z -> @WI P σ yc k) (hc : c = b := by simp) : @CI P b σ xc yc k :=
 V2 hc (fun s h => (ht s h ⟨f.h.trans (by rw [h]; rfl)⟩)) (fun s h => (hf s h ⟨f.h.trans (by rw [h]; rfl)⟩))
theorem cK {α : Type} {u y z : α} {b c : Bool} {xc yc : KO} {p q : Prop} (f : Me u (bif c then y else z)) (ht : yg σ -> c = true -> Me u y -> p) (hf : yg σ -> c = false -> Me u z -> q) (hc : c = b := by first | (simp [G]; done) | grind) (kt : Bx p -> @WI P σ xc k := by (intro z; simp [G, Go.Vm.ZI]; (repeat (with_reducible refine Go.Mo.sdg ?_)); exact z.h)) (kf : Bx q -> @WI P σ yc k := by (intro z; simp [G, Go.Vm.ZI]; (repeat (with_reducible refine Go.Mo.sdg ?_)); exact z.h)) : @CI P b σ xc yc k :=
 V2 hc (fun s h => kt ⟨(ht s h ⟨f.h.trans (by rw [h]; rfl)⟩)⟩) (fun s h => kf ⟨(hf s h ⟨f.h.trans (by rw [h]; rfl)⟩)⟩)
theorem cKt {α : Type} {u y z : α} {b c : Bool} {xc yc : KO} {p : Prop} (f : Me u (bif c then y else z)) (ht : yg σ -> c = true -> Me u y -> p) (hf : yg σ -> c = false -> Me u z -> @WI P σ yc k) (hc : c = b := by first | (simp [G]; done) | grind) (kt : Bx p -> @WI P σ xc k := by (intro z; simp [G, Go.Vm.ZI]; (repeat (with_reducible refine Go.Mo.sdg ?_)); exact z.h)) : @CI P b σ xc yc k :=
 V2 hc (fun s h => kt ⟨(ht s h ⟨f.h.trans (by rw [h]; rfl)⟩)⟩) (fun s h => (hf s h ⟨f.h.trans (by rw [h]; rfl)⟩))
theorem cKo {α : Type} {u y z : α} {b c : Bool} {xc yc : KO} (f : Me u (bif c then y else z)) (ht : yg σ -> c = true -> Me u y -> @WI P σ xc k) (hf : yg σ -> c = false -> Me u z -> @WI P σ yc k) (hc : c = b := by first | (simp [G]; done) | grind) : @CI P b σ xc yc k :=
 V2 hc (fun s h => (ht s h ⟨f.h.trans (by rw [h]; rfl)⟩)) (fun s h => (hf s h ⟨f.h.trans (by rw [h]; rfl)⟩))
theorem cY {c b : Bool} {xc yc : KO} {p : Prop} (h : c = true) (kk : p) (hc : c = b := by simp) (kt : Bx p -> @WI P σ xc k := by (intro z; simp; (repeat (with_reducible refine Go.Mo.sd ?_)); exact z.h)) : @CI P b σ xc yc k := V2 hc (fun _ g => kt ⟨kk⟩) (fun _ g => absurd (h.symm.trans g) (by decide))
theorem cRg {A : Qo} {o : OpI} {l : JP} {c : Call} {f : FuncId} {d : Nat} {own : Bool} {rows res : List (List D)} {p : Prop} (hs : QE P f own rows res) (h : p) (wA : o.o.op = .call c := by exact rfl) (hc : c.callee = .value (.func f) := by exact rfl) (hg : o.o.guard = none := by exact rfl) (hd : o.o.dst = some d := by exact rfl) (wY : (Yk P σ c.args.toList c.argTypes.toList).2 = some rows := by simp) (wI : (Yk P σ c.args.toList c.argTypes.toList).1 := by simp) (wb : Z4 P σ c.args.toList c.argTypes.toList = true \/ Jq own res := by simp) (kk : Bx p -> @EI P (σ.put d (K8 res)) A l k := by (intro z; simp [G, Go.Vm.ZI]; (repeat (with_reducible refine Go.Mo.sdg ?_)); exact z.h)) : @SI P σ A o l k := Of wA hc hg hd hs wY wI wb (kk ⟨h⟩)
theorem cRs {A : Qo} {o : OpI} {l : JP} {c : Call} {f : FuncId} {d : Nat} {own : Bool} {rows res : List (List D)} {p : Prop} (hs : QE P f own rows res) (h : p) (wA : o.o.op = .call c := by exact rfl) (hc : c.callee = .value (.func f) := by exact rfl) (hg : o.o.guard = none := by exact rfl) (hd : o.o.dst = some d := by exact rfl) (wY : (Yk P σ c.args.toList c.argTypes.toList).2 = some rows := by simp) (wI : (Yk P σ c.args.toList c.argTypes.toList).1 := by simp) (wb : Z4 P σ c.args.toList c.argTypes.toList = true \/ Jq own res := by simp) (kk : Bx p -> @EI P (σ.put d (K8 res)) A l k := by (intro z; simp; (repeat (with_reducible refine Go.Mo.sd ?_)); exact z.h)) : @SI P σ A o l k := Of wA hc hg hd hs wY wI wb (kk ⟨h⟩)
theorem cDg {A : Qo} {o : OpI} {l : JP} {c : Call} {f : FuncId} {d : Nat} {rows res : List (List D)} {p : Prop} (qs : List Bool) (hs : Yx P f rows res) (h : p) (wA : o.o.op = .call c := by exact rfl) (hc : c.callee = .value (.func f) := by exact rfl) (hg : o.o.guard = none := by exact rfl) (hd : o.o.dst = some d := by exact rfl) (wY : (Yk P σ c.args.toList c.argTypes.toList).2 = some rows := by simp) (wI : (Yk P σ c.args.toList c.argTypes.toList).1 := by simp) (hq : J0 qs res.flatten := by simp [-Bool.exists_bool, -Bool.forall_bool]) (hf : σ.fresh d = true := by simp) (kk : Bx p -> @EI P (σ.new d (zu d res) (Zq qs res.flatten)) A l k := by (intro z; simp [G, Go.Vm.ZI]; (repeat (with_reducible refine Go.Mo.sdg ?_)); exact z.h)) : @SI P σ A o l k := OV qs wA hc hg hd hs wY wI hq hf (kk ⟨h⟩)
theorem cDs {A : Qo} {o : OpI} {l : JP} {c : Call} {f : FuncId} {d : Nat} {rows res : List (List D)} {p : Prop} (qs : List Bool) (hs : Yx P f rows res) (h : p) (wA : o.o.op = .call c := by exact rfl) (hc : c.callee = .value (.func f) := by exact rfl) (hg : o.o.guard = none := by exact rfl) (hd : o.o.dst = some d := by exact rfl) (wY : (Yk P σ c.args.toList c.argTypes.toList).2 = some rows := by simp) (wI : (Yk P σ c.args.toList c.argTypes.toList).1 := by simp) (hq : J0 qs res.flatten := by simp [-Bool.exists_bool, -Bool.forall_bool]) (hf : σ.fresh d = true := by simp) (kk : Bx p -> @EI P (σ.new d (zu d res) (Zq qs res.flatten)) A l k := by (intro z; simp; (repeat (with_reducible refine Go.Mo.sd ?_)); exact z.h)) : @SI P σ A o l k := OV qs wA hc hg hd hs wY wI hq hf (kk ⟨h⟩)
theorem cDf {A : Qo} {o : OpI} {l : JP} {c : Call} {f : FuncId} {d : Nat} {rows res : List (List D)} {p q : Prop} (F : q) (qs : List Bool) (hs : Yx P f rows res) (h : p) (wA : o.o.op = .call c := by exact rfl) (hc : c.callee = .value (.func f) := by exact rfl) (hg : o.o.guard = none := by exact rfl) (hd : o.o.dst = some d := by exact rfl) (wY : (Yk P σ c.args.toList c.argTypes.toList).2 = some rows := by simp) (wI : (Yk P σ c.args.toList c.argTypes.toList).1 := by simp) (hq : J0 qs res.flatten := by simp [-Bool.exists_bool, -Bool.forall_bool]) (hf : σ.fresh d = true := by simp) (kk : q -> Bx p -> @EI P (σ.new d (zu d res) (Zq qs res.flatten)) A l k := by (intro F z; simp [F, Go.Vm.ZI]; (repeat (with_reducible refine Go.Mo.sd ?_)); exact z.h)) : @SI P σ A o l k := OV qs wA hc hg hd hs wY wI hq hf (kk F ⟨h⟩)
theorem cGo {A : Qo} {o : OpI} {l : JP} {c : Call} {f : FuncId} {d : Nat} {j dj : Nat} {want g own : Bool} {rows : List (List D)} {res : List D} (hs : g = true -> QE P f own rows [res]) (h : @EI P (σ.put d (.cnd g (K8 [res]))) A l k) (wA : o.o.op = .call c := by exact rfl) (hc : c.callee = .value (.func f) := by exact rfl) (hg : o.o.guard = some (j, want) := by exact rfl) (hd : o.o.dst = some d := by exact rfl) (uD : (A.ops[j]?).bind (·.dst) = some dj := by exact rfl) (uN : zX want (σ.get dj) = some g := by exact rfl) (wY : (Yk P σ c.args.toList c.argTypes.toList).2 = some rows := by first | (simp; done) | (simp [G]; done) | (simp [G]; omega) | (simp_all; done)) (wO : dj < σ.length := by first | (simp; done) | (simp [G]; done) | (simp [G]; omega) | (simp_all; done)) (wI : g = true -> (Yk P σ c.args.toList c.argTypes.toList).1 := by first | (simp; done) | (simp [G]; done) | (simp [G]; omega) | (simp_all; done)) (wb : Z4 P σ c.args.toList c.argTypes.toList = true \/ Jq own [res] := by first | (simp; done) | (simp [G]; done) | (simp [G]; omega) | (simp_all; done)) : @SI P σ A o l k := M1 wA hc hg hd uD uN hs wY wO wI wb h
theorem cGg {A : Qo} {o : OpI} {l : JP} {c : Call} {f : FuncId} {d : Nat} {j dj : Nat} {want g own : Bool} {rows : List (List D)} {res : List D} {p : Prop} (hs : g = true -> QE P f own rows [res]) (h : p) (wA : o.o.op = .call c := by exact rfl) (hc : c.callee = .value (.func f) := by exact rfl) (hg : o.o.guard = some (j, want) := by exact rfl) (hd : o.o.dst = some d := by exact rfl) (uD : (A.ops[j]?).bind (·.dst) = some dj := by exact rfl) (uN : zX want (σ.get dj) = some g := by exact rfl) (wY : (Yk P σ c.args.toList c.argTypes.toList).2 = some rows := by first | (simp; done) | (simp [G]; done) | (simp [G]; omega) | (simp_all; done)) (wO : dj < σ.length := by first | (simp; done) | (simp [G]; done) | (simp [G]; omega) | (simp_all; done)) (wI : g = true -> (Yk P σ c.args.toList c.argTypes.toList).1 := by first | (simp; done) | (simp [G]; done) | (simp [G]; omega) | (simp_all; done)) (wb : Z4 P σ c.args.toList c.argTypes.toList = true \/ Jq own [res] := by first | (simp; done) | (simp [G]; done) | (simp [G]; omega) | (simp_all; done)) (kk : Bx p -> @EI P (σ.put d (.cnd g (K8 [res]))) A l k := by (intro z; simp [G, Go.Vm.ZI]; (repeat (with_reducible refine Go.Mo.sdg ?_)); exact z.h)) : @SI P σ A o l k := M1 wA hc hg hd uD uN hs wY wO wI wb (kk ⟨h⟩)
theorem cGs {A : Qo} {o : OpI} {l : JP} {c : Call} {f : FuncId} {d : Nat} {j dj : Nat} {want g own : Bool} {rows : List (List D)} {res : List D} {p : Prop} (hs : g = true -> QE P f own rows [res]) (h : p) (wA : o.o.op = .call c := by exact rfl) (hc : c.callee = .value (.func f) := by exact rfl) (hg : o.o.guard = some (j, want) := by exact rfl) (hd : o.o.dst = some d := by exact rfl) (uD : (A.ops[j]?).bind (·.dst) = some dj := by exact rfl) (uN : zX want (σ.get dj) = some g := by exact rfl) (wY : (Yk P σ c.args.toList c.argTypes.toList).2 = some rows := by simp) (wO : dj < σ.length := by simp) (wI : g = true -> (Yk P σ c.args.toList c.argTypes.toList).1 := by simp) (wb : Z4 P σ c.args.toList c.argTypes.toList = true \/ Jq own [res] := by simp) (kk : Bx p -> @EI P (σ.put d (.cnd g (K8 [res]))) A l k := by (intro z; simp; (repeat (with_reducible refine Go.Mo.sd ?_)); exact z.h)) : @SI P σ A o l k := M1 wA hc hg hd uD uN hs wY wO wI wb (kk ⟨h⟩)
theorem cBo {A : Qo} {o : OpI} {l : JP} {cl : Call} {f : FuncId} {d : Nat} {x0 : Operand} {xs : List Operand} {t0 : TypeId} {ts : List TypeId} {wS res : List (List D)} {row wE : List D} {dp : Bool} {t : Nat} (qs : List Bool) (hs : KE P f dp row wS wE res) (h : @EI P (N7 dp (σ.ZT t 0 (.box (wE.map .d))) d res qs) A l k) (wA : o.o.op = .call cl := by exact rfl) (hc : cl.callee = .value (.func f) := by exact rfl) (tv : o.o.guard = none := by exact rfl) (hd : o.o.dst = some d := by exact rfl) (wj : A.bar o.o = true := by exact rfl) (ha : cl.args.toList = x0 :: xs := by exact rfl) (uv : cl.argTypes.toList = t0 :: ts := by exact rfl) (hx : gOf (look P σ t0 x0) = true /\ unc (look P σ t0 x0) = .one (.bptr t 0) := by exact ⟨rfl, rfl⟩) (ho : σ.ob t 0 = .box (row.map .d) := by simp) (wI : (Yk P σ xs ts).1 := by simp) (wY : (Yk P σ xs ts).2 = some wS := by simp) (wb : Z4 P σ xs ts = true := by simp) (w7 : dp = true -> (σ.ZT t 0 (.box (wE.map .d))).fresh d = true /\ J0 qs res.flatten := by simp [-Bool.exists_bool, -Bool.forall_bool]) : @SI P σ A o l k := Fi qs wA hc tv hd wj ha uv hs hx ho wI wY wb w7 h
theorem cBs {A : Qo} {o : OpI} {l : JP} {cl : Call} {f : FuncId} {d : Nat} {x0 : Operand} {xs : List Operand} {t0 : TypeId} {ts : List TypeId} {wS res : List (List D)} {row wE : List D} {dp : Bool} {t : Nat} {p : Prop} (qs : List Bool) (hs : KE P f dp row wS wE res) (h : p) (wA : o.o.op = .call cl := by exact rfl) (hc : cl.callee = .value (.func f) := by exact rfl) (tv : o.o.guard = none := by exact rfl) (hd : o.o.dst = some d := by exact rfl) (wj : A.bar o.o = true := by exact rfl) (ha : cl.args.toList = x0 :: xs := by exact rfl) (uv : cl.argTypes.toList = t0 :: ts := by exact rfl) (hx : gOf (look P σ t0 x0) = true /\ unc (look P σ t0 x0) = .one (.bptr t 0) := by exact ⟨rfl, rfl⟩) (ho : σ.ob t 0 = .box (row.map .d) := by simp) (wI : (Yk P σ xs ts).1 := by simp) (wY : (Yk P σ xs ts).2 = some wS := by simp) (wb : Z4 P σ xs ts = true := by simp) (w7 : dp = true -> (σ.ZT t 0 (.box (wE.map .d))).fresh d = true /\ J0 qs res.flatten := by simp [-Bool.exists_bool, -Bool.forall_bool]) (kk : Bx p -> @EI P (N7 dp (σ.ZT t 0 (.box (wE.map .d))) d res qs) A l k := by (intro z; simp; (repeat (with_reducible refine Go.Mo.sd ?_)); exact z.h)) : @SI P σ A o l k := Fi qs wA hc tv hd wj ha uv hs hx ho wI wY wb w7 (kk ⟨h⟩)
theorem cNs {A : Qo} {o : OpI} {l : JP} {cl : Call} {f : FuncId} {d : Nat} {wS : List (List D)} {wE : List D} {p : Prop} (hs : Ui P f wS wE) (h : p) (wA : o.o.op = .call cl := by exact rfl) (hc : cl.callee = .value (.func f) := by exact rfl) (tv : o.o.guard = none := by exact rfl) (hd : o.o.dst = some d := by exact rfl) (wj : A.bar o.o = true := by exact rfl) (wI : (Yk P σ cl.args.toList cl.argTypes.toList).1 := by simp) (wY : (Yk P σ cl.args.toList cl.argTypes.toList).2 = some wS := by simp) (wb : Z4 P σ cl.args.toList cl.argTypes.toList = true := by simp) (w7 : σ.fresh d = true := by simp) (tZ : QL P o.o = false := by exact rfl) (kk : Bx p -> @EI P (σ.new d (.one (.bptr d 0)) [.box (wE.map .d)]) A l k := by (intro z; simp; (repeat (with_reducible refine Go.Mo.sd ?_)); exact z.h)) : @SI P σ A o l k := EY wA hc tv hd wj hs wI wY wb w7 (kk ⟨h⟩) tZ
theorem dIo {id : Nat} {l : List Oper} {br : Oper -> Bool} (hm : P.follows .mixedOrders = true) (h : @EI P σ ⟨⟨l⟩, fun _ => false⟩ ⟨l⟩ k) (hdr : TH P ⟨l⟩ (fun i => i) (fun _ => false) = true := by kernel_rfl) (wg : KT ⟨l⟩ (fun i => i) σ = true := by kernel_rfl) : @DI P id σ ⟨⟨l⟩, br⟩ k := FL hm hdr wg h
theorem dIs {id : Nat} {l : List Oper} {br : Oper -> Bool} {p : Prop} (hm : P.follows .mixedOrders = true) (h : p) (hdr : TH P ⟨l⟩ (fun i => i) (fun _ => false) = true := by kernel_rfl) (wg : KT ⟨l⟩ (fun i => i) σ = true := by kernel_rfl) (kk : Bx p -> @EI P σ ⟨⟨l⟩, fun _ => false⟩ ⟨l⟩ k := by (intro z; (try simp); (repeat (with_reducible refine Go.Mo.sd ?_)); exact z.h)) : @DI P id σ ⟨⟨l⟩, br⟩ k := FL hm hdr wg (kk ⟨h⟩)
theorem eIs {A : Qo} {o : OpI} {l : JP} {d : Nat} {p : Prop}  (h : p) (hp : OY o.o = true := by exact rfl) (hg : o.o.guard = none := by exact rfl) (hd : o.o.dst = some d := by exact rfl) (kk : Bx p -> (evS P σ o.o d).1 /\ @EI P (evS P σ o.o d).2 A l k := by (intro z; simp; (repeat (with_reducible refine Go.Mo.sd ?_)); exact z.h)) : @SI P σ A o l k := evI hp hg hd (kk ⟨h⟩)
theorem sGo {A : Qo} {o : OpI} {l : JP} {j dj d : Nat} {want g : Bool}  (h : @EI P (σ.put d (.cnd false .any)) A l k) (hg : o.o.guard = some (j, want) := by exact rfl) (hd : o.o.dst = some d := by exact rfl) (uD : (A.ops[j]?).bind (·.dst) = some dj := by exact rfl) (uN : zX want (σ.get dj) = some g := by exact rfl) (wO : dj < σ.length := by simp) (mr : g = false := by simp [G]) : @SI P σ A o l k := FN hg hd uD uN wO mr h
theorem sGg {A : Qo} {o : OpI} {l : JP} {j dj d : Nat} {want g : Bool} {p : Prop}  (h : p) (hg : o.o.guard = some (j, want) := by exact rfl) (hd : o.o.dst = some d := by exact rfl) (uD : (A.ops[j]?).bind (·.dst) = some dj := by exact rfl) (uN : zX want (σ.get dj) = some g := by exact rfl) (wO : dj < σ.length := by simp) (mr : g = false := by simp [G]) (kk : Bx p -> @EI P (σ.put d (.cnd false .any)) A l k := by (intro z; simp [G, Go.Vm.ZI]; (repeat (with_reducible refine Go.Mo.sdg ?_)); exact z.h)) : @SI P σ A o l k := FN hg hd uD uN wO mr (kk ⟨h⟩)
theorem gIf {A : Qo} {o : OpI} {l : JP} {j dj d : Nat} {want g : Bool} {r1 r2 : Prop} {q : Prop} (ht : r1 -> ((evV P σ o.o.op o.o.type).1 /\ gOf (evV P σ o.o.op o.o.type).2 = true /\ (unc (evV P σ o.o.op o.o.type).2).flat = true) /\ @EI P (σ.put d (.cnd true (unc (evV P σ o.o.op o.o.type).2))) A l k) (hf : r2 -> q) (wA : Sf o.o.op = false := by exact rfl) (hg : o.o.guard = some (j, want) := by exact rfl) (hd : o.o.dst = some d := by exact rfl) (uD : (A.ops[j]?).bind (·.dst) = some dj := by exact rfl) (uN : zX want (σ.get dj) = some g := by exact rfl) (wO : dj < σ.length := by simp) (k1 : g = true -> r1 := by (intro h; (try simp only [beq_true, beq_false, Bool.not_eq_true', Bool.not_eq_false', Bool.true_and, Bool.and_true] at h); exact h)) (k2 : g = false -> r2 := by (intro h; (try simp only [beq_true, beq_false, Bool.not_eq_true', Bool.not_eq_false', Bool.true_and, Bool.and_true] at h); exact h)) (kf : r2 -> Bx q -> @EI P (σ.put d (.cnd false .any)) A l k := by (intro G z; simp [G, Go.Vm.ZI]; (repeat (with_reducible refine Go.Mo.sdg ?_)); exact z.h)) : @SI P σ A o l k := OM wA hg hd uD uN wO (fun h => ht (k1 h)) (fun h => (fun G => kf G ⟨hf G⟩) (k2 h))
theorem gIo {A : Qo} {o : OpI} {l : JP} {j dj d : Nat} {want g : Bool} {r1 r2 : Prop} (ht : r1 -> ((evV P σ o.o.op o.o.type).1 /\ gOf (evV P σ o.o.op o.o.type).2 = true /\ (unc (evV P σ o.o.op o.o.type).2).flat = true) /\ @EI P (σ.put d (.cnd true (unc (evV P σ o.o.op o.o.type).2))) A l k) (hf : r2 -> @EI P (σ.put d (.cnd false .any)) A l k) (wA : Sf o.o.op = false := by exact rfl) (hg : o.o.guard = some (j, want) := by exact rfl) (hd : o.o.dst = some d := by exact rfl) (uD : (A.ops[j]?).bind (·.dst) = some dj := by exact rfl) (uN : zX want (σ.get dj) = some g := by exact rfl) (wO : dj < σ.length := by simp) (k1 : g = true -> r1 := by (intro h; (try simp only [beq_true, beq_false, Bool.not_eq_true', Bool.not_eq_false', Bool.true_and, Bool.and_true] at h); exact h)) (k2 : g = false -> r2 := by (intro h; (try simp only [beq_true, beq_false, Bool.not_eq_true', Bool.not_eq_false', Bool.true_and, Bool.and_true] at h); exact h)) : @SI P σ A o l k := OM wA hg hd uD uN wO (fun h => ht (k1 h)) (fun h => hf (k2 h))
theorem gJf {A : Qo} {o : OpI} {l : JP} {j dj d : Nat} {want g : Bool} {r1 r2 s : Prop} {q : Prop} (G : s) (ht : s /\ r1 -> ((evV P σ o.o.op o.o.type).1 /\ gOf (evV P σ o.o.op o.o.type).2 = true /\ (unc (evV P σ o.o.op o.o.type).2).flat = true) /\ @EI P (σ.put d (.cnd true (unc (evV P σ o.o.op o.o.type).2))) A l k) (hf : s /\ r2 -> q) (wA : Sf o.o.op = false := by exact rfl) (hg : o.o.guard = some (j, want) := by exact rfl) (hd : o.o.dst = some d := by exact rfl) (uD : (A.ops[j]?).bind (·.dst) = some dj := by exact rfl) (uN : zX want (σ.get dj) = some g := by exact rfl) (wO : dj < σ.length := by simp) (k1 : g = true -> r1 := by (intro h; (try simp only [beq_true, beq_false, Bool.not_eq_true', Bool.not_eq_false', Bool.true_and, Bool.and_true] at h); exact h)) (k2 : g = false -> r2 := by (intro h; (try simp only [beq_true, beq_false, Bool.not_eq_true', Bool.not_eq_false', Bool.true_and, Bool.and_true] at h); exact h)) (kf : s /\ r2 -> Bx q -> @EI P (σ.put d (.cnd false .any)) A l k := by (intro G z; simp [G, Go.Vm.ZI]; (repeat (with_reducible refine Go.Mo.sdg ?_)); exact z.h)) : @SI P σ A o l k := OM wA hg hd uD uN wO (fun h => ht ⟨G, k1 h⟩) (fun h => (fun G => kf G ⟨hf G⟩) ⟨G, k2 h⟩)
theorem gK {A : Qo} {o : OpI} {l : JP} {j dj d : Nat} {want g : Bool} {r1 : Prop} (ht : r1 -> ((evV P σ o.o.op o.o.type).1 /\ gOf (evV P σ o.o.op o.o.type).2 = true /\ (unc (evV P σ o.o.op o.o.type).2).flat = true) /\ @EI P (σ.put d (.cnd true (unc (evV P σ o.o.op o.o.type).2))) A l k) (wA : Sf o.o.op = false := by exact rfl) (hg : o.o.guard = some (j, want) := by exact rfl) (hd : o.o.dst = some d := by exact rfl) (uD : (A.ops[j]?).bind (·.dst) = some dj := by exact rfl) (uN : zX want (σ.get dj) = some g := by exact rfl) (wO : dj < σ.length := by simp) (k1 : g = true -> r1 := by (intro h; (try simp only [beq_true, beq_false, Bool.not_eq_true', Bool.not_eq_false', Bool.true_and, Bool.and_true] at h); exact h)) (k2 : g = false -> False := by first | (intro g0; simp at g0; done) | (intro g0; simp [G] at g0; done)) : @SI P σ A o l k := OM wA hg hd uD uN wO (fun h => ht (k1 h)) (fun h => (k2 h).elim)
theorem rt {α : Type} {x y : α} {fn : Func} {res : List (List D)} (rv : List ResultVar) (f : Me x y) (hf : fn.results = rv.toArray := by exact rfl) (h : x = y -> (QC P σ rv).1 /\ zo σ (QC P σ rv).2 = some res := by (intro f; simp [f])) : NO P fn false res .ret σ := FQ hf (h f.h)
theorem rtg {α : Type} {x y : α} {fn : Func} {res : List (List D)} (rv : List ResultVar) (f : Me x y) (hf : fn.results = rv.toArray := by exact rfl) (h : x = y -> (QC P σ rv).1 /\ zo σ (QC P σ rv).2 = some res := by (intro f; simp [f, G])) : NO P fn false res .ret σ := FQ hf (h f.h)
theorem rtO {α : Type} {x y : α} {fn : Func} {res : List (List D)} (rv : List ResultVar) (f : Me x y) (hf : fn.results = rv.toArray := by exact rfl) (h : x = y -> (QC P σ rv).1 /\ qB σ (QC P σ rv).2 = some res /\ (Z7 (QC P σ rv).2.flatten).Nodup := by (intro f; simp [f])) : NO P fn true res .ret σ := EC hf (h f.h)
theorem rtD {α : Type} {x y : α} {fn : Func} {res : List (List D)} (rv : List ResultVar) (f : Me x y) (hf : fn.results = rv.toArray := by exact rfl) (h : x = y -> (QC P σ rv).1 /\ Qb σ (QC P σ rv).2 = some res /\ QK σ (QC P σ rv).2 /\ (Z7 (QC P σ rv).2.flatten).Nodup := by (intro f; simp [f, -Bool.exists_bool, -Bool.forall_bool])) : IB P fn res .ret σ := LS hf (h f.h)
theorem yQ {α : Type} {x y : α} {fn : Func} {res : List (List D)} (rv : List ResultVar) (f : Me x y) (hf : fn.results = rv.toArray := by exact rfl) (h : x = y -> (QC P σ rv).1 /\ Qb σ (QC P σ rv).2 = some res /\ QK σ (QC P σ rv).2 /\ (Z7 (QC P σ rv).2.flatten).Nodup := by (intro f; simp [f, G, -Bool.exists_bool, -Bool.forall_bool])) : IB P fn res .ret σ := LS hf (h f.h)
end
class NxI where
 p : St -> Prop
def Nx (σ : St) [n : NxI] : Prop := n.p σ
section
variable {P : Program} {σ : St} {k : Fr}
theorem SL {c : KO} {n n' : St -> Prop} (hn : ∀ σ', n σ' -> n' σ') (h : @WI P σ c (.nxt n k)) : AWP P c.c (Fr.run P (.nxt n' k)) σ :=
 ME (fun e σ' hq => by cases e <;> first | exact hn _ hq | exact hq) (ya h)
abbrev Q1 {R : Type} {A0 : Type} (L : Nat -> A0 -> R) (S : A0 -> St) (I : Nat -> A0 -> Prop) (t : R) (b : Nat) : NxI := ⟨fun τ => ∃ a0, Me t (L b a0) /\ (1 <= b /\ I b a0) /\ Wk τ (S a0)⟩
theorem nx1 {R : Type} {A0 : Type} {L : Nat -> A0 -> R} {S : A0 -> St} {I : Nat -> A0 -> Prop} {t : R} {b : Nat} {a0 : A0} (e : Me t (L b a0)) (hI : 1 <= b /\ I b a0 := by ((try dsimp only); first | omega | (simp at *; omega))) (hw : Wk σ (S a0) := by exact Qv (by simp)) : @Nx σ (Q1 L S I t b) := ⟨a0, e, hI, hw⟩
theorem ny1 {R : Type} {A0 : Type} {L : Nat -> A0 -> R} {S : A0 -> St} {I : Nat -> A0 -> Prop} {t : R} {b : Nat} {a0 : A0} {q : Prop} (F : q) (e : Me t (L b a0)) (hI : 1 <= b /\ I b a0 := by ((try dsimp only); first | omega | (simp at *; omega))) (kw : q -> Wk σ (S a0) := by (intro F; exact Qv (by simp [F]))) : @Nx σ (Q1 L S I t b) := ⟨a0, e, hI, kw F⟩
theorem lp1 {c : KO} {R : Type} {A0 : Type} {L B : Nat -> A0 -> R} (hL : ∀ (a0 : A0) (n : Nat), L (Nat.succ n) a0 = B n a0) (S : A0 -> St) (I : Nat -> A0 -> Prop) (n0 : Nat) (b0 : A0) {p : Nat -> A0 -> Prop}
  (round : ∀ n (a0 : A0), Me (L n0 b0) (B n a0) -> 1 <= n + 1 /\ I (n + 1) a0 -> p n a0) (hI : 1 <= n0 /\ I n0 b0 := by first | omega | (dsimp only; omega) | simp) (h0 : Wk σ (S b0) := by exact Qv (by simp)) (kk : ∀ n (a0 : A0), Bx (p n a0) -> @WI P (S a0) c (.nxt (fun σ' => @Nx σ' (Q1 L S I (L n0 b0) n)) k) := by (intro n_ lK z; simp; (repeat (with_reducible refine Go.Mo.sd ?_)); exact z.h)) : @WT P σ c k := by
 refine qh (ι := { s : Nat × A0 // Me (L n0 b0) (L s.1 s.2) /\ (1 <= s.1 /\ I s.1 s.2) }) (fun s => S s.1.2) (fun s => s.1.1) ⟨(n0, b0), ⟨rfl⟩, hI⟩ h0 ?_
 rintro ⟨⟨n1, a0⟩, e, j⟩
 obtain ⟨n, rfl⟩ : ∃ q, n1 = q + 1 := ⟨n1 - 1, by have := j.1; (try dsimp only at this); omega⟩
 refine SL (fun σ' hn => ?_) (kk n a0 ⟨round n a0 ⟨by have := e.h; (try dsimp only at this); rw [this, hL]⟩ j⟩)
 obtain ⟨c0, e2, j2, w2⟩ := hn
 exact ⟨⟨(n, c0), e2, j2⟩, Nat.lt_succ_self n, w2⟩
abbrev Q2 {R : Type} {A0 A1 : Type} (L : Nat -> A0 -> A1 -> R) (S : A0 -> A1 -> St) (I : Nat -> A0 -> A1 -> Prop) (t : R) (b : Nat) : NxI := ⟨fun τ => ∃ a0 a1, Me t (L b a0 a1) /\ (1 <= b /\ I b a0 a1) /\ Wk τ (S a0 a1)⟩
theorem nx2 {R : Type} {A0 A1 : Type} {L : Nat -> A0 -> A1 -> R} {S : A0 -> A1 -> St} {I : Nat -> A0 -> A1 -> Prop} {t : R} {b : Nat} {a0 : A0} {a1 : A1} (e : Me t (L b a0 a1)) (hI : 1 <= b /\ I b a0 a1 := by ((try dsimp only); first | omega | (simp at *; omega))) (hw : Wk σ (S a0 a1) := by exact Qv (by simp)) : @Nx σ (Q2 L S I t b) := ⟨a0, a1, e, hI, hw⟩
theorem ny2 {R : Type} {A0 A1 : Type} {L : Nat -> A0 -> A1 -> R} {S : A0 -> A1 -> St} {I : Nat -> A0 -> A1 -> Prop} {t : R} {b : Nat} {a0 : A0} {a1 : A1} {q : Prop} (F : q) (e : Me t (L b a0 a1)) (hI : 1 <= b /\ I b a0 a1 := by ((try dsimp only); first | omega | (simp at *; omega))) (kw : q -> Wk σ (S a0 a1) := by (intro F; exact Qv (by simp [F]))) : @Nx σ (Q2 L S I t b) := ⟨a0, a1, e, hI, kw F⟩
theorem lp2 {c : KO} {R : Type} {A0 A1 : Type} {L B : Nat -> A0 -> A1 -> R} (hL : ∀ (a0 : A0) (a1 : A1) (n : Nat), L (Nat.succ n) a0 a1 = B n a0 a1) (S : A0 -> A1 -> St) (I : Nat -> A0 -> A1 -> Prop) (n0 : Nat) (b0 : A0) (b1 : A1) {p : Nat -> A0 -> A1 -> Prop}
  (round : ∀ n (a0 : A0) (a1 : A1), Me (L n0 b0 b1) (B n a0 a1) -> 1 <= n + 1 /\ I (n + 1) a0 a1 -> p n a0 a1) (hI : 1 <= n0 /\ I n0 b0 b1 := by first | omega | (dsimp only; omega) | simp) (h0 : Wk σ (S b0 b1) := by exact Qv (by simp)) (kk : ∀ n (a0 : A0) (a1 : A1), Bx (p n a0 a1) -> @WI P (S a0 a1) c (.nxt (fun σ' => @Nx σ' (Q2 L S I (L n0 b0 b1) n)) k) := by (intro n_ lK iz z; simp; (repeat (with_reducible refine Go.Mo.sd ?_)); exact z.h)) : @WT P σ c k := by
 refine qh (ι := { s : Nat × A0 × A1 // Me (L n0 b0 b1) (L s.1 s.2.1 s.2.2) /\ (1 <= s.1 /\ I s.1 s.2.1 s.2.2) }) (fun s => S s.1.2.1 s.1.2.2) (fun s => s.1.1) ⟨(n0, b0, b1), ⟨rfl⟩, hI⟩ h0 ?_
 rintro ⟨⟨n1, a0, a1⟩, e, j⟩
 obtain ⟨n, rfl⟩ : ∃ q, n1 = q + 1 := ⟨n1 - 1, by have := j.1; (try dsimp only at this); omega⟩
 refine SL (fun σ' hn => ?_) (kk n a0 a1 ⟨round n a0 a1 ⟨by have := e.h; (try dsimp only at this); rw [this, hL]⟩ j⟩)
 obtain ⟨c0, c1, e2, j2, w2⟩ := hn
 exact ⟨⟨(n, c0, c1), e2, j2⟩, Nat.lt_succ_self n, w2⟩
abbrev Q3 {R : Type} {A0 A1 A2 : Type} (L : Nat -> A0 -> A1 -> A2 -> R) (S : A0 -> A1 -> A2 -> St) (I : Nat -> A0 -> A1 -> A2 -> Prop) (t : R) (b : Nat) : NxI := ⟨fun τ => ∃ a0 a1 a2, Me t (L b a0 a1 a2) /\ (1 <= b /\ I b a0 a1 a2) /\ Wk τ (S a0 a1 a2)⟩
theorem nx3 {R : Type} {A0 A1 A2 : Type} {L : Nat -> A0 -> A1 -> A2 -> R} {S : A0 -> A1 -> A2 -> St} {I : Nat -> A0 -> A1 -> A2 -> Prop} {t : R} {b : Nat} {a0 : A0} {a1 : A1} {a2 : A2} (e : Me t (L b a0 a1 a2)) (hI : 1 <= b /\ I b a0 a1 a2 := by ((try dsimp only); first | omega | (simp at *; omega))) (hw : Wk σ (S a0 a1 a2) := by exact Qv (by simp)) : @Nx σ (Q3 L S I t b) := ⟨a0, a1, a2, e, hI, hw⟩
theorem ny3 {R : Type} {A0 A1 A2 : Type} {L : Nat -> A0 -> A1 -> A2 -> R} {S : A0 -> A1 -> A2 -> St} {I : Nat -> A0 -> A1 -> A2 -> Prop} {t : R} {b : Nat} {a0 : A0} {a1 : A1} {a2 : A2} {q : Prop} (F : q) (e : Me t (L b a0 a1 a2)) (hI : 1 <= b /\ I b a0 a1 a2 := by ((try dsimp only); first | omega | (simp at *; omega))) (kw : q -> Wk σ (S a0 a1 a2) := by (intro F; exact Qv (by simp [F]))) : @Nx σ (Q3 L S I t b) := ⟨a0, a1, a2, e, hI, kw F⟩
theorem lp3 {c : KO} {R : Type} {A0 A1 A2 : Type} {L B : Nat -> A0 -> A1 -> A2 -> R} (hL : ∀ (a0 : A0) (a1 : A1) (a2 : A2) (n : Nat), L (Nat.succ n) a0 a1 a2 = B n a0 a1 a2) (S : A0 -> A1 -> A2 -> St) (I : Nat -> A0 -> A1 -> A2 -> Prop) (n0 : Nat) (b0 : A0) (b1 : A1) (b2 : A2) {p : Nat -> A0 -> A1 -> A2 -> Prop}
  (round : ∀ n (a0 : A0) (a1 : A1) (a2 : A2), Me (L n0 b0 b1 b2) (B n a0 a1 a2) -> 1 <= n + 1 /\ I (n + 1) a0 a1 a2 -> p n a0 a1 a2) (hI : 1 <= n0 /\ I n0 b0 b1 b2 := by first | omega | (dsimp only; omega) | simp) (h0 : Wk σ (S b0 b1 b2) := by exact Qv (by simp)) (kk : ∀ n (a0 : A0) (a1 : A1) (a2 : A2), Bx (p n a0 a1 a2) -> @WI P (S a0 a1 a2) c (.nxt (fun σ' => @Nx σ' (Q3 L S I (L n0 b0 b1 b2) n)) k) := by (intro n_ lK iz gP z; simp; (repeat (with_reducible refine Go.Mo.sd ?_)); exact z.h)) : @WT P σ c k := by
 refine qh (ι := { s : Nat × A0 × A1 × A2 // Me (L n0 b0 b1 b2) (L s.1 s.2.1 s.2.2.1 s.2.2.2) /\ (1 <= s.1 /\ I s.1 s.2.1 s.2.2.1 s.2.2.2) }) (fun s => S s.1.2.1 s.1.2.2.1 s.1.2.2.2) (fun s => s.1.1) ⟨(n0, b0, b1, b2), ⟨rfl⟩, hI⟩ h0 ?_
 rintro ⟨⟨n1, a0, a1, a2⟩, e, j⟩
 obtain ⟨n, rfl⟩ : ∃ q, n1 = q + 1 := ⟨n1 - 1, by have := j.1; (try dsimp only at this); omega⟩
 refine SL (fun σ' hn => ?_) (kk n a0 a1 a2 ⟨round n a0 a1 a2 ⟨by have := e.h; (try dsimp only at this); rw [this, hL]⟩ j⟩)
 obtain ⟨c0, c1, c2, e2, j2, w2⟩ := hn
 exact ⟨⟨(n, c0, c1, c2), e2, j2⟩, Nat.lt_succ_self n, w2⟩
abbrev Q5 {R : Type} {A0 A1 A2 A3 A4 : Type} (L : Nat -> A0 -> A1 -> A2 -> A3 -> A4 -> R) (S : A0 -> A1 -> A2 -> A3 -> A4 -> St) (I : Nat -> A0 -> A1 -> A2 -> A3 -> A4 -> Prop) (t : R) (b : Nat) : NxI := ⟨fun τ => ∃ a0 a1 a2 a3 a4, Me t (L b a0 a1 a2 a3 a4) /\ (1 <= b /\ I b a0 a1 a2 a3 a4) /\ Wk τ (S a0 a1 a2 a3 a4)⟩
theorem nx5 {R : Type} {A0 A1 A2 A3 A4 : Type} {L : Nat -> A0 -> A1 -> A2 -> A3 -> A4 -> R} {S : A0 -> A1 -> A2 -> A3 -> A4 -> St} {I : Nat -> A0 -> A1 -> A2 -> A3 -> A4 -> Prop} {t : R} {b : Nat} {a0 : A0} {a1 : A1} {a2 : A2} {a3 : A3} {a4 : A4} (e : Me t (L b a0 a1 a2 a3 a4)) (hI : 1 <= b /\ I b a0 a1 a2 a3 a4 := by ((try dsimp only); first | omega | (simp at *; omega))) (hw : Wk σ (S a0 a1 a2 a3 a4) := by exact Qv (by simp)) : @Nx σ (Q5 L S I t b) := ⟨a0, a1, a2, a3, a4, e, hI, hw⟩
theorem lp5 {c : KO} {R : Type} {A0 A1 A2 A3 A4 : Type} {L B : Nat -> A0 -> A1 -> A2 -> A3 -> A4 -> R} (hL : ∀ (a0 : A0) (a1 : A1) (a2 : A2) (a3 : A3) (a4 : A4) (n : Nat), L (Nat.succ n) a0 a1 a2 a3 a4 = B n a0 a1 a2 a3 a4) (S : A0 -> A1 -> A2 -> A3 -> A4 -> St) (I : Nat -> A0 -> A1 -> A2 -> A3 -> A4 -> Prop) (n0 : Nat) (b0 : A0) (b1 : A1) (b2 : A2) (b3 : A3) (b4 : A4) {p : Nat -> A0 -> A1 -> A2 -> A3 -> A4 -> Prop}
  (round : ∀ n (a0 : A0) (a1 : A1) (a2 : A2) (a3 : A3) (a4 : A4), Me (L n0 b0 b1 b2 b3 b4) (B n a0 a1 a2 a3 a4) -> 1 <= n + 1 /\ I (n + 1) a0 a1 a2 a3 a4 -> p n a0 a1 a2 a3 a4) (hI : 1 <= n0 /\ I n0 b0 b1 b2 b3 b4 := by first | omega | (dsimp only; omega) | simp) (h0 : Wk σ (S b0 b1 b2 b3 b4) := by exact Qv (by simp)) (kk : ∀ n (a0 : A0) (a1 : A1) (a2 : A2) (a3 : A3) (a4 : A4), Bx (p n a0 a1 a2 a3 a4) -> @WI P (S a0 a1 a2 a3 a4) c (.nxt (fun σ' => @Nx σ' (Q5 L S I (L n0 b0 b1 b2 b3 b4) n)) k) := by (intro n_ lK iz gP eC eD z; simp; (repeat (with_reducible refine Go.Mo.sd ?_)); exact z.h)) : @WT P σ c k := by
 refine qh (ι := { s : Nat × A0 × A1 × A2 × A3 × A4 // Me (L n0 b0 b1 b2 b3 b4) (L s.1 s.2.1 s.2.2.1 s.2.2.2.1 s.2.2.2.2.1 s.2.2.2.2.2) /\ (1 <= s.1 /\ I s.1 s.2.1 s.2.2.1 s.2.2.2.1 s.2.2.2.2.1 s.2.2.2.2.2) }) (fun s => S s.1.2.1 s.1.2.2.1 s.1.2.2.2.1 s.1.2.2.2.2.1 s.1.2.2.2.2.2) (fun s => s.1.1) ⟨(n0, b0, b1, b2, b3, b4), ⟨rfl⟩, hI⟩ h0 ?_
 rintro ⟨⟨n1, a0, a1, a2, a3, a4⟩, e, j⟩
 obtain ⟨n, rfl⟩ : ∃ q, n1 = q + 1 := ⟨n1 - 1, by have := j.1; (try dsimp only at this); omega⟩
 refine SL (fun σ' hn => ?_) (kk n a0 a1 a2 a3 a4 ⟨round n a0 a1 a2 a3 a4 ⟨by have := e.h; (try dsimp only at this); rw [this, hL]⟩ j⟩)
 obtain ⟨c0, c1, c2, c3, c4, e2, j2, w2⟩ := hn
 exact ⟨⟨(n, c0, c1, c2, c3, c4), e2, j2⟩, Nat.lt_succ_self n, w2⟩
abbrev Q13 {R : Type} {A0 A1 A2 A3 A4 A5 A6 A7 A8 A9 tz sA sB : Type} (L : Nat -> A0 -> A1 -> A2 -> A3 -> A4 -> A5 -> A6 -> A7 -> A8 -> A9 -> tz -> sA -> sB -> R) (S : A0 -> A1 -> A2 -> A3 -> A4 -> A5 -> A6 -> A7 -> A8 -> A9 -> tz -> sA -> sB -> St) (I : Nat -> A0 -> A1 -> A2 -> A3 -> A4 -> A5 -> A6 -> A7 -> A8 -> A9 -> tz -> sA -> sB -> Prop) (t : R) (b : Nat) : NxI := ⟨fun τ => ∃ a0 a1 a2 a3 a4 a5 a6 a7 a8 a9 tS tT tU, Me t (L b a0 a1 a2 a3 a4 a5 a6 a7 a8 a9 tS tT tU) /\ (1 <= b /\ I b a0 a1 a2 a3 a4 a5 a6 a7 a8 a9 tS tT tU) /\ Wk τ (S a0 a1 a2 a3 a4 a5 a6 a7 a8 a9 tS tT tU)⟩
theorem E6 {R : Type} {A0 A1 A2 A3 A4 A5 A6 A7 A8 A9 tz sA sB : Type} {L : Nat -> A0 -> A1 -> A2 -> A3 -> A4 -> A5 -> A6 -> A7 -> A8 -> A9 -> tz -> sA -> sB -> R} {S : A0 -> A1 -> A2 -> A3 -> A4 -> A5 -> A6 -> A7 -> A8 -> A9 -> tz -> sA -> sB -> St} {I : Nat -> A0 -> A1 -> A2 -> A3 -> A4 -> A5 -> A6 -> A7 -> A8 -> A9 -> tz -> sA -> sB -> Prop} {t : R} {b : Nat} {a0 : A0} {a1 : A1} {a2 : A2} {a3 : A3} {a4 : A4} {a5 : A5} {a6 : A6} {a7 : A7} {a8 : A8} {a9 : A9} {tS : tz} {tT : sA} {tU : sB} (e : Me t (L b a0 a1 a2 a3 a4 a5 a6 a7 a8 a9 tS tT tU)) (hI : 1 <= b /\ I b a0 a1 a2 a3 a4 a5 a6 a7 a8 a9 tS tT tU := by ((try dsimp only); first | omega | (simp at *; omega))) (hw : Wk σ (S a0 a1 a2 a3 a4 a5 a6 a7 a8 a9 tS tT tU) := by exact Qv (by simp)) : @Nx σ (Q13 L S I t b) := ⟨a0, a1, a2, a3, a4, a5, a6, a7, a8, a9, tS, tT, tU, e, hI, hw⟩
theorem DE {c : KO} {R : Type} {A0 A1 A2 A3 A4 A5 A6 A7 A8 A9 tz sA sB : Type} {L B : Nat -> A0 -> A1 -> A2 -> A3 -> A4 -> A5 -> A6 -> A7 -> A8 -> A9 -> tz -> sA -> sB -> R} (hL : ∀ (a0 : A0) (a1 : A1) (a2 : A2) (a3 : A3) (a4 : A4) (a5 : A5) (a6 : A6) (a7 : A7) (a8 : A8) (a9 : A9) (tS : tz) (tT : sA) (tU : sB) (n : Nat), L (Nat.succ n) a0 a1 a2 a3 a4 a5 a6 a7 a8 a9 tS tT tU = B n a0 a1 a2 a3 a4 a5 a6 a7 a8 a9 tS tT tU) (S : A0 -> A1 -> A2 -> A3 -> A4 -> A5 -> A6 -> A7 -> A8 -> A9 -> tz -> sA -> sB -> St) (I : Nat -> A0 -> A1 -> A2 -> A3 -> A4 -> A5 -> A6 -> A7 -> A8 -> A9 -> tz -> sA -> sB -> Prop) (n0 : Nat) (b0 : A0) (b1 : A1) (b2 : A2) (b3 : A3) (b4 : A4) (b5 : A5) (b6 : A6) (b7 : A7) (b8 : A8) (b9 : A9) (nU : tz) (nV : sA) (nW : sB) {p : Nat -> A0 -> A1 -> A2 -> A3 -> A4 -> A5 -> A6 -> A7 -> A8 -> A9 -> tz -> sA -> sB -> Prop}
  (round : ∀ n (a0 : A0) (a1 : A1) (a2 : A2) (a3 : A3) (a4 : A4) (a5 : A5) (a6 : A6) (a7 : A7) (a8 : A8) (a9 : A9) (tS : tz) (tT : sA) (tU : sB), Me (L n0 b0 b1 b2 b3 b4 b5 b6 b7 b8 b9 nU nV nW) (B n a0 a1 a2 a3 a4 a5 a6 a7 a8 a9 tS tT tU) -> 1 <= n + 1 /\ I (n + 1) a0 a1 a2 a3 a4 a5 a6 a7 a8 a9 tS tT tU -> p n a0 a1 a2 a3 a4 a5 a6 a7 a8 a9 tS tT tU) (hI : 1 <= n0 /\ I n0 b0 b1 b2 b3 b4 b5 b6 b7 b8 b9 nU nV nW := by first | omega | (dsimp only; omega) | simp) (h0 : Wk σ (S b0 b1 b2 b3 b4 b5 b6 b7 b8 b9 nU nV nW) := by exact Qv (by simp)) (kk : ∀ n (a0 : A0) (a1 : A1) (a2 : A2) (a3 : A3) (a4 : A4) (a5 : A5) (a6 : A6) (a7 : A7) (a8 : A8) (a9 : A9) (tS : tz) (tT : sA) (tU : sB), Bx (p n a0 a1 a2 a3 a4 a5 a6 a7 a8 a9 tS tT tU) -> @WI P (S a0 a1 a2 a3 a4 a5 a6 a7 a8 a9 tS tT tU) c (.nxt (fun σ' => @Nx σ' (Q13 L S I (L n0 b0 b1 b2 b3 b4 b5 b6 b7 b8 b9 nU nV nW) n)) k) := by (intro n_ lK iz gP eC eD ev ew ez e6 e7 eE eF eH z; simp; (repeat (with_reducible refine Go.Mo.sd ?_)); exact z.h)) : @WT P σ c k := by
 refine qh (ι := { s : Nat × A0 × A1 × A2 × A3 × A4 × A5 × A6 × A7 × A8 × A9 × tz × sA × sB // Me (L n0 b0 b1 b2 b3 b4 b5 b6 b7 b8 b9 nU nV nW) (L s.1 s.2.1 s.2.2.1 s.2.2.2.1 s.2.2.2.2.1 s.2.2.2.2.2.1 s.2.2.2.2.2.2.1 s.2.2.2.2.2.2.2.1 s.2.2.2.2.2.2.2.2.1 s.2.2.2.2.2.2.2.2.2.1 s.2.2.2.2.2.2.2.2.2.2.1 s.2.2.2.2.2.2.2.2.2.2.2.1 s.2.2.2.2.2.2.2.2.2.2.2.2.1 s.2.2.2.2.2.2.2.2.2.2.2.2.2) /\ (1 <= s.1 /\ I s.1 s.2.1 s.2.2.1 s.2.2.2.1 s.2.2.2.2.1 s.2.2.2.2.2.1 s.2.2.2.2.2.2.1 s.2.2.2.2.2.2.2.1 s.2.2.2.2.2.2.2.2.1 s.2.2.2.2.2.2.2.2.2.1 s.2.2.2.2.2.2.2.2.2.2.1 s.2.2.2.2.2.2.2.2.2.2.2.1 s.2.2.2.2.2.2.2.2.2.2.2.2.1 s.2.2.2.2.2.2.2.2.2.2.2.2.2) }) (fun s => S s.1.2.1 s.1.2.2.1 s.1.2.2.2.1 s.1.2.2.2.2.1 s.1.2.2.2.2.2.1 s.1.2.2.2.2.2.2.1 s.1.2.2.2.2.2.2.2.1 s.1.2.2.2.2.2.2.2.2.1 s.1.2.2.2.2.2.2.2.2.2.1 s.1.2.2.2.2.2.2.2.2.2.2.1 s.1.2.2.2.2.2.2.2.2.2.2.2.1 s.1.2.2.2.2.2.2.2.2.2.2.2.2.1 s.1.2.2.2.2.2.2.2.2.2.2.2.2.2) (fun s => s.1.1) ⟨(n0, b0, b1, b2, b3, b4, b5, b6, b7, b8, b9, nU, nV, nW), ⟨rfl⟩, hI⟩ h0 ?_
 rintro ⟨⟨n1, a0, a1, a2, a3, a4, a5, a6, a7, a8, a9, tS, tT, tU⟩, e, j⟩
 obtain ⟨n, rfl⟩ : ∃ q, n1 = q + 1 := ⟨n1 - 1, by have := j.1; (try dsimp only at this); omega⟩
 refine SL (fun σ' hn => ?_) (kk n a0 a1 a2 a3 a4 a5 a6 a7 a8 a9 tS tT tU ⟨round n a0 a1 a2 a3 a4 a5 a6 a7 a8 a9 tS tT tU ⟨by have := e.h; (try dsimp only at this); rw [this, hL]⟩ j⟩)
 obtain ⟨c0, c1, c2, c3, c4, c5, c6, c7, c8, c9, eK, eM, eN, e2, j2, w2⟩ := hn
 exact ⟨⟨(n, c0, c1, c2, c3, c4, c5, c6, c7, c8, c9, eK, eM, eN), e2, j2⟩, Nat.lt_succ_self n, w2⟩
end
section
variable {P : Program} {σ : St} {k : Fr}
theorem Wu {A : Qo} {o : OpI} {l : JP} {d : Nat} {T : TypeId} {n : Nat} {parts : Array (Nat × Operand)} (h : @EI P (σ.new d (.one (.sref d 0 0 (Qx P σ (ZH P T) (P.cellsOf (ZH P T)) parts.toList 0).2.length)) [.lit (P.cellsOf (ZH P T)) (Qx P σ (ZH P T) (P.cellsOf (ZH P T)) parts.toList 0).2]) A l k) (wA : o.o.op = .buildSlice T n parts := by exact rfl) (hg : o.o.guard = none := by exact rfl) (hd : o.o.dst = some d := by exact rfl)
  (h1 : σ.fresh d = true /\ YS P T = true /\ XD P (ZH P T) = true /\ 0 < P.cellsOf (ZH P T) /\ parts.toList.length = n /\ n * P.cellsOf (ZH P T) <= 16777216 := by simp) (h2 : (Qx P σ (ZH P T) (P.cellsOf (ZH P T)) parts.toList 0).1 := by simp)
  (h3 : Zs d (Qx P σ (ZH P T) (P.cellsOf (ZH P T)) parts.toList 0).2.flatten = false := by simp)
  : @SI P σ A o l k := E1 wA hg hd h1 h2 h3 h
theorem UO {A : Qo} {o : OpI} {l : JP} {d : Nat} {x y : Operand} {t : TypeId} {wC news : List (List D)} {l1 l2 : List (Nat × Nat)} {size : Nat} (h : @EI P ((σ.ZX (l1 ++ l2)).new d (.one (.sref d 0 0 (wC.length + news.length))) [.arr true size (wC ++ news)]) A l k) (wA : o.o.op = .call ⟨.builtin .append, #[x, y], #[t, t]⟩ := by exact rfl) (hg : o.o.guard = none := by exact rfl) (hd : o.o.dst = some d := by exact rfl) (wj : A.bar o.o = true := by exact rfl)
  (vK : size = P.cellsOf (ZH P t) := by simp) (h1 : gOf (look P σ t x) = true /\ gOf (look P σ t y) = true /\ YS P t = true /\ XD P (ZH P t) = true /\ 0 < P.cellsOf (ZH P t) := by simp)
  (h2 : (xM σ (unc (look P σ t x)) size).1 /\ (xM σ (unc (look P σ t x)) size).2 = (wC, l1) := by simp) (h3 : (xC σ (unc (look P σ t y)) size).1 /\ (xC σ (unc (look P σ t y)) size).2 = (news, l2) := by simp)
  (h4 : (l1 ++ l2).Nodup /\ (σ.ZX (l1 ++ l2)).fresh d = true := by simp) (h5 : (wC.length + news.length) * P.bytesOf (ZH P t) <= 140737488355328 /\ wC.length + news.length <= 9223372036854775807 := by (simp <;> omega))
  : @SI P σ A o l k := E3 wA hg hd wj vK h1 h2 h3 h4 h5 h
theorem L2 {A : Qo} {o : OpI} {l : JP} {T : TypeId} {x y : Operand} {t j i size : Nat} {rows : List (List D)} {ds : List D} {L : List (Nat × Nat)} (h : @EI P ((σ.ZX L).ZT t j (.arr true size (rows.set i ds))) A l k) (wA : o.o.op = .store T x y := by exact rfl) (hg : o.o.guard = none := by exact rfl) (hd : o.o.dst = none := by exact rfl) (wj : A.bar o.o = true := by exact rfl)
  (hx : unc (look P σ 0 x) = .one (.ptr t j i 0) := by simp) (ho : σ.ob t j = .arr true size rows := by simp) (hi : i < rows.length := by (simp; try omega)) (h1 : Kg P T = true /\ gOf (look P σ 0 x) = true /\ gOf (look P σ T y) = true /\ (unc (look P σ T y)).flat = true := by simp)
  (h2 : X7 σ (unc (look P σ T y)).cells = some ds := by simp) (h3 : XF σ (unc (look P σ T y)).cells := by simp) (h4 : Z7 (unc (look P σ T y)).cells = L := by simp) (h5 : L.Nodup /\ (t, j) ∉ L /\ (σ.ZX L).Jh (At.isT t) = false := by simp) (h6 : ds.length = P.cellsOf T /\ P.cellsOf T = size := by simp)
  : @SI P σ A o l k := E7 wA hg hd wj hx ho hi h1 h2 h3 h4 h5 h6 h
end
theorem wkS {σ σ' : St} (ρ : Ren) (F : List (Nat × Nat)) (wa : xL σ' ρ ρ = true := by exact rfl) (h : kK σ ρ F σ σ' 0 := by simp) : Wk σ σ' := QB ρ F wa h
theorem drJ {P : Program} {id : Nat} {σ : St} {l : List Oper} {br : Oper -> Bool} {k : Fr} (bs : List Nat) (hm : P.follows .mixedOrders = true) (h : @EI P σ ⟨⟨l⟩, VW bs⟩ ⟨l⟩ k) (hdr : Vm.TH P ⟨l⟩ (fun i => i) (VW bs) = true := by kernel_rfl) (wg : KT ⟨l⟩ (fun i => i) σ = true := by kernel_rfl) : @DI P id σ ⟨⟨l⟩, br⟩ k := EN bs hm hdr wg h
theorem rpS {g p : Prop} (h : p) (kk : Bx p -> g := by (intro z; (repeat (with_reducible refine Go.Mo.sd ?_)); exact z.h)) : g := kk ⟨h⟩
theorem rpG {g p : Prop} (h : p) (kk : Bx p -> g := by (intro z; (repeat (with_reducible refine Go.Mo.sdg ?_)); exact z.h)) : g := kk ⟨h⟩
theorem xs {p q : Prop} (u : q) (h : q -> p := by (intro u; simp (maxDischargeDepth := 12) [u])) : p := h u
@[simp] abbrev rI (x : Int) : List D := [.int .i64 x]
@[simp] abbrev rB (b : Bool) : List D := [.bool b]
@[simp] abbrev rS (s : ByteArray) : List D := [.str s]
@[simp] abbrev rL {α : Type} (n : Nat) (f : α -> List D) (l : List α) : List D := [.sl n (l.map f)]
theorem Mv {α : Type} [Inhabited α] {f : α -> List D} {l : List α} {n i : Nat} (h : i < (l.take n).length) : rowAt ((l.map f).take n) i = f (nth (l.take n) i) := by rw [<- List.map_take]; exact ZI h
theorem Gd {α : Type} {l : List α} {n i : Nat} (h : i < (l.take n).length) : i < min n l.length := by rwa [List.length_take] at h
def xK (l : List Bool) : List At := l.map (fun b => .d (.bool b))
def zB (n : Nat) : List Bool := List.replicate n false
@[simp] theorem EL (n : Nat) : (zB n).length = n := List.length_replicate ..
@[simp] theorem M9 (σ : St) (ρ : Ren) (F : List (Nat × Nat)) : ∀ l : List Bool, jr σ ρ F (xK l) (xK l) = True
 | [] => by simp [xK, jr]
 | b :: l => by
  have h := M9 σ ρ F l
  simp only [xK, List.map_cons, jr, PC] at h ⊢
  simp [h]
@[simp] theorem Ng (t : Nat) : ∀ l : List Bool, Zs t (xK l) = false
 | [] => by simp [xK, Zs]
 | b :: l => by
  have h := Ng t l
  simp only [xK, List.map_cons] at h ⊢
  simp [Zs, At.ref] at h ⊢
  exact h
theorem qD (l : List Bool) : (xK l).length = l.length := by simp [xK]
theorem Hm {l : List Bool} {n : Nat} (h : l.length = n) : (xK l).take n = xK l := List.take_of_length_le (by rw [qD]; omega)
theorem MO {l : List Bool} {i : Nat} {b : Bool} (h : i < l.length) : (xK l).take i ++ At.d (.bool b) :: (xK l).drop (i + 1) = xK (l.set i b) := by
 unfold xK
 rw [List.map_set, List.set_eq_take_append_cons_drop, if_pos (by rw [List.length_map]; exact h)]
theorem IN {l : List Bool} {i : Nat} {b : Bool} (h : i < l.length) : place (xK l) i [At.d (.bool b)] = xK (l.set i b) := by
 rw [<- MO h]; simp [place]
theorem I9 {l : List Bool} {i : Nat} (h : i < l.length) : ((xK l).drop i).take 1 = [At.d (.bool (nth l i))] := by
 unfold xK
 rw [<- List.map_drop, List.drop_eq_getElem_cons h, List.map_cons, List.take_succ_cons, List.take_zero]
 simp [nth, h]
end Go.Vm
