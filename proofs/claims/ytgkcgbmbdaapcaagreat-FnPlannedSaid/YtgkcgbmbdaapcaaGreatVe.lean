/- An abstract machine U3 the model of Go, by value, and that it is sound: part Ve. No condition. -/
import Derived.Test.YtgkcgbmbdaapcaaGreatVd
set_option linter.unusedVariables false
set_option linter.unusedSimpArgs false
namespace Go.Vm
open Go.RowKit
section
variable {P : Program} {σ : St} {k : Fr}
end
end Go.Vm
namespace Go.Vm
open Go.RowKit
def Ir (σ : St) : V -> Option Nat
 | .one (.d (.sl _ rows)) => some rows.length
 | .one (.sref t j _ len) => (match σ.ob t j with | .arr _ _ _ => some len | _ => none)
 | .fix _ (.one (.sref t j _ len)) => (match σ.ob t j with | .arr _ _ _ => some len | _ => none)
 | _ => none
def jA (σ : St) : Prop := ∀ t n, Ir σ (σ.get t) = some n -> n <= 9223372036854775807
theorem GC {T : CS} {h : Nat -> Nat -> Hd} {σ : St} {w : World} : ∀ {v : V} {val : Value} {n : Nat}, Ir σ v = some n -> XC T h σ.ob w v val -> n <= maxLen
 | .one (.d (.sl s rows)), val, n, hn, hv => by
  simp only [Ir] at hn
  cases hn
  obtain ⟨base, cap, _, h1, h2⟩ := Mv (r := (show Rd T w val (.sl s rows) from hv))
  omega
 | .one (.sref u j lo len), val, n, hn, hv => by
  simp only [Ir] at hn
  split at hn
  ·rename_i q s rows ho
   cases hn
   have hh := (show Zr T h σ.ob w (.sref u j lo len) val from hv).2.1 _ _ _ ho
   obtain ⟨_, _, _, base, cap, _, h1, h2, _⟩ := hh
   omega
  ·cases hn
 | .fix u0 (.one (.sref u j lo len)), val, n, hn, hv => by
  simp only [Ir] at hn
  split at hn
  ·rename_i q s rows ho
   cases hn
   have hh := (show Zr T h σ.ob w (.sref u j lo len) val from hv.2).2.1 _ _ _ ho
   obtain ⟨_, _, _, base, cap, _, h1, h2, _⟩ := hh
   omega
  ·cases hn
theorem Nr {T0 : CS} {B : Nat -> Prop} {σ : St} {a : Act} {w : World} (r : X7 T0 B σ a w) : jA σ := by
 obtain ⟨X, h, r⟩ := r
 intro t n hn
 exact GC hn (r.get t)
theorem OX {P : Program} {c : Code} {Q : Exit -> St -> Prop} {σ : St} (h : jA σ -> AWP P c Q σ) : AWP P c Q σ := fun T0 B a w r => h (Nr r) T0 B a w r
section
variable {P : Program} {σ : St} {k : Fr}
theorem FR {b : Bool} {x y : KP} (ht : jA σ -> b = true -> @WI P σ x k) (hf : jA σ -> b = false -> @WI P σ y k) : @CI P b σ x y k :=
 ⟨fun h => OX fun hk => qh (ht hk h), fun h => OX fun hk => qh (hf hk h)⟩
theorem Ph {b c : Bool} {x y : KP} (hc : c = b) (ht : jA σ -> c = true -> @WI P σ x k) (hf : jA σ -> c = false -> @WI P σ y k) : @CI P b σ x y k := by
 subst hc; exact FR ht hf
theorem okL {c : KP} (h : jA σ -> @kM P σ c k) : @kM P σ c k := OX h
theorem okD {id : Nat} {A : QV} (h : jA σ -> @DI P id σ A k) : @DI P id σ A k := OX h
def Su : Op -> Bool
 | .call _ => true
 | _ => false
theorem NG {A : QV} {o : OpI} {l : JE} {j dj d : Nat} {want g : Bool} (wA : Su o.o.op = false) (hg : o.o.guard = some (j, want)) (hd : o.o.dst = some d)
  (vY : (A.ops[j]?).bind (·.dst) = some dj) (vf : Ks want (σ.get dj) = some g) (wN : dj < σ.length)
  (ht : g = true -> ((evV P σ o.o.op o.o.type).1 /\ gOf (evV P σ o.o.op o.o.type).2 = true /\ (unc (evV P σ o.o.op o.o.type).2).flat = true) /\ @EI P (σ.put d (.cnd true (unc (evV P σ o.o.op o.o.type).2))) A l k)
  (hf : g = false -> @EI P (σ.put d (.cnd false .any)) A l k) : @SI P σ A o l k := by
 have step : ∀ v, (g = true -> (evV P σ o.o.op o.o.type).1 /\ gOf (evV P σ o.o.op o.o.type).2 = true /\ v = unc (evV P σ o.o.op o.o.type).2 /\ v.flat = true) -> YF P A.ops o.o σ (σ.put d (.cnd g v)) := by
  intro v hv
  unfold YF
  simp only [hg]
  refine ⟨dj, d, g, v, vY, wN, hd, vf, fun rV => ?_, rfl⟩
  obtain ⟨h1, h2, h3, h4⟩ := hv rV
  have base : ∃ v0, Zt P σ o.o.op o.o.type v0 /\ gOf v0 = true /\ v = unc v0 /\ v.flat = true := ⟨_, LK h1, h2, h3, h4⟩
  unfold TP
  split
  ·rename_i c hc; rw [hc] at wA; cases wA
  ·exact base
 cases g with
 | true =>
  obtain ⟨⟨h1, h2, h3⟩, h4⟩ := ht rfl
  exact ⟨_, .inl (step _ fun _ => ⟨h1, h2, rfl, h3⟩), X4 h4⟩
 | false => exact ⟨_, .inl (step .any (fun h => by cases h)), X4 (hf rfl)⟩
end
theorem GV {P : Program} {σ : St} {k : Fr} {A : QV} {o : OpI} {l : JE} {j dj d : Nat} {want g : Bool} (hg : o.o.guard = some (j, want)) (hd : o.o.dst = some d)
  (vY : (A.ops[j]?).bind (·.dst) = some dj) (vf : Ks want (σ.get dj) = some g) (wN : dj < σ.length) (ox : g = false)
  (h : @EI P (σ.put d (.cnd false .any)) A l k) : @SI P σ A o l k := by
 subst ox
 refine ⟨_, .inl ?_, X4 h⟩
 unfold YF
 simp only [hg]
 exact ⟨dj, d, false, .any, vY, wN, hd, vf, (fun h => by cases h), rfl⟩
def WE (P : Program) : List TypeId -> List At -> List At -> Option Bool
 | [], _, _ => some true
 | f :: fs, x :: xs, y :: ys => (match HV P f x y, WE P fs xs ys with | some p, some q => some (p && q) | _, _ => none)
 | _, _, _ => none
theorem TR (P : Program) : ∀ (fs : List Field) (xs ys : List At), zC P fs xs ys = WE P (fs.map (·.type)) xs ys
 | [], _, _ => by simp [zC, WE]
 | f :: fs, [], _ => by simp [zC, WE]
 | f :: fs, x :: xs, [] => by simp [zC, WE]
 | f :: fs, x :: xs, y :: ys => by simp only [zC, List.map_cons, WE, TR P fs xs ys]; rfl
def zA (P : Program) (T : TypeId) : List TypeId := (P.fieldsOf T).toList.map (·.type)
@[simp] theorem Hu (P : Program) (T : TypeId) (xs ys : List At) : zC P (P.fieldsOf T).toList xs ys = WE P (zA P T) xs ys := TR P _ _ _
attribute [simp] WE
def nth {α : Type} [Inhabited α] (l : List α) (i : Nat) : α := l.getD i default
theorem ZC {α : Type} [Inhabited α] {f : α -> List D} {l : List α} {i : Nat} (h : i < l.length) : rowAt (l.map f) i = f (nth l i) := by
 simp [rowAt, nth, h]
theorem JB {α : Type} {f : α -> List D} {l : List α} {i : Nat} {x : α} {r : List D} (h : r = f x) : (l.map f).set i r = (l.set i x).map f := by
 rw [h, List.map_set]
abbrev W (x : Int) : Int := IntKind.i64.wrap x
theorem Yi {x : Int} (h1 : -9223372036854775808 <= x) (h2 : x <= 9223372036854775807) : IntKind.i64.wrap x = x := by
 have hr : IntKind.i64.min <= x /\ x <= IntKind.i64.max := by
  constructor
  ·show -9223372036854775808 <= x; exact h1
  ·show x <= 9223372036854775807; exact h2
 simp only [IntKind.wrap]
 first
  | (simp [IntKind.bits, IntKind.signed]; omega)
  | omega
theorem JA (i : Nat) : ((i : Int) - 1).toNat = i - 1 := by omega
attribute [simp] St.fresh Qn V.ref V.UO Z7 qv
end Go.Vm
namespace Go.Vm
open Go.RowKit
attribute [simp] St.Gx Oj LJ At.F1 FD
section
variable {P : Program} {σ : St} {k : Fr}
end
end Go.Vm
namespace Go.Vm
open Go.RowKit
def At.isP (t : Nat) : At -> Bool
 | .tref u _ _ _ _ => u == t
 | .ptr u _ _ _ => u == t
 | _ => false
section
variable {P : Program} {T0 : CS} {B : Nat -> Prop} {σ : St} {a : Act} {w w' : World} {X X' : Nat -> Prop} {h : Nat -> Nat -> Hd}
theorem Rel.HS (r : Rel T0 B σ a w X h) {t : Nat} {size : Nat} {rows : List (List At)} {news : List (List D)} {L : List (Nat × Nat)} (ho : σ.ob t 0 = .lit size rows) (v7 : Xp σ rows = some news) (wb : Xh σ rows)
  (hL : YX rows.flatten = L) (w8 : L.Nodup) (oy : (t, 0) ∉ L) (hp : (σ.Zn L).JX (At.isP t) = false) : X7 T0 B ((σ.Zn L).Ze t 0 (.arr true size news)) a w := by
 have wZ : σ.ob t 0 ≠ .none := by rw [ho]; simp
 have h0 := r.obj t 0
 rw [ho] at h0
 obtain ⟨e, xs, u5, hz, wC⟩ := h0
 obtain ⟨iv, lr, iw⟩ := JZ v7
 have wI := Sc r wC iv (JK wb) (by rw [hL]; exact w8)
 rw [hL] at wI
 have r1 := r.Zn L
 have wq := r.xT L
 have tI : ∀ b', (h t 0).u b' -> Jo σ h L b' -> False := by
  rintro b' vm ⟨p, pg, wD, mc⟩
  obtain ⟨q1, q2⟩ := r.inj t 0 p.1 p.2 b' wZ wD vm mc
  exact oy (by rw [q1, q2]; exact pg)
 have sw : (σ.Zn L).ob t 0 = .lit size rows := by rw [St.Qx, if_neg oy, ho]
 have rf : (σ.Zn L).ob t 0 ≠ .none := by rw [sw]; simp
 have vE : ∀ u i, ¬ (u = t /\ i = 0) -> ((σ.Zn L).Ze t 0 (.arr true size news)).ob u i = (σ.Zn L).ob u i := by
  intro u i wD
  rw [St.XF _ t 0 _ u i rf, if_neg wD]
 have vA : ((σ.Zn L).Ze t 0 (.arr true size news)).ob t 0 = .arr true size news := by rw [St.XF _ t 0 _ t 0 rf]; simp
 generalize hσ : (σ.Zn L).Ze t 0 (.arr true size news) = σ2 at *
 generalize hσ1 : σ.Zn L = σ1 at *
 have hlen : σ2.length = σ1.length := by rw [<- hσ, St.YZ]
 have vC : ∀ u, σ2.get u = σ1.get u := fun u => by rw [<- hσ, St.XK]
 let wO : Hd := ⟨(h t 0).v, fun k => (xs[k]?).getD undef, fun b => (h t 0).u b \/ Jo σ h L b⟩
 let h' : Nat -> Nat -> Hd := fun u i => if u = t /\ i = 0 then wO else h u i
 have u9 : ∀ u i, ¬ (u = t /\ i = 0) -> h' u i = h u i := fun u i wD => if_neg wD
 have o7 : h' t 0 = wO := by simp [h']
 have hv : ∀ u i, (h' u i).v = (h u i).v := by
  intro u i
  by_cases hc : u = t /\ i = 0
  ·obtain ⟨rfl, rfl⟩ := hc; rw [o7]
  ·rw [u9 u i hc]
 have at_ : ∀ {x : At} {v : Value}, At.isP t x = false -> Zr (Tof T0 X) h σ1.ob w x v -> Zr (Tof T0 X) h' σ2.ob w x v := by
  intro x v o5 rx
  cases x with
  | any => exact rx
  | d x => exact rx
  | nil s => exact rx
  | sref u i lo len =>
   refine ⟨rx.1, fun q s rws hq => ?_, fun s rws hq => ?_⟩
   ·by_cases hc : u = t /\ i = 0
    ·obtain ⟨rfl, rfl⟩ := hc
     rw [vA] at hq; cases hq
     rw [hv, <- lr]; exact rx.2.2 _ _ sw
    ·rw [vE u i hc] at hq; rw [hv]; exact rx.2.1 _ _ _ hq
   ·by_cases hc : u = t /\ i = 0
    ·obtain ⟨rfl, rfl⟩ := hc
     rw [vA] at hq; cases hq
    ·rw [vE u i hc] at hq; rw [hv]; exact rx.2.2 _ _ hq
  | ptr u i k c =>
   refine ⟨rx.1, fun q s rws hq => ?_⟩
   have hc : ¬ (u = t /\ i = 0) := fun hc => by simp [At.isP, hc.1] at o5
   rw [vE u i hc] at hq; rw [hv]; exact rx.2 _ _ _ hq
  | bptr u c =>
   refine ⟨rx.1, fun cells hq => ?_⟩
   by_cases hc : u = t
   ·subst hc; rw [vA] at hq; cases hq
   ·rw [vE u 0 (fun hh => hc hh.1)] at hq; rw [hv]; exact rx.2 _ hq
  | fn f u =>
   refine ⟨rx.1, fun cells hq => ?_⟩
   by_cases hc : u = t
   ·subst hc; rw [vA] at hq; cases hq
   ·rw [vE u 0 (fun hh => hc hh.1)] at hq; rw [hv]; exact rx.2 _ hq
  | tref u i k c o =>
   refine ⟨rx.1, fun s rws hq => ?_⟩
   have hc : ¬ (u = t /\ i = 0) := fun hc => by simp [At.isP, hc.1] at o5
   rw [vE u i hc] at hq; rw [u9 u i hc]; exact rx.2 _ _ hq
  | rptr rr c => exact rx
 have vF : ∀ u i, σ2.ob u i ≠ .none -> σ1.ob u i ≠ .none := by
  intro u i hn
  by_cases hc : u = t /\ i = 0
  ·obtain ⟨rfl, rfl⟩ := hc; exact rf
  ·rw [vE u i hc] at hn; exact hn
 refine ⟨X, h', by rw [r1.size, hlen], r1.defers, r1.hB, r1.hX, r1.hT, fun u hu => ?_, fun u i => ?_, fun u i b hn hb => ?_, fun u i b hn hb => ?_, fun u i u' i' b hn wu hb wS => ?_⟩
 ·rw [hlen] at hu
  rw [vC]; exact XC.map at_ (St.RK hp u) (r1.slot u hu)
 ·by_cases hc : u = t /\ i = 0
  ·obtain ⟨rfl, rfl⟩ := hc
   rw [vA, o7]
   refine ⟨e, xs, by rw [<- lr]; exact u5, iw size hz, wI.mono (fun b hb => ⟨.inr hb, fun ue => tI b (r.ub u 0 b wZ ue) hb⟩), fun k x d hx _ _ => by simp [wO, hx]⟩
  ·rw [vE u i hc, u9 u i hc]
   exact Xu.map at_ (fun b k v hb hc => ⟨hc, hb⟩) (fun ho b => r1.ub u i b ho) (fun _ _ _ => rfl) (St.Ox hp u i) (r1.obj u i)
 ·by_cases hc : u = t /\ i = 0
  ·obtain ⟨rfl, rfl⟩ := hc
   rw [o7] at hb ⊢; exact .inl (r.ub u 0 b wZ hb)
  ·rw [u9 u i hc] at hb ⊢; exact r1.ub u i b (vF u i hn) hb
 ·by_cases hc : u = t /\ i = 0
  ·obtain ⟨rfl, rfl⟩ := hc
   rw [o7] at hb
   rcases hb with hb | hb
   ·exact r.own u 0 b wZ hb
   ·have := wq b hb; exact ⟨this.1, this.2.1, this.2.2.1⟩
  ·rw [u9 u i hc] at hb; exact r1.own u i b (vF u i hn) hb
 ·have key : ∀ u i b, ¬ (u = t /\ i = 0) -> σ1.ob u i ≠ .none -> (h u i).u b -> (h' t 0).u b -> False := by
   intro u i b hc hn hb wS
   rw [o7] at wS
   rcases wS with wS | wS
   ·exact hc (r1.inj u i t 0 b hn rf hb wS)
   ·exact (wq b wS).2.2.2 u i hn hb
  by_cases hc : u = t /\ i = 0
  ·by_cases wm : u' = t /\ i' = 0
   ·exact ⟨hc.1.trans wm.1.symm, hc.2.trans wm.2.symm⟩
   ·obtain ⟨rfl, rfl⟩ := hc
    rw [u9 u' i' wm] at wS
    exact (key u' i' b wm (vF u' i' wu) wS hb).elim
  ·rw [u9 u i hc] at hb
   by_cases wm : u' = t /\ i' = 0
   ·obtain ⟨rfl, rfl⟩ := wm
    exact (key u i b hc (vF u i hn) hb wS).elim
   ·rw [u9 u' i' wm] at wS
    exact r1.inj u i u' i' b (vF u i hn) (vF u' i' wu) hb wS
end
section
variable {P : Program} {σ : St} {k : Fr}
theorem GY {A : QV} {o : OpI} {l : JE} {d : Nat} {T : TypeId} {n : Nat} {parts : Array (Nat × Operand)} {news : List (List D)} {L : List (Nat × Nat)} (wA : o.o.op = .buildSlice T n parts) (hg : o.o.guard = none) (hd : o.o.dst = some d) (w6 : A.bar o.o = true)
  (h1 : (σ.fresh d = true /\ d < σ.length) /\ YJ P T = true /\ Yz P (ZE P T) = true /\ 0 < P.cellsOf (ZE P T) /\ parts.toList.length = n /\ n * P.cellsOf (ZE P T) <= 16777216) (h2 : (QA P σ (ZE P T) (P.cellsOf (ZE P T)) parts.toList 0).1)
  (h3 : Zp d (QA P σ (ZE P T) (P.cellsOf (ZE P T)) parts.toList 0).2.flatten = false)
  (h4 : Xp (σ.new d (.one (.sref d 0 0 (QA P σ (ZE P T) (P.cellsOf (ZE P T)) parts.toList 0).2.length)) [.lit (P.cellsOf (ZE P T)) (QA P σ (ZE P T) (P.cellsOf (ZE P T)) parts.toList 0).2]) (QA P σ (ZE P T) (P.cellsOf (ZE P T)) parts.toList 0).2 = some news /\
   Xh (σ.new d (.one (.sref d 0 0 (QA P σ (ZE P T) (P.cellsOf (ZE P T)) parts.toList 0).2.length)) [.lit (P.cellsOf (ZE P T)) (QA P σ (ZE P T) (P.cellsOf (ZE P T)) parts.toList 0).2]) (QA P σ (ZE P T) (P.cellsOf (ZE P T)) parts.toList 0).2)
  (h5 : YX (QA P σ (ZE P T) (P.cellsOf (ZE P T)) parts.toList 0).2.flatten = L /\ L.Nodup /\ (d, 0) ∉ L)
  (h6 : ((σ.new d (.one (.sref d 0 0 (QA P σ (ZE P T) (P.cellsOf (ZE P T)) parts.toList 0).2.length)) [.lit (P.cellsOf (ZE P T)) (QA P σ (ZE P T) (P.cellsOf (ZE P T)) parts.toList 0).2]).Zn L).JX (At.isP d) = false)
  (h : @EI P (((σ.new d (.one (.sref d 0 0 (QA P σ (ZE P T) (P.cellsOf (ZE P T)) parts.toList 0).2.length)) [.lit (P.cellsOf (ZE P T)) (QA P σ (ZE P T) (P.cellsOf (ZE P T)) parts.toList 0).2]).Zn L).Ze d 0 (.arr true (P.cellsOf (ZE P T)) news)) A l k) : @SI P σ A o l k := by
 refine ⟨_, .inr ⟨w6, ?_, fun d' wO hc => QN (KO (WX (fun e => wO (by rw [hd, e])) hc)), fun hh => by simp [jQ, wA] at hh, fun hh => by first | (simp [xm, wA] at hh; done) | (unfold xm at hh; rw [wA] at hh; split at hh <;> simp_all), fun hh _ => by first | (simp [JJ, wA] at hh; done) | (unfold JJ at hh; rw [wA] at hh; split at hh <;> simp_all)⟩, X4 h⟩
 rintro T0 B a w K Q' ⟨X, hh, r⟩ hK
 have hw : Region.wanted o.o (yielded A.ops a.tmps) = true := by simp [Region.wanted, hg]
 rw [if_pos hw]
 refine kj r wA hd h1.1.1 h1.2.1 h1.2.2.1 h1.2.2.2.1 h1.2.2.2.2.1 h1.2.2.2.2.2 (Sh h2) h3 (fun a' w' hr oz => hK a' w' ?_ oz)
 obtain ⟨X', u9, r'⟩ := hr
 exact Rel.HS r' (by rw [St.Xo, if_pos ⟨rfl, h1.1.2⟩]; rfl) h4.1 h4.2 h5.1 h5.2.1 h5.2.2 h6
end
attribute [simp] At.isP
theorem YC.own {P : Program} {f : FuncId} {args res : List (List D)} (hs : YC P f args res) : XP P f true args res := by
 refine ⟨hs.1, fun T w wj hT ha => (hs.2 T w wj hT ha).mono ?_⟩
 rintro e w' ⟨vs, wa, he, hb, hf, hl, ⟨hlen, Sk, h1, h2, h3⟩⟩
 refine ⟨vs, wa, fun b => (w.heap.size <= b /\ b < w'.heap.size) /\ ∀ (k : Nat) (c : Value) (d : D), wa.flatten[k]? = some c -> res.flatten[k]? = some d -> d.scalar = false -> blk c ≠ some b, he, hb, fun b hb => hb.1, hf, KU hl (fun k x d hx hd => ?_), fun _ => ⟨fun i c d b hc hd vS ra => ?_, fun i j c c' d d' b hc hd wm wO vS pd ra mY => ?_⟩⟩
 ·simp only [KE, if_true]
  have ho := h1 k x d hx hd
  cases ho with
  | int k n => exact .int _ _
  | bool b => exact .bool _
  | str s => exact .str _
  | unk v h => exact .unk _ h
  | sl v size rows S e' xs rP ho hz wS hD hk ri wO =>
   refine ⟨e', xs, ho, hz, Zc.Jm hD (fun i y dd hy uW => (hk i y dd hy uW).rd (fun b k' hb => .inr ⟨h2 k b (ri i b hb).1, fun k2 c2 d2 tk tZ rb o0 => ?_⟩))⟩
   have uy := h1 k2 c2 d2 tk tZ
   have pA : Sk k2 b := by
    cases uy with
    | int k n => cases rb
    | bool b => cases rb
    | str s => cases rb
    | unk => cases rb
    | sl v2 pG pH S2 e2 l3 l4 uy nn wo rh sW wK o9 => exact wo b o0
   have := h3 k k2 b (ri i b hb).1 pA
   subst this
   rw [hx] at tk; cases tk
   exact (ri i b hb).2 o0
 ·have uy := h1 i c d hc hd
  have pA : Sk i b := by
   cases uy with
   | int k n => cases vS
   | bool b => cases vS
   | str s => cases vS
   | unk => cases vS
   | sl v2 pG pH S2 e2 l3 l4 uy nn wo rh sW wK o9 => exact wo b ra
  have := h2 i b pA
  exact ⟨this.1, this.2, fun hy => hy.2 i c d hc hd vS ra⟩
 ·have pA : ∀ (i : Nat) (c : Value) (d : D), wa.flatten[i]? = some c -> res.flatten[i]? = some d -> d.scalar = false -> blk c = some b -> Sk i b := by
   intro i c d hc hd vS ra
   have uy := h1 i c d hc hd
   cases uy with
   | int k n => cases vS
   | bool b => cases vS
   | str s => cases vS
   | unk => cases vS
   | sl v2 pG pH S2 e2 l3 l4 uy nn wo rh sW wK o9 => exact wo b ra
  exact h3 i j b (pA i c d hc hd vS ra) (pA j c' d' wm wO pd mY)
end Go.Vm
namespace Go.Vm
open Go.RowKit
def Pt (σ : St) (F : List (Nat × Nat)) : At -> At
 | .sref t j lo len => if inF F t j then (match σ.ob t j with | .arr _ s rows => .d (.sl s (cut rows lo len)) | _ => .any) else .sref t j lo len
 | .ptr t j i c => if inF F t j then .any else .ptr t j i c
 | .tref t j i c o => if inF F t j then .any else .tref t j i c o
 | x => x
def FM (σ : St) (F : List (Nat × Nat)) : V -> V
 | .one x => .one (Pt σ F x)
 | .agg xs => .agg (xs.map (Pt σ F))
 | .fix u (.one x) => .fix u (.one (Pt σ F x))
 | .fix u (.agg xs) => .fix u (.agg (xs.map (Pt σ F)))
 | _ => .any
def GM (σ : St) (F : List (Nat × Nat)) (t j : Nat) (o : Ob) : Ob :=
 if inF F t j then .none else match o with | .box cs => .box (cs.map (Pt σ F)) | .lit _ _ => .none | o => o
def Mw (σ : St) (F : List (Nat × Nat)) (t : Nat) : List Ob -> Nat -> List Ob
 | [], _ => []
 | o :: os, j => GM σ F t j o :: Mw σ F t os (j + 1)
def Vz (σ : St) (F : List (Nat × Nat)) : List Ent -> Nat -> List Ent
 | [], _ => []
 | e :: es, t => (FM σ F e.1, Mw σ F t e.2 0) :: Vz σ F es (t + 1)
def St.frz (σ : St) (F : List (Nat × Nat)) : St := Vz σ F σ 0
theorem Py {F : List (Nat × Nat)} : ∀ {σ0 : St} {es : List Ent} {t d : Nat}, Yg es d = true -> Yg (Vz σ0 F es t) d = true
 | σ0, [], t, d, h => by simp [Yg] at h
 | σ0, e :: es, t, 0, h => by
  rw [KB] at h ⊢
  rcases h with h | ⟨x, h⟩
  ·left; simp only [List.getElem?_cons_zero, Option.some.injEq] at h; subst h; rfl
  ·right; simp only [List.getElem?_cons_zero, Option.some.injEq] at h; subst h; exact ⟨x, rfl⟩
 | σ0, e :: es, t, d + 1, h => by
  have : Yg es d = true := by rw [KB] at h ⊢; simpa using h
  have := Py (F := F) (σ0 := σ0) (es := es) (t := t + 1) this
  rw [KB] at this ⊢
  simpa [Vz] using this
section
variable {P : Program} {σ : St} {k : Fr}
theorem FK {A : QV} {o : OpI} {l : JE} {σ' : St} (w6 : A.bar o.o = true) (hw : Wk σ σ') (hc : ∀ d, Yg σ d = true -> Yg σ' d = true) (tX : jQ o.o = false) (mX : xm o.o = false) (uq : JJ P o.o = false \/ Wp A.bar o.o = false) (h : @SI P σ' A o l k) : @SI P σ A o l k := by
 obtain ⟨σ'', hs, hr⟩ := h
 refine ⟨σ'', .inr ⟨w6, fun T0 B a w K Q vT hK => ku hs T0 B a w K Q (hw T0 B a w vT) hK, fun d hd wh => ?_, fun hh => (by rw [tX] at hh; cases hh), fun hh => (by rw [mX] at hh; cases hh), fun hh ho => (by rcases uq with uq | uq <;> (first | (rw [uq] at hh; cases hh) | (rw [uq] at ho; cases ho)))⟩, hr⟩
 have h1 := hc d wh
 rcases hs with hs | hs
 ·exact S5 hs hd h1
 ·exact hs.2.2.1 d hd h1
theorem zV {A : QV} {o : OpI} {l : JE} (F : List (Nat × Nat)) (w6 : A.bar o.o = true) (hw : j0 σ [] F σ (σ.frz F) 0) (h : @SI P (σ.frz F) A o l k) (tX : jQ o.o = false := by exact rfl) (mX : xm o.o = false := by exact rfl) (uq : JJ P o.o = false \/ Wp A.bar o.o = false := by first | exact .inl rfl | exact .inr rfl) : @SI P σ A o l k :=
 FK w6 (X1 [] F rfl hw) (fun _ hd => Py hd) tX mX uq h
end
attribute [simp] Pt FM GM Mw Vz St.frz
end Go.Vm
namespace Go.Vm
theorem G8 {σ σ' : St} {t size : Nat} {rows : List (List At)} {news : List (List D)} {L : List (Nat × Nat)} (ho : σ.ob t 0 = .lit size rows) (v7 : Xp σ rows = some news) (wb : Xh σ rows) (hL : YX rows.flatten = L) (w8 : L.Nodup /\ (t, 0) ∉ L)
  (hp : (σ.Zn L).JX (At.isP t) = false) (h : Wk ((σ.Zn L).Ze t 0 (.arr true size news)) σ') : Wk σ σ' :=
 fun T0 B a w ⟨_, _, r⟩ => h T0 B a w (Rel.HS r ho v7 wb hL w8.1 w8.2 hp)
end Go.Vm
namespace Go.Vm
open Go.RowKit
abbrev ptr (b : Nat) : Value := .pointer (some ⟨b, 0, none⟩)
abbrev MY (T : CS) (w : World) (wj : List Value) (args : List (List D)) : Prop := Zc (fun v row => ∃ cs, Ql v cs /\ Zc (Rd T w) cs row) wj args
def KW (n : Nat) (pre : List (List D)) (v : Value) (cells : List At) (vg : List Ob) (post : List (List D)) : St :=
 VF pre ++ (.fix v (.one (.bptr pre.length 0)), .box cells :: vg) :: (VF post ++ List.replicate (n - (pre.length + 1 + post.length)) (V.any, []))
section
variable {P : Program} {T0 : CS} {B : Nat -> Prop} {σ : St} {a : Act} {w w' : World} {X X' : Nat -> Prop} {h : Nat -> Nat -> Hd}
theorem L3 (post : List (List D)) (m t : Nat) : ∃ x, (match (VF post ++ List.replicate m ((V.any, []) : Ent))[t]? with | some e => e | none => (V.any, [])) = (x, []) /\ (x = .any \/ ∃ r, post[t]? = some r /\ x = vOf (r.map .d)) := by
 rcases Nat.lt_or_ge t post.length with h | h
 ·rw [List.getElem?_append_left (by rw [XG]; exact h), kY, List.getElem?_eq_getElem h]
  exact ⟨_, rfl, .inr ⟨_, rfl, rfl⟩⟩
 ·rw [List.getElem?_append_right (by rw [XG]; exact h), List.getElem?_replicate]
  refine ⟨.any, ?_, .inl rfl⟩
  split
  ·rename_i e he
   split at he
   ·cases he; rfl
   ·cases he
  ·rfl
theorem I2 (n : Nat) (pre : List (List D)) (v : Value) (cells : List At) (vg : List Ob) (post : List (List D)) (t : Nat) :
  (t = pre.length /\ (KW n pre v cells vg post)[t]? = some (.fix v (.one (.bptr pre.length 0)), .box cells :: vg)) \/
  (t ≠ pre.length /\ (∀ j, (KW n pre v cells vg post).ob t j = .none) /\ ((KW n pre v cells vg post).get t = .any \/ ∃ r, (KW n pre v cells vg post).get t = vOf (r.map .d) /\ ((t < pre.length /\ pre[t]? = some r) \/ (pre.length < t /\ post[t - pre.length - 1]? = some r)))) := by
 rcases Nat.lt_trichotomy t pre.length with h | h | h
 ·refine .inr ⟨by omega, ?_⟩
  have : (KW n pre v cells vg post)[t]? = some (vOf (pre[t].map .d), []) := by
   unfold KW
   rw [List.getElem?_append_left (by rw [XG]; exact h), kY, List.getElem?_eq_getElem h]; rfl
  refine ⟨fun j => by unfold St.ob; rw [this]; simp [Z2], .inr ⟨pre[t], by unfold St.get; rw [this], .inl ⟨h, List.getElem?_eq_getElem h⟩⟩⟩
 ·refine .inl ⟨h, ?_⟩
  unfold KW
  rw [List.getElem?_append_right (by rw [XG]; omega), XG, h, Nat.sub_self]; rfl
 ·refine .inr ⟨by omega, ?_⟩
  have e1 : (KW n pre v cells vg post)[t]? = (VF post ++ List.replicate (n - (pre.length + 1 + post.length)) ((V.any, []) : Ent))[t - pre.length - 1]? := by
   unfold KW
   rw [List.getElem?_append_right (by rw [XG]; omega), XG, show t - pre.length = (t - pre.length - 1) + 1 by omega, List.getElem?_cons_succ]; rfl
  obtain ⟨x, hx, hr⟩ := L3 post (n - (pre.length + 1 + post.length)) (t - pre.length - 1)
  rw [<- e1] at hx
  constructor
  ·intro j
   unfold St.ob
   cases hq : (KW n pre v cells vg post)[t]? with
   | none => rfl
   | some e => rw [hq] at hx; simp only at hx; rw [hx]; simp [Z2]
  ·have hg : (KW n pre v cells vg post).get t = x := by
    unfold St.get
    cases hq : (KW n pre v cells vg post)[t]? with
    | none => rw [hq] at hx; simp only at hx; injection hx
    | some e => rw [hq] at hx; simp only at hx; rw [hx]
   rcases hr with rfl | ⟨r, hr, rfl⟩
   ·exact .inl hg
   ·exact .inr ⟨r, hg, .inr ⟨h, hr⟩⟩
theorem L2 {T : CS} {S : Nat -> Prop} {n b : Nat} {pre post : List (List D)} {cells : List At} {vg : List Ob} {vV vj : List Value} (hd : Nat -> Hd)
  (hT : ∀ k i, T k i -> k < w.heap.size /\ k ≠ b /\ ¬ S k) (hS : ∀ k, S k -> k < w.heap.size /\ k ≠ b) (hb : b < w.heap.size) (h0 : hd 0 = Hd.of (ptr b))
  (vz : ∀ (h : Nat -> Nat -> Hd) (ob : Nat -> Nat -> Ob), (∀ j, h pre.length j = hd j) -> (∀ j, ob pre.length j = Z2 (.box cells :: vg) j) -> Xu (Tof T (fun _ => False)) h ob w (hd 0) (.box cells))
  (vE : ∀ (h : Nat -> Nat -> Hd) (ob : Nat -> Nat -> Ob) (j : Nat), Xu (Tof T (fun _ => False)) h ob w (hd (j + 1)) (Z2 vg j))
  (vO : ∀ j k, Z2 vg j ≠ .none -> blk (hd (j + 1)).v = some k -> (hd (j + 1)).u k) (wI : ∀ j k, Z2 vg j ≠ .none -> (hd (j + 1)).u k -> S k)
  (su : ∀ i j k, Z2 vg i ≠ .none -> Z2 vg j ≠ .none -> (hd (i + 1)).u k -> (hd (j + 1)).u k -> i = j) (ll : MY T w vV pre) (ln : MY T w vj post) :
  X7 T (fun k => k < w.heap.size /\ k ≠ b /\ ¬ S k) (KW n pre (ptr b) cells vg post) { tmps := (vV ++ ptr b :: vj).toArray ++ Array.replicate (n - (vV ++ ptr b :: vj).toArray.size) undef, defers := [] } w := by
 have o8 := ll.length
 have rh := ln.length
 have uU := I2 n pre (ptr b) cells vg post
 have vP : ∀ j, (KW n pre (ptr b) cells vg post).ob pre.length j = Z2 (.box cells :: vg) j := by
  intro j
  rcases uU pre.length with ⟨_, h⟩ | ⟨h, _⟩
  ·unfold St.ob; rw [h]
  ·exact absurd rfl h
 have sy : ∀ t j, (KW n pre (ptr b) cells vg post).ob t j ≠ .none -> t = pre.length := by
  intro t j hn
  rcases uU t with ⟨h, _⟩ | ⟨_, h, _⟩
  ·exact h
  ·exact absurd (h j) hn
 have sa : ∀ b k v, T b k -> w.cell? ⟨b, k, none⟩ = some v -> w.cell? ⟨b, k, none⟩ = some v /\ Tof T (fun _ => False) b k := fun b k v hb hc => ⟨hc, .inl hb⟩
 have mi : ∀ k, (hd 0).u k ↔ k = b := fun k => by rw [h0]; simp [Hd.of, blk, eq_comm]
 have vp : ∀ j, Z2 (.box cells :: vg) j ≠ .none -> (j = 0 \/ ∃ i, j = i + 1 /\ Z2 vg i ≠ .none) := by
  intro j hn
  cases j with
  | zero => exact .inl rfl
  | succ j => exact .inr ⟨j, rfl, by rw [U6] at hn; exact hn⟩
 have iy : ∀ j k, Z2 (.box cells :: vg) j ≠ .none -> (hd j).u k -> k = b \/ S k := by
  intro j k hn hu
  rcases vp j hn with rfl | ⟨i, rfl, hi⟩
  ·exact .inl ((mi k).1 hu)
  ·exact .inr (wI i k hi hu)
 have pD : ∀ {wj : List Value} {args : List (List D)} {t : Nat} {r : List D}, MY T w wj args -> args[t]? = some r -> ∃ v, wj[t]? = some v /\ XC (Tof T (fun _ => False)) (fun t j => if t = pre.length then hd j else Hd.of undef) (KW n pre (ptr b) cells vg post).ob w (vOf (r.map .d)) v := by
  intro wj args t r ha hr
  obtain ⟨v, hv, cs, hf, wC⟩ := ha.get' t r hr
  exact ⟨v, hv, (SH hf (yz (wC.imp fun _ _ => Rd.mono sa))).up⟩
 refine ⟨fun _ => False, fun t j => if t = pre.length then hd j else Hd.of undef, ?_⟩
 refine ⟨?_, rfl, (fun k hk => hk.1), (fun b hb => hb.elim), (fun k i hk => hT k i hk), fun t ht => ?_, fun t j => ?_, fun t j k hn hk => ?_, fun t j k hn hk => ?_, fun t j t' j' k hn wu hk pe => ?_⟩
 ·simp [KW, XG, o8, rh]; omega
 ·rcases uU t with ⟨rfl, h⟩ | ⟨wD, _, h⟩
  ·have v5 : ((vV ++ ptr b :: vj).toArray ++ Array.replicate (n - (vV ++ ptr b :: vj).toArray.size) undef).getD pre.length undef = ptr b := by
    rw [Array.getD_eq_getD_getElem?, Array.getElem?_append_left (by simp; omega)]
    simp [<- o8]
   rw [v5]
   unfold St.get; rw [h]
   exact ⟨rfl, rfl, fun wG _ => ⟨b, by simp [h0, Hd.of], rfl⟩⟩
  ·rcases h with h | ⟨r, h, hr⟩
   ·rw [h]; trivial
   ·rw [h]
    rcases hr with ⟨wN, hr⟩ | ⟨wN, hr⟩
    ·obtain ⟨v, hv, vT⟩ := pD ll hr
     have v5 : ((vV ++ ptr b :: vj).toArray ++ Array.replicate (n - (vV ++ ptr b :: vj).toArray.size) undef).getD t undef = v := by
      rw [Array.getD_eq_getD_getElem?, Array.getElem?_append_left (by simp; omega)]
      simp [List.getElem?_append_left (show t < vV.length by omega), hv]
     simp only [v5]; exact vT
    ·obtain ⟨v, hv, vT⟩ := pD ln hr
     have mS := (List.getElem?_eq_some_iff.1 hv).1
     have v5 : ((vV ++ ptr b :: vj).toArray ++ Array.replicate (n - (vV ++ ptr b :: vj).toArray.size) undef).getD t undef = v := by
      rw [Array.getD_eq_getD_getElem?, Array.getElem?_append_left (by simp; omega)]
      simp only [List.getElem?_toArray]
      rw [List.getElem?_append_right (by omega), show t - vV.length = (t - pre.length - 1) + 1 by omega, List.getElem?_cons_succ, hv]; rfl
     simp only [v5]; exact vT
 ·by_cases hn : (KW n pre (ptr b) cells vg post).ob t j = .none
  ·rw [hn]; trivial
  ·obtain rfl := sy t j hn
   rw [vP]
   simp only [if_true]
   cases j with
   | zero => exact vz _ _ (fun j => by simp) vP
   | succ j => rw [U6]; exact vE _ _ j
 ·obtain rfl := sy t j hn
  rw [vP] at hn
  simp only [if_true] at hk ⊢
  rcases vp j hn with rfl | ⟨i, rfl, hi⟩
  ·rw [h0] at hk ⊢; exact hk
  ·exact vO i k hi hk
 ·obtain rfl := sy t j hn
  rw [vP] at hn
  simp only [if_true] at hk
  rcases iy j k hn hk with rfl | hs
  ·exact ⟨fun hh => hh.2.1 rfl, fun hh => hh, hb⟩
  ·exact ⟨fun hh => hh.2.2 hs, fun hh => hh, (hS k hs).1⟩
 ·obtain rfl := sy t j hn
  obtain rfl := sy t' j' wu
  rw [vP] at hn wu
  simp only [if_true] at hk pe
  refine ⟨rfl, ?_⟩
  rcases vp j hn with rfl | ⟨i, rfl, hi⟩
  ·rcases vp j' wu with rfl | ⟨i', rfl, vd⟩
   ·rfl
   ·exact absurd ((mi k).1 hk) (hS k (wI i' k vd pe)).2
  ·rcases vp j' wu with rfl | ⟨i', rfl, vd⟩
   ·exact absurd ((mi k).1 pe) (hS k (wI i k hi hk)).2
   ·rw [su i i' k hi vd hk pe]
end
end Go.Vm
namespace Go.Vm
open Go.RowKit
def GX (dp : Bool) (T : CS) (w : World) (b : Nat) (wM : List D) (res : List (List D)) (e : Ending) (w' : World) : Prop :=
 ∃ (vs : List Value) (wa : List (List Value)) (Y : Nat -> Prop), e = .returned (ko vs) /\ Yj (fun k => k < w.heap.size /\ k ≠ b) w w' /\ (∀ k, Y k -> w.heap.size <= k /\ k < w'.heap.size) /\
  (∃ cs e', w'.heap[b]? = some (.cells cs e' (0, 0)) /\ Zc (Rd (Tof T Y) w') cs.toList wM) /\ Zc Ql vs wa /\ Zc (fun (cs : List Value) (row : List D) => cs.length = row.length) wa res /\
  (if dp then Qh w' wa.flatten res.flatten (fun k => w.heap.size <= k /\ k < w'.heap.size /\ ¬ Y k) else Zc (fun cs row => Zc (Rd (Tof T Y) w') cs row) wa res)
def Yr (P : Program) (f : FuncId) (dp : Bool) (row : List D) (args : List (List D)) (wM : List D) (res : List (List D)) : Prop :=
 Wi P f = true /\ ∀ (T : CS) (w : World) (b : Nat) (wj : List Value), (∀ k i, T k i -> k < w.heap.size /\ k ≠ b) -> b < w.heap.size -> (∃ cs e, w.heap[b]? = some (.cells cs e (0, 0)) /\ Zc (Rd T w) cs.toList row) ->
  MY T w wj args -> Calls P f (ptr b :: wj).toArray w (GX dp T w b wM res)
def G4 (P : Program) (fn : Func) (v : Value) (dp : Bool) (wM : List D) (res : List (List D)) (e : Exit) (σ : St) : Prop :=
 (e = .ret \/ e = .normal) /\ (∃ vg, σ.head? = some (.fix v (.one (.bptr 0 0)), .box (wM.map .d) :: vg)) /\ ∃ vH, WA P σ fn.results.toList vH /\
  (if dp then Xp σ vH = some res /\ Xh σ vH /\ (YX vH.flatten).Nodup else zh σ vH = some res)
def Ur (P : Program) (f : FuncId) (args : List (List D)) (wM : List D) : Prop :=
 Wi P f = true /\ ∀ (T : CS) (w : World) (wj : List Value), (∀ k i, T k i -> k < w.heap.size) -> MY T w wj args ->
  Calls P f wj.toArray w fun e w' => ∃ b Y, e = .returned (ptr b) /\ Below w.heap.size w w' /\ w.heap.size <= b /\ b < w'.heap.size /\ (∀ k, Y k -> w.heap.size <= k /\ k < w'.heap.size /\ k ≠ b) /\ ∃ cs e', w'.heap[b]? = some (.cells cs e' (0, 0)) /\ Zc (Rd (Tof T Y) w') cs.toList wM
def Gf (P : Program) (fn : Func) (wM : List D) (e : Exit) (σ : St) : Prop :=
 (e = .ret \/ e = .normal) /\ ∃ u, WA P σ fn.results.toList [[.bptr u 0]] /\ σ.ob u 0 = .box (wM.map .d)
section
variable {P : Program} {T0 : CS} {B : Nat -> Prop} {σ : St} {a : Act} {w w' : World} {X X' : Nat -> Prop} {h : Nat -> Nat -> Hd}
theorem kI {T : CS} {ob : Nat -> Nat -> Ob} : ∀ {row : List D} {cs : List Value}, Zc (Zr T h ob w) (row.map .d) cs -> Zc (Rd T w) cs row
 | [], _, wC => by cases wC; exact .nil
 | _ :: _, _, wC => by cases wC with | cons h1 h2 => exact .cons h1 (kI h2)
theorem Rt {f : FuncId} {fn : Func} {c : Code} (hf : P.funcs[f]? = some fn) (hb : fn.body = some c) (wb : Wi P f = true) {dp : Bool} {row : List D} {args : List (List D)} {wM : List D} {res : List (List D)}
  (hw : ∀ v, AWP P c (G4 P fn v dp wM res) (KW fn.ntmps [] v (row.map .d) [] args)) : Yr P f dp row args wM res := by
 refine ⟨wb, fun T w b wj hT wS ⟨ir, e0, mZ, pf⟩ wH => calls_of_wp hf hb ?_⟩
 have pE := L2 (w := w) (T := T) (S := fun _ => False) (n := fn.ntmps) (b := b) (pre := []) (post := args) (cells := row.map .d) (vg := []) (vV := []) (vj := wj) (fun _ => Hd.of (ptr b))
  (fun k i hk => ⟨(hT k i hk).1, (hT k i hk).2, fun hh => hh⟩) (fun k hk => hk.elim) wS rfl
  (fun h ob _ _ => ⟨b, ir, e0, rfl, mZ, yz (pf.imp fun _ _ => Rd.mono (fun b k v hb hc => ⟨hc, .inl hb⟩))⟩) (fun h ob j => by simp [Z2, Xu]) (fun j k hn => by simp [Z2] at hn) (fun j k hn => by simp [Z2] at hn) (fun i j k hn => by simp [Z2] at hn) .nil wH
 simp only [List.nil_append] at pE
 refine wp_mono (hw (ptr b) T _ _ w pE) ?_
 rintro e a' w' ⟨σ', ⟨he, ⟨vg, sv⟩, vH, vh, wJ⟩, ⟨X, h, r⟩, wW⟩
 obtain ⟨vs, wa, wU, wi, wC⟩ := qA r vh
 have vN : 0 < σ'.length := by
  cases σ' with
  | nil => simp at sv
  | cons e σ => simp
 have mj : σ'.get 0 = .fix (ptr b) (.one (.bptr 0 0)) := by
  cases σ' with
  | nil => simp at sv
  | cons e σ => simp at sv; simp [St.get, sv]
 have vB : σ'.ob 0 0 = .box (wM.map .d) := by
  cases σ' with
  | nil => simp at sv
  | cons e σ => simp at sv; simp [St.ob, sv, Z2]
 have pF := r.slot 0 vN
 rw [mj] at pF
 obtain ⟨mf, vx⟩ := pF
 obtain ⟨b1, vQ, vJ⟩ := vx.2 _ vB
 rw [mf] at vJ
 have ue : b1 = b := by injection vJ with vJ; injection vJ with vJ; injection vJ with vJ; exact vJ.symm
 subst ue
 have vp := r.obj 0 0
 rw [vB] at vp
 obtain ⟨b2, pB, e', wo, u9, tG⟩ := vp
 rw [vQ] at wo
 have ue : b2 = b1 := by injection wo with wo; injection wo with wo; injection wo with wo; exact wo.symm
 subst ue
 have s3 : Yj (fun k => k < w.heap.size /\ k ≠ b2) w w' := ⟨wW.os, wW.tape, wW.output, wW.size, fun k hk => wW.block k ⟨hk.1, hk.2, fun hh => hh⟩⟩
 have iz : ∀ k, X k -> k = b2 -> False := by
  rintro k hx rfl
  have vO := r.ub 0 0 k (by rw [vB]; simp) (by rw [vQ]; rfl)
  exact (r.own 0 0 k (by rw [vB]; simp) vO).2.1 hx
 have mn : ∀ k, X k -> w.heap.size <= k /\ k < w'.heap.size := by
  intro k hk
  have h1 := r.hX k hk
  refine ⟨?_, h1.2⟩
  rcases Nat.lt_or_ge k w.heap.size with wN | tA
  ·exact absurd ⟨wN, fun hh => iz k hk hh, fun hh => hh⟩ h1.1
  ·exact tA
 have goal : a'.defers = [] /\ ∃ v, (results fn a'.tmps).run P w' = .ok v w' /\ GX dp T w b2 wM res (.returned v) w' := by
  refine ⟨r.defers, _, wU, ?_⟩
  cases dp with
  | true =>
   simp only [if_true] at wJ
   obtain ⟨v7, tH, w8⟩ := wJ
   refine ⟨vs, wa, X, rfl, s3, mn, ⟨pB, e', u9, kI tG⟩, wi, ?_, ?_⟩
   ·clear w8 tH vh wU wi hw
    induction wC generalizing res with
    | nil => simp [Xp] at v7; subst v7; exact .nil
    | cons h1 _ ih =>
     simp only [Xp] at v7
     split at v7
     ·rename_i row rs wk uF
      cases v7
      exact .cons (by rw [<- h1.length]; exact (zg wk).1) (ih uF)
     ·cases v7
   ·simp only [if_true]
    refine (Sc r (KJ wC) (JZ v7).1 (JK tH) w8).mono (fun k hk => ?_)
    have hg := r.xT _ k hk
    refine ⟨?_, hg.2.2.1, hg.2.1⟩
    rcases Nat.lt_or_ge k w.heap.size with wN | tA
    ·refine absurd ⟨wN, ?_, fun hh => hh⟩ hg.1
     rintro rfl
     obtain ⟨p, hp, wD, hu⟩ := hk
     have vO := r.ub 0 0 k (by rw [vB]; simp) (by rw [vQ]; rfl)
     obtain ⟨e1, e2⟩ := r.inj p.1 p.2 0 0 k wD (by rw [vB]; simp) hu vO
     obtain ⟨i, lo, len, hx⟩ := Uj hp
     have hm := j6 (JK tH) i _ hx
     rw [e1, e2] at hm
     obtain ⟨d, hd, lu⟩ := (Zc.get (R := fun x d => mvD σ' x = some d) (Zc.Jm (zg (JZ v7).1).1 (fun i a b h1 h2 => (zg (JZ v7).1).2 i a b h1 h2)) i _ hx)
     rw [e1, e2] at lu
     simp [mvD, vB] at lu
    ·exact tA
  | false =>
   simp only [Bool.false_eq_true, if_false] at wJ
   refine ⟨vs, wa, fun k => w.heap.size <= k /\ k < w'.heap.size, rfl, s3, fun k hk => hk, ⟨pB, e', u9, (kI tG).imp fun _ _ => Rd.mono (fun k i v hk hc => ⟨hc, ?_⟩)⟩, wi, ?_, ?_⟩
   ·rcases hk with hk | hk
    ·exact .inl hk
    ·exact .inr (mn k hk)
   ·clear vh wU wi hw
    induction wC generalizing res with
    | nil => simp [zh] at wJ; subst wJ; exact .nil
    | cons h1 _ ih =>
     simp only [zh] at wJ
     split at wJ
     ·rename_i row rs wk uF
      cases wJ
      exact .cons ((r.rowOf false wk h1 (fun hh => by cases hh)).length) (ih uF)
     ·cases wJ
   ·simp only [Bool.false_eq_true, if_false]
    refine jc r (fun k i hk => ?_) wJ wC
    rcases hk with hk | ⟨t, j, q, size, rows, ho, hk⟩
    ·rcases hk with hk | hk
     ·exact .inl hk
     ·exact .inr (mn k hk)
    ·have wD : σ'.ob t j ≠ .none := by rw [ho]; simp
     have wI := r.own t j k wD hk
     refine .inr ⟨?_, wI.2.2⟩
     rcases Nat.lt_or_ge k w.heap.size with wN | tA
     ·refine absurd ⟨wN, ?_, fun hh => hh⟩ wI.1
      rintro rfl
      have vO := r.ub 0 0 k (by rw [vB]; simp) (by rw [vQ]; rfl)
      obtain ⟨e1, e2⟩ := r.inj t j 0 0 k wD (by rw [vB]; simp) hk vO
      rw [e1, e2, vB] at ho; cases ho
     ·exact tA
 rcases he with rfl | rfl
 ·exact goal
 ·exact goal
theorem Ry {f : FuncId} {fn : Func} {c : Code} (hf : P.funcs[f]? = some fn) (hb : fn.body = some c) (wb : Wi P f = true) {args : List (List D)} {wM : List D}
  (hw : AWP P c (Gf P fn wM) (K7 fn.ntmps args)) : Ur P f args wM := by
 refine ⟨wb, fun T w wj hT wH => calls_of_wp hf hb ?_⟩
 refine wp_mono (hw T (fun b => b < w.heap.size) _ w (SR hT wH)) ?_
 rintro e a' w' ⟨σ', ⟨he, u, vh, ph⟩, ⟨X, h, r⟩, wW⟩
 have vW : Below w.heap.size w w' := ⟨wW.os, wW.tape, wW.output, wW.size, wW.block⟩
 obtain ⟨vs, wa, wU, wi, wC⟩ := qA r vh
 cases wC with
 | cons h1 wC =>
  cases wC
  cases h1 with
  | @cons _ c0 _ _ hx h1 =>
   cases h1
   cases wi with
   | @cons v0 _ _ _ hu hn =>
    cases hn
    have vm : v0 = c0 := by
     rcases hu with ⟨c', oO, rfl, _⟩ | ⟨hn, _⟩
     ·cases oO; rfl
     ·simp at hn
    subst vm
    obtain ⟨b, vQ, hv⟩ := hx.2 _ ph
    have vp := r.obj u 0
    rw [ph] at vp
    obtain ⟨b2, pB, e', wo, u9, tG⟩ := vp
    rw [vQ] at wo
    have ue : b2 = b := by injection wo with wo; injection wo with wo; injection wo with wo; exact wo.symm
    subst ue
    have wD : σ'.ob u 0 ≠ .none := by rw [ph]; simp
    have vO := r.ub u 0 b2 wD (by rw [vQ]; rfl)
    have wI := r.own u 0 b2 wD vO
    have goal : a'.defers = [] /\ ∃ v, (results fn a'.tmps).run P w' = .ok v w' /\ ∃ b Y, Ending.returned v = .returned (ptr b) /\ Below w.heap.size w w' /\ w.heap.size <= b /\ b < w'.heap.size /\ (∀ k, Y k -> w.heap.size <= k /\ k < w'.heap.size /\ k ≠ b) /\ ∃ cs e', w'.heap[b]? = some (.cells cs e' (0, 0)) /\ Zc (Rd (Tof T Y) w') cs.toList wM := by
     refine ⟨r.defers, _, wU, b2, X, by rw [hv]; rfl, vW, by have := wI.1; omega, wI.2.2, fun k hk => ?_, pB, e', u9, kI tG⟩
     have pe := r.hX k hk
     refine ⟨by have := pe.1; omega, pe.2, ?_⟩
     rintro rfl
     exact wI.2.1 hk
    rcases he with rfl | rfl
    ·exact goal
    ·exact goal
end
end Go.Vm
namespace Go.Vm
open Go.RowKit
section
variable {P : Program} {T0 : CS} {B : Nat -> Prop} {σ : St} {a : Act} {w w' : World} {X X' : Nat -> Prop} {h : Nat -> Nat -> Hd}
theorem Hp {T : CS} {ob : Nat -> Nat -> Ob} {hd : Hd} {size : Nat} {rows : List (List D)} (hr : Xu T h ob w hd (.arr true size rows)) (hf : ∀ r ∈ rows, ∀ x ∈ r, x.scalar = true) : Xu T h ob w hd (.arr false size rows) := by
 obtain ⟨e, xs, ho, hz, ⟨hl, Sk, hk, _, _⟩, _⟩ := hr
 refine ⟨e, xs, ho, hz, Zc.Jm hl (fun k x d hx hd => ?_)⟩
 obtain ⟨r0, uf, hdr⟩ := List.mem_flatten.1 (List.mem_of_getElem? hd)
 have vS := hf r0 uf d hdr
 have := hk k x d hx hd
 cases this with
 | int k n => exact .int _ _
 | bool b => exact .bool _
 | str s => exact .str _
 | unk v h => exact .unk _ h
 | sl => cases vS
theorem Rel.Gj (r : Rel T0 B σ a w X h) {d : Nat} (hf : σ.fresh d = true) (M : Nat -> Prop) (hM : ∀ b, M b -> ¬ B b /\ ¬ X b /\ b < w.heap.size /\ ∀ t j, σ.ob t j ≠ .none -> ¬ (h t j).u b) {vs : List Value} {wa : List (List Value)} {res : List (List D)} (qs : List Bool)
  (wi : Zc Ql vs wa) (hlen : Zc (fun (cs : List Value) (row : List D) => cs.length = row.length) wa res) (wI : Qh w wa.flatten res.flatten M) (hq : zY qs res.flatten) : X7 T0 B (σ.new d (yR d res) (Z6 qs res.flatten)) (a.put (some d) (ko vs)) w := by
 have wN := St.JF hf
 obtain ⟨pC, Sk, k1, k2, k3, k4⟩ := Hq wI
 have wZ : ∀ j, (σ.new d (yR d res) (Z6 qs res.flatten)).ob d j = Z2 (Z6 qs res.flatten) j := fun j => by rw [St.Xo]; simp [wN]
 have mo := wI.top (T := Tof T0 X)
 have vk : Zc (fun cs row => Zc (zu (Tof T0 X) w) cs row) wa res := KU hlen (fun k x d hx hd => by
  obtain ⟨c, hc, ht⟩ := mo.get' k d hd
  rw [hx] at hc; cases hc; exact ht)
 refine ⟨X, fun t j => if t = d then pC j else h t j, ?_⟩
 refine r.H7 hf M (Nat.le_refl _) (fun _ _ _ => rfl) (fun b hb => ⟨(hM b hb).1, (hM b hb).2.1, fun t j _ hn => (hM b hb).2.2.2 t j hn⟩) (fun b hb => hb) (fun b hb => .inl hb) (yR d res) (ko vs) (Z6 qs res.flatten) pC ?_ (fun j => ?_) (fun j b wD hb => ?_) (fun j b wD hb => ?_) (fun j j' b wD wv hb wS => ?_)
 ·exact RB (h := fun t j => if t = d then pC j else h t j) (ob := (σ.new d (yR d res) (Z6 qs res.flatten)).ob) (t := d) wi vk (fun i size rows hi => by
   obtain ⟨q, re, _⟩ := (YN qs res.flatten i hq).1 size rows hi
   exact ⟨q, by rw [wZ]; exact re⟩) (fun i c hi => by simp only [if_true]; exact k1 i c hi)
 ·by_cases wD : Z2 (Z6 qs res.flatten) j = .none
  ·rw [wD]; trivial
  ·obtain ⟨size, rows, hj⟩ := (YN qs res.flatten j hq).2 wD
   obtain ⟨q, re, mg⟩ := (YN qs res.flatten j hq).1 size rows hj
   rw [re]
   have := (k4 j size rows hj).2.2 (Tof T0 X) (fun t j => if t = d then pC j else h t j) (σ.new d (yR d res) (Z6 qs res.flatten)).ob
   cases q with
   | true => exact this
   | false => exact Hp this (mg rfl)
 ·obtain ⟨size, rows, hj⟩ := (YN qs res.flatten j hq).2 wD
  exact (k4 j size rows hj).2.1 b hb
 ·obtain ⟨size, rows, hj⟩ := (YN qs res.flatten j hq).2 wD
  have := k2 j b ((k4 j size rows hj).1 b hb)
  exact ⟨.inr this, (hM b this).2.1, (hM b this).2.2.1⟩
 ·obtain ⟨size, rows, hj⟩ := (YN qs res.flatten j hq).2 wD
  obtain ⟨wg, wP, uY⟩ := (YN qs res.flatten j' hq).2 wv
  exact k3 j j' b ((k4 j size rows hj).1 b hb) ((k4 j' wg wP uY).1 b wS)
theorem Rel.L4 (r : Rel T0 B σ a w X h) {t b : Nat} {cells : List At} {wM : List D} (ho : σ.ob t 0 = .box cells) (hv : (h t 0).v = ptr b) (vL : w.heap.size <= w'.heap.size) (hw : ∀ k, k < w.heap.size -> k ≠ b -> w'.heap[k]? = w.heap[k]?)
  (hX : ∀ b, X b -> X' b) (sZ : ∀ b, X' b -> X b \/ (w.heap.size <= b /\ b < w'.heap.size)) (tF : ∃ cs e, w'.heap[b]? = some (.cells cs e (0, 0)) /\ Zc (Rd (Tof T0 X') w') cs.toList wM) : Rel T0 B (σ.Ze t 0 (.box (wM.map .d))) a w' X' h := by
 have wZ : σ.ob t 0 ≠ .none := by rw [ho]; simp
 have vI : blk (h t 0).v = some b := by rw [hv]; rfl
 have vO := r.ub t 0 b wZ vI
 have lv := r.own t 0 b wZ vO
 have hT : ∀ k i v, Tof T0 X k i -> w.cell? ⟨k, i, none⟩ = some v -> w'.cell? ⟨k, i, none⟩ = some v /\ Tof T0 X' k i := by
  intro k i v hk hc
  refine ⟨?_, hk.imp id (hX k)⟩
  have wD : k ≠ b := by
   rintro rfl
   rcases hk with hk | hk
   ·exact lv.1 (r.hT _ _ hk)
   ·exact lv.2.1 hk
  rw [World.cell?_of_block (hw k (r.Tlt hk) wD)]; exact hc
 have vE : ∀ u i, ¬ (u = t /\ i = 0) -> (σ.Ze t 0 (.box (wM.map .d))).ob u i = σ.ob u i := by
  intro u i wD
  rw [St.XF σ t 0 _ u i wZ, if_neg wD]
 have vA : (σ.Ze t 0 (.box (wM.map .d))).ob t 0 = .box (wM.map .d) := by rw [St.XF σ t 0 _ t 0 wZ]; simp
 have mq : ∀ u i, Cpt h h σ.ob (σ.Ze t 0 (.box (wM.map .d))).ob u i := by
  intro u i
  by_cases hu : u = t /\ i = 0
  ·obtain ⟨rfl, rfl⟩ := hu
   refine ⟨fun q size rows wV => ?_, fun size rows wV => ?_, fun wG wV => ⟨rfl, cells, ho⟩⟩
   ·rw [vA] at wV; cases wV
   ·rw [vA] at wV; cases wV
  ·exact Cpt.same rfl (vE u i hu)
 have at_ : ∀ {x : At} {v : Value}, (fun _ => false : At -> Bool) x = false -> Zr (Tof T0 X) h σ.ob w x v -> Zr (Tof T0 X') h (σ.Ze t 0 (.box (wM.map .d))).ob w' x v := fun _ rx => Zr.HB hT mq rx
 have vF : ∀ u i, (σ.Ze t 0 (.box (wM.map .d))).ob u i ≠ .none -> σ.ob u i ≠ .none := by
  intro u i hn
  by_cases hu : u = t /\ i = 0
  ·obtain ⟨rfl, rfl⟩ := hu; exact wZ
  ·rw [vE u i hu] at hn; exact hn
 refine ⟨by rw [r.size, St.YZ], r.defers, fun b hb => Nat.lt_of_lt_of_le (r.hB b hb) vL, fun k hk => ?_, r.hT, fun u hu => ?_, fun u i => ?_, fun u i k hn => r.ub u i k (vF u i hn), fun u i k hn hk => ?_, fun u i u' i' k hn wu => r.inj u i u' i' k (vF u i hn) (vF u' i' wu)⟩
 ·rcases sZ k hk with hk | hk
  ·have := r.hX k hk; exact ⟨this.1, by omega⟩
  ·exact ⟨fun ue => by have := r.hB k ue; omega, hk.2⟩
 ·rw [St.YZ] at hu
  rw [St.XK]; exact XC.map at_ (zo _) (r.slot u hu)
 ·by_cases hu : u = t /\ i = 0
  ·obtain ⟨rfl, rfl⟩ := hu
   rw [vA]
   obtain ⟨cs, e, hh, wC⟩ := tF
   exact ⟨b, cs, e, hv, hh, yz wC⟩
  ·rw [vE u i hu]
   exact Xu.map at_ hT (fun ho b => r.ub u i b ho) (fun hn k hk => hw k (r.own u i k hn hk).2.2 (fun e => by
    rw [e] at hk
    obtain ⟨e1, e2⟩ := r.inj u i t 0 b hn wZ hk vO
    exact hu ⟨e1, e2⟩)) (yr _) (r.obj u i)
 ·have := r.own u i k (vF u i hn) hk
  refine ⟨this.1, fun hx => ?_, by omega⟩
  rcases sZ k hx with hx | hx
  ·exact this.2.1 hx
  ·omega
def OR (dp : Bool) (σ : St) (d : Nat) (res : List (List D)) (qs : List Bool) : St := match dp with | true => σ.new d (yR d res) (Z6 qs res.flatten) | false => σ.put d (KK res)
theorem Tf (r : Rel T0 B σ a w X h) {o : Oper} {cl : Call} {f : FuncId} {d : Nat} {x0 : Operand} {xs : List Operand} {t0 : TypeId} {ts : List TypeId} {wL res : List (List D)} {row wM : List D} {dp : Bool} (qs : List Bool) (wA : o.op = .call cl) (hc : cl.callee = .value (.func f)) (hd : o.dst = some d)
  (ha : cl.args.toList = x0 :: xs) {t : Nat} (hg : gOf (look P σ t0 x0) = true) (hx : unc (look P σ t0 x0) = .one (.bptr t 0)) (ho : σ.ob t 0 = .box (row.map .d)) (wH : XL P σ xs ts wL) (wY : Zz P σ xs ts = true) (hs : Yr P f dp row wL wM res)
  (w9 : dp = true -> (σ.Ze t 0 (.box (wM.map .d))).fresh d = true /\ zY qs res.flatten)
  {K : Act -> World -> Prop} {Q : Exit -> Act -> World -> Prop} (hK : ∀ a' w', X7 T0 B (OR dp (σ.Ze t 0 (.box (wM.map .d))) d res qs) a' w' -> Yj B w w' -> K a' w') : o.wp P a w K Q := by
 have wZ : σ.ob t 0 ≠ .none := by rw [ho]; simp
 have hC := r.arg (P := P) t0 x0 hx hg
 obtain ⟨b, vQ, hv⟩ := hC.2 _ ho
 have vp := r.obj t 0
 rw [ho] at vp
 obtain ⟨b2, cs, e, wo, hh, wC⟩ := vp
 rw [vQ] at wo
 have ue : b2 = b := by injection wo with wo; injection wo with wo; injection wo with wo; exact wo.symm
 subst ue
 have vI : blk (h t 0).v = some b2 := by rw [vQ]; rfl
 have vO := r.ub t 0 b2 wZ vI
 have wI := r.own t 0 b2 wZ vO
 have tJ := r.XL true wH (fun _ => wY)
 simp only [if_true] at tJ
 unfold Oper.wp
 rw [xQ wA hc hs.1, Oper.upon_enter]
 rw [show (cl.args.toList.map a.eval).toArray = (ptr b2 :: xs.map a.eval).toArray by rw [ha]; simp [hv]]
 have hT : ∀ k i, Tof T0 X k i -> k < w.heap.size /\ k ≠ b2 := by
  intro k i hk
  refine ⟨r.Tlt hk, ?_⟩
  rintro rfl
  rcases hk with hk | hk
  ·exact wI.1 (r.hT _ _ hk)
  ·exact wI.2.1 hk
 refine (hs.2 (Tof T0 X) w b2 _ hT wI.2.2 ⟨cs, e, hh, kI wC⟩ tJ).mono ?_
 rintro e' w' ⟨vs, wa, Y, rfl, wW, hY, ⟨pB, e2, u9, tG⟩, wi, hlen, vh⟩
 rw [hd]
 have sa : ∀ {v : Value} {x : D}, Rd (Tof (Tof T0 X) Y) w' v x -> Rd (Tof T0 (fun k => X k \/ Y k)) w' v x := fun hr => hr.mono (fun k i v hk hc => ⟨hc, by
  rcases hk with (hk | hk) | hk
  ·exact .inl hk
  ·exact .inr (.inl hk)
  ·exact .inr (.inr hk)⟩)
 have r1 := r.L4 (w' := w') (X' := fun k => X k \/ Y k) (wM := wM) ho vQ wW.size (fun k hk wD => wW.block k ⟨hk, wD⟩) (fun k hk => .inl hk) (fun k hk => hk.imp id (hY k)) ⟨pB, e2, u9, tG.imp fun _ _ => sa⟩
 have lz : Yj B w w' := ⟨wW.os, wW.tape, wW.output, wW.size, fun k hk => wW.block k ⟨r.hB k hk, fun e => wI.1 (e ▸ hk)⟩⟩
 cases dp with
 | false =>
  simp only [Bool.false_eq_true, if_false] at vh
  exact hK _ _ ⟨_, _, r1.put d _ _ (Pk wi (Ut (fun _ _ _ _ _ => sa) vh))⟩ lz
 | true =>
  simp only [if_true] at vh
  obtain ⟨mh, hq⟩ := w9 rfl
  refine hK _ _ (r1.Gj mh (fun k => w.heap.size <= k /\ k < w'.heap.size /\ ¬ Y k) (fun k hk => ⟨fun hb => by have := r.hB k hb; omega, ?_, hk.2.1, fun u j hn hu => ?_⟩) qs wi hlen vh hq) lz
  ·rintro (hx | hy)
   ·have := (r.hX k hx).2; omega
   ·exact hk.2.2 hy
  ·have wu : σ.ob u j ≠ .none := by
    by_cases hc : u = t /\ j = 0
    ·obtain ⟨rfl, rfl⟩ := hc; exact wZ
    ·rw [St.XF σ t 0 _ u j wZ, if_neg hc] at hn; exact hn
   have := (r.own u j k wu hu).2.2; omega
theorem MF (r : Rel T0 B σ a w X h) {o : Oper} {cl : Call} {f : FuncId} {d : Nat} {wL : List (List D)} {wM : List D} (wA : o.op = .call cl) (hc : cl.callee = .value (.func f)) (hd : o.dst = some d) (w9 : σ.fresh d = true)
  (wH : XL P σ cl.args.toList cl.argTypes.toList wL) (wY : Zz P σ cl.args.toList cl.argTypes.toList = true) (hs : Ur P f wL wM)
  {K : Act -> World -> Prop} {Q : Exit -> Act -> World -> Prop} (hK : ∀ a' w', X7 T0 B (σ.new d (.one (.bptr d 0)) [.box (wM.map .d)]) a' w' -> Yj B w w' -> K a' w') : o.wp P a w K Q := by
 have wN := St.JF w9
 have tJ := r.XL true wH (fun _ => wY)
 simp only [if_true] at tJ
 unfold Oper.wp
 rw [xQ wA hc hs.1, Oper.upon_enter]
 refine (hs.2 (Tof T0 X) w _ (fun k i hk => r.Tlt hk) tJ).mono ?_
 rintro e' w' ⟨b, Y, rfl, vW, vQ, wo, hY, pB, e2, u9, tG⟩
 rw [hd]
 have sa : ∀ {v : Value} {x : D}, Rd (Tof (Tof T0 X) Y) w' v x -> Rd (Tof T0 (fun k => X k \/ Y k)) w' v x := fun hr => hr.mono (fun k i v hk hc => ⟨hc, by
  rcases hk with (hk | hk) | hk
  ·exact .inl hk
  ·exact .inr (.inl hk)
  ·exact .inr (.inr hk)⟩)
 have wZ : (σ.new d (.one (.bptr d 0)) [.box (wM.map .d)]).ob d 0 = .box (wM.map .d) := by rw [St.Xo]; simp [wN, Z2]
 refine hK _ _ ⟨fun k => X k \/ Y k, fun t j => if t = d then Hd.of (ptr b) else h t j, ?_⟩ (Yj.UP vW r.hB)
 refine r.new w9 (Below.grownBy vW) (fun k hk => .inl hk) (fun k hk => hk.imp id (fun hy => ⟨(hY k hy).1, (hY k hy).2.1⟩)) _ _ _ (fun _ => Hd.of (ptr b)) ⟨rfl, fun cells _ => ⟨b, by simp [Hd.of], rfl⟩⟩ (fun j => ?_) (fun j k _ hk => hk) (fun j k _ hk => ?_) (fun i j k hi hj _ _ => ?_)
 ·cases j with
  | zero => exact ⟨b, pB, e2, rfl, u9, yz (tG.imp fun _ _ => sa)⟩
  | succ j => simp [Z2, Xu]
 ·simp [Hd.of, blk] at hk; subst hk
  refine ⟨vQ, ?_, wo⟩
  rintro (hx | hy)
  ·have := (r.hX _ hx).2; omega
  ·exact (hY _ hy).2.2 rfl
 ·have hz : ∀ j, Z2 [Ob.box (wM.map .d)] j ≠ .none -> j = 0 := by
   intro j hj
   cases j with
   | zero => rfl
   | succ j => simp [Z2] at hj
  rw [hz i hi, hz j hj]
end
section
variable {P : Program} {σ : St} {k : Fr}
theorem RJ {dp : Bool} {d d' : Nat} {res : List (List D)} {qs : List Bool} (wD : d ≠ d') (wh : Yg σ d = true) : Yg (OR dp σ d' res qs) d = true := by
 cases dp with
 | false => exact IK wD wh
 | true => exact WX wD wh
attribute [simp] OR
theorem YK {f : FuncId} {fn : Func} {c : Code} (hf : P.funcs[f]? = some fn) (hb : fn.body = some c) (wb : Wi P f = true) {dp : Bool} {row : List D} {args : List (List D)} {wM : List D} {res : List (List D)}
  (hw : ∀ v, @WI P (KW fn.ntmps [] v (row.map .d) [] args) ⟨c⟩ (.fin (G4 P fn v dp wM res))) : Yr P f dp row args wM res := Rt hf hb wb (fun v => qh (hw v))
theorem XV {fn : Func} {v : Value} {dp : Bool} {wM : List D} {res : List (List D)} {rv : List ResultVar} (hf : fn.results = rv.toArray) (h : (Qo P σ rv).1 /\ σ.head? = some (.fix v (.one (.bptr 0 0)), .box (wM.map .d) :: (σ.head?.map (fun e => e.2.tail)).getD []) /\
  (if dp then Xp σ (Qo P σ rv).2 = some res /\ Xh σ (Qo P σ rv).2 /\ (YX (Qo P σ rv).2.flatten).Nodup else zh σ (Qo P σ rv).2 = some res)) : G4 P fn v dp wM res .ret σ :=
 ⟨.inl rfl, ⟨_, h.2.1⟩, _, by rw [hf]; exact kT h.1, h.2.2⟩
theorem II {f : FuncId} {fn : Func} {c : Code} (hf : P.funcs[f]? = some fn) (hb : fn.body = some c) (wb : Wi P f = true) {args : List (List D)} {wM : List D}
  (hw : @WI P (K7 fn.ntmps args) ⟨c⟩ (.fin (Gf P fn wM))) : Ur P f args wM := Ry hf hb wb (qh hw)
theorem F0 {fn : Func} {wM : List D} {rv : List ResultVar} (u : Nat) (hf : fn.results = rv.toArray) (h : (Qo P σ rv).1 /\ (Qo P σ rv).2 = [[.bptr u 0]] /\ σ.ob u 0 = .box (wM.map .d)) : Gf P fn wM .ret σ :=
 ⟨.inl rfl, u, by rw [hf, <- h.2.1]; exact kT h.1, h.2.2⟩
theorem LN {ops : Array Oper} {o : Oper} {cl : Call} {f : FuncId} {d : Nat} {x0 : Operand} {xs : List Operand} {t0 : TypeId} {ts : List TypeId} {wL res : List (List D)} {row wM : List D} {dp : Bool} {t : Nat} (qs : List Bool) (wA : o.op = .call cl) (hc : cl.callee = .value (.func f)) (tY : o.guard = none) (hd : o.dst = some d)
  (ha : cl.args.toList = x0 :: xs) (hs : Yr P f dp row wL wM res) (hg : gOf (look P σ t0 x0) = true) (hx : unc (look P σ t0 x0) = .one (.bptr t 0)) (ho : σ.ob t 0 = .box (row.map .d))
  (wH : XL P σ xs ts wL) (wY : Zz P σ xs ts = true) (w9 : dp = true -> (σ.Ze t 0 (.box (wM.map .d))).fresh d = true /\ zY qs res.flatten) : FG P ops o σ (OR dp (σ.Ze t 0 (.box (wM.map .d))) d res qs) := by
 have hm : ∀ z ∈ x0 :: xs, z ∈ o.op.operands.toList := fun z hz => by rw [wA]; exact QX (by rw [ha]; exact hz)
 refine ⟨d, t, row.map .d, wM.map .d, (cond dp (yR d res) (KK res)), (cond dp (some (Z6 qs res.flatten)) none), hd, ho, ⟨x0, xs, ⟨f, cl.argTypes, ?_⟩, t0, hx⟩, fun u => ⟨xS _, xS _⟩, fun u hu => ?_, fun hn => ?_, ?_, fun σ2 hl tV wZ ma => ?_⟩
 ·rw [wA]
  obtain ⟨c1, c2, c3⟩ := cl
  simp only at hc ha ⊢
  rw [hc, <- ha]
 ·cases dp with
  | true =>
   have hu := hu.resolve_left (by simp)
   exact ⟨RO hu res, fun l hl => by cases hl; exact Qq u qs _⟩
  | false => exact ⟨P2 u res, fun l hl => by cases hl⟩
 ·cases dp with
  | true => exact (w9 rfl).1
  | false => exact absurd rfl hn
 ·cases dp <;> rfl
 ·have wc : Sub P o.op.operands.toList σ σ2 := ⟨hl, tV, wZ⟩
  have l0 : Sub P xs σ σ2 := ⟨hl, fun z hz => tV z (hm z (by simp [hz])), fun z hz => wZ z (hm z (by simp [hz]))⟩
  have h0 := tV x0 (hm x0 (by simp)) t0
  have uy : σ2.ob t 0 = .box (row.map .d) := by
   rw [<- ho]
   exact wZ x0 (hm x0 (by simp)) t0 t (Ym hx (by simp [At.ref])) 0 (by rw [ho]; simp)
  have e : Qr t d (wM.map .d) (cond dp (yR d res) (KK res)) (cond dp (some (Z6 qs res.flatten)) none) σ2 = OR dp (σ2.Ze t 0 (.box (wM.map .d))) d res qs := by cases dp <;> rfl
  rw [e]
  refine ⟨?_, fun d' wO wh => RJ (fun e => wO (by rw [hd, e])) (QN wh)⟩
  rintro T0 B a w K Q' ⟨X, hh, r⟩ hK
  have hw : Region.wanted o (yielded ops a.tmps) = true := by simp [Region.wanted, tY]
  rw [if_pos hw]
  refine Tf r qs wA hc hd ha (by rw [<- h0]; exact hg) (by rw [<- h0]; exact hx) uy (z7 l0 wH) (by rw [zl l0]; exact wY) hs (fun lp => ⟨?_, (w9 lp).2⟩) hK
  subst lp
  exact ma (by simp)
theorem Ij {A : QV} {o : OpI} {l : JE} {cl : Call} {f : FuncId} {d : Nat} {x0 : Operand} {xs : List Operand} {t0 : TypeId} {ts : List TypeId} {wL res : List (List D)} {row wM : List D} {dp : Bool} {t : Nat} (qs : List Bool) (wA : o.o.op = .call cl) (hc : cl.callee = .value (.func f)) (tY : o.o.guard = none) (hd : o.o.dst = some d) (w6 : A.bar o.o = true)
  (ha : cl.args.toList = x0 :: xs) (iq : cl.argTypes.toList = t0 :: ts) (hs : Yr P f dp row wL wM res) (hx : gOf (look P σ t0 x0) = true /\ unc (look P σ t0 x0) = .one (.bptr t 0)) (ho : σ.ob t 0 = .box (row.map .d))
  (wH : (YP P σ xs ts).1) (wR : (YP P σ xs ts).2 = some wL) (wY : Zz P σ xs ts = true) (w9 : dp = true -> (σ.Ze t 0 (.box (wM.map .d))).fresh d = true /\ zY qs res.flatten)
  (h : @EI P (OR dp (σ.Ze t 0 (.box (wM.map .d))) d res qs) A l k) : @SI P σ A o l k := by
 refine ⟨_, .inr ⟨w6, ?_, fun d' wO wh => RJ (fun e => wO (by rw [hd, e])) (QN wh), fun hh => by simp [jQ, wA] at hh, fun hh => by first | (simp [xm, wA] at hh; done) | (unfold xm at hh; rw [wA] at hh; split at hh <;> simp_all), fun _ _ => LN qs wA hc tY hd ha hs hx.1 hx.2 ho (zc wH wR) wY w9⟩, X4 h⟩
 rintro T0 B a w K Q' ⟨X, hh, r⟩ hK
 have hw : Region.wanted o.o (yielded A.ops a.tmps) = true := by simp [Region.wanted, tY]
 rw [if_pos hw]
 exact Tf r qs wA hc hd ha hx.1 hx.2 ho (zc wH wR) wY hs w9 hK
theorem FQ {A : QV} {o : OpI} {l : JE} {cl : Call} {f : FuncId} {d : Nat} {wL : List (List D)} {wM : List D} (wA : o.o.op = .call cl) (hc : cl.callee = .value (.func f)) (tY : o.o.guard = none) (hd : o.o.dst = some d) (w6 : A.bar o.o = true) (hs : Ur P f wL wM)
  (wH : (YP P σ cl.args.toList cl.argTypes.toList).1) (wR : (YP P σ cl.args.toList cl.argTypes.toList).2 = some wL) (wY : Zz P σ cl.args.toList cl.argTypes.toList = true) (w9 : σ.fresh d = true)
  (h : @EI P (σ.new d (.one (.bptr d 0)) [.box (wM.map .d)]) A l k) (uq : JJ P o.o = false := by exact rfl) : @SI P σ A o l k := by
 refine ⟨_, .inr ⟨w6, ?_, fun d' wO wh => WX (fun e => wO (by rw [hd, e])) wh, fun hh => by simp [jQ, wA] at hh, fun hh => by first | (simp [xm, wA] at hh; done) | (unfold xm at hh; rw [wA] at hh; split at hh <;> simp_all), fun hh _ => by rw [uq] at hh; cases hh⟩, X4 h⟩
 rintro T0 B a w K Q' ⟨X, hh, r⟩ hK
 have hw : Region.wanted o.o (yielded A.ops a.tmps) = true := by simp [Region.wanted, tY]
 rw [if_pos hw]
 exact MF r wA hc hd w9 (zc wH wR) wY hs hK
end
end Go.Vm
namespace Go.Vm
open Go.RowKit
def FW (n : Nat) (sz : Nat) (rows : List (List D)) (args : List (List D)) : St := (.one (.sref 0 0 0 rows.length), [.arr false sz rows]) :: (VF args ++ List.replicate (n - (args.length + 1)) (V.any, []))
def At.isO (u : Nat) : At -> Bool
 | .sref t _ _ _ => t == u
 | .ptr t _ _ _ => t == u
 | .tref t _ _ _ _ => t == u
 | _ => false
section
variable {P : Program} {T0 : CS} {B : Nat -> Prop} {σ : St} {a : Act} {w w' : World} {X X' : Nat -> Prop} {h : Nat -> Nat -> Hd}
end
end Go.Vm
namespace Go.Vm
open Go.RowKit
section
variable {P : Program} {T0 : CS} {B : Nat -> Prop} {σ : St} {a : Act} {w w' : World} {X X' : Nat -> Prop} {h : Nat -> Nat -> Hd}
end
section
variable {P : Program} {σ : St} {k : Fr}
end
attribute [simp] KW FW At.isO
end Go.Vm
namespace Go.Vm
open Go.RowKit
section
variable {P : Program} {σ : St} {k : Fr}
end
end Go.Vm
namespace Go.Vm
open Go.RowKit
section
variable {P : Program} {σ : St} {k : Fr}
theorem cR {A : QV} {o : OpI} {l : JE} {c : Call} {f : FuncId} {d : Nat} {own : Bool} {rows res : List (List D)} (hs : XP P f own rows res) (h : @EI P (σ.put d (KK res)) A l k) (wA : o.o.op = .call c := by exact rfl) (hc : c.callee = .value (.func f) := by exact rfl) (hg : o.o.guard = none := by exact rfl) (hd : o.o.dst = some d := by exact rfl)
  (wR : (YP P σ c.args.toList c.argTypes.toList).2 = some rows := by simp) (wH : (YP P σ c.args.toList c.argTypes.toList).1 := by simp) (wY : Zz P σ c.args.toList c.argTypes.toList = true \/ QH own res := by simp) : @SI P σ A o l k :=
 SM wA hc hg hd hs wR wH wY h
end
section
variable {P : Program} {σ : St} {k : Fr}
end
@[simp] abbrev eI (t : Nat) (n : Int) : Nat × V × List Ob := (t, .one (.d (.int .i64 n)), [])
@[simp] abbrev eB (t : Nat) (b : Bool) : Nat × V × List Ob := (t, .one (.d (.bool b)), [])
@[simp] abbrev eL {α : Type} (t s : Nat) (l : List α) (f : α -> List D) : Nat × V × List Ob := (t, .one (.d (.sl s (l.map f))), [])
@[simp] abbrev eP (t u c : Nat) : Nat × V × List Ob := (t, .one (.bptr u c), [])
@[simp] abbrev eG (t : Nat) (xs : List At) : Nat × V × List Ob := (t, .agg xs, [])
@[simp] abbrev eX (t : Nat) (xs : List At) : Nat × V × List Ob := (t, .one (.bptr t 0), [.box xs])
end Go.Vm
namespace Go.Vm
open Go.RowKit
structure Me {α : Type} (x y : α) : Prop where
 h : x = y
structure Bx (p : Prop) : Prop where
 h : p
theorem me {α : Type} {x y : α} (h : x = y) : Me x y := ⟨h⟩
theorem ms {α β : Type} {x y y' : α} {l r : β} (f : Me x y) (e : Me l r) (h : l = r -> y = y' := by intro e; simp only [e]; exact rfl) : Me x y' := ⟨f.h.trans (h e.h)⟩
theorem an {p q : Prop} (h : p) (k : q) : p /\ q := ⟨h, k⟩
theorem ix {α : Type} {v : Nat} {l : List α} (h : decide ((v : Int) < (l.length : Int)) = true) : v < l.length := by simpa using h
theorem ml {α : Type} {q : Prop} (l : List α) (m : q) (h : q -> l.length <= 9223372036854775807 := by intro m; simpa using m) : l.length <= 9223372036854775807 := h m
theorem wr (n : Nat) (h : (n : Int) + 1 <= 9223372036854775807 := by first | omega | (simp only [decide_eq_true_eq, decide_eq_false_iff_not, beq_iff_eq, beq_eq_false_iff_ne, bne_iff_ne, ne_eq, Bool.or_eq_false_iff, Bool.or_eq_true, Bool.and_eq_true, Bool.not_eq_true', Bool.not_eq_false'] at *; omega)) : IntKind.i64.wrap ((n : Int) + 1) = (n : Int) + 1 := Yi (by omega) (by omega)
section
variable {P : Program} {σ : St} {k : Fr}
theorem so {f : FuncId} {fn : Func} {n : Nat} {own : Bool} {args res : List (List D)} {p : Prop} (hf : P.funcs[f]? = some fn) (hn : fn.ntmps = n) (h : p) {c : Code} (hb : fn.body = some c := by exact rfl) (wb : Wi P f = true := by kernel_rfl)
  (kk : Bx p -> @WI P (K7 n args) ⟨c⟩ (.fin (IY P fn own res)) := by (intro z; simp; (repeat (with_reducible refine Go.Mo.sd ?_)); exact z.h)) : XP P f own args res := HZ hf hb wb (by rw [hn]; exact kk ⟨h⟩)
theorem soD {f : FuncId} {fn : Func} {n : Nat} {args res : List (List D)} {p : Prop} (hf : P.funcs[f]? = some fn) (hn : fn.ntmps = n) (h : p) {c : Code} (hb : fn.body = some c := by exact rfl) (wb : Wi P f = true := by kernel_rfl)
  (kk : Bx p -> @WI P (K7 n args) ⟨c⟩ (.fin (HL P fn res)) := by (intro z; simp; (repeat (with_reducible refine Go.Mo.sd ?_)); exact z.h)) : YC P f args res := IG hf hb wb (by rw [hn]; exact kk ⟨h⟩)
theorem cF {α : Type} {u y z : α} {b c : Bool} {xc yc : KP} {p q : Prop} (f : Me u (bif c then y else z)) (ht : jA σ -> c = true -> Me u y -> p) (hf : jA σ -> c = false -> Me u z -> q) (hc : c = b := by simp) (kt : Bx p -> @WI P σ xc k := by (intro z; simp; (repeat (with_reducible refine Go.Mo.sd ?_)); exact z.h)) (kf : Bx q -> @WI P σ yc k := by (intro z; simp; (repeat (with_reducible refine Go.Mo.sd ?_)); exact z.h)) : @CI P b σ xc yc k :=
 Ph hc (fun s h => kt ⟨(ht s h ⟨f.h.trans (by rw [h]; rfl)⟩)⟩) (fun s h => kf ⟨(hf s h ⟨f.h.trans (by rw [h]; rfl)⟩)⟩)
theorem cFt {α : Type} {u y z : α} {b c : Bool} {xc yc : KP} {p : Prop} (f : Me u (bif c then y else z)) (ht : jA σ -> c = true -> Me u y -> p) (hf : jA σ -> c = false -> Me u z -> @WI P σ yc k) (hc : c = b := by simp) (kt : Bx p -> @WI P σ xc k := by (intro z; simp; (repeat (with_reducible refine Go.Mo.sd ?_)); exact z.h)) : @CI P b σ xc yc k :=
 Ph hc (fun s h => kt ⟨(ht s h ⟨f.h.trans (by rw [h]; rfl)⟩)⟩) (fun s h => (hf s h ⟨f.h.trans (by rw [h]; rfl)⟩))
theorem cFf {α : Type} {u y z : α} {b c : Bool} {xc yc : KP} {q : Prop} (f : Me u (bif c then y else z)) (ht : jA σ -> c = true -> Me u y -> @WI P σ xc k) (hf : jA σ -> c = false -> Me u z -> q) (hc : c = b := by simp) (kf : Bx q -> @WI P σ yc k := by (intro z; simp; (repeat (with_reducible refine Go.Mo.sd ?_)); exact z.h)) : @CI P b σ xc yc k :=
 Ph hc (fun s h => (ht s h ⟨f.h.trans (by rw [h]; rfl)⟩)) (fun s h => kf ⟨(hf s h ⟨f.h.trans (by rw [h]; rfl)⟩)⟩)
theorem cFo {α : Type} {u y z : α} {b c : Bool} {xc yc : KP} (f : Me u (bif c then y else z)) (ht : jA σ -> c = true -> Me u y -> @WI P σ xc k) (hf : jA σ -> c = false -> Me u z -> @WI P σ yc k) (hc : c = b := by simp) : @CI P b σ xc yc k :=
 Ph hc (fun s h => (ht s h ⟨f.h.trans (by rw [h]; rfl)⟩)) (fun s h => (hf s h ⟨f.h.trans (by rw [h]; rfl)⟩))
theorem cK {α : Type} {u y z : α} {b c : Bool} {xc yc : KP} {p q : Prop} (f : Me u (bif c then y else z)) (ht : jA σ -> c = true -> Me u y -> p) (hf : jA σ -> c = false -> Me u z -> q) (hc : c = b := by first | (simp [G]; done) | grind) (kt : Bx p -> @WI P σ xc k := by (intro z; simp [G, Go.Vm.ZC]; (repeat (with_reducible refine Go.Mo.sdg ?_)); exact z.h)) (kf : Bx q -> @WI P σ yc k := by (intro z; simp [G, Go.Vm.ZC]; (repeat (with_reducible refine Go.Mo.sdg ?_)); exact z.h)) : @CI P b σ xc yc k :=
 Ph hc (fun s h => kt ⟨(ht s h ⟨f.h.trans (by rw [h]; rfl)⟩)⟩) (fun s h => kf ⟨(hf s h ⟨f.h.trans (by rw [h]; rfl)⟩)⟩)
theorem cKo {α : Type} {u y z : α} {b c : Bool} {xc yc : KP} (f : Me u (bif c then y else z)) (ht : jA σ -> c = true -> Me u y -> @WI P σ xc k) (hf : jA σ -> c = false -> Me u z -> @WI P σ yc k) (hc : c = b := by first | (simp [G]; done) | grind) : @CI P b σ xc yc k :=
 Ph hc (fun s h => (ht s h ⟨f.h.trans (by rw [h]; rfl)⟩)) (fun s h => (hf s h ⟨f.h.trans (by rw [h]; rfl)⟩))
theorem cRg {A : QV} {o : OpI} {l : JE} {c : Call} {f : FuncId} {d : Nat} {own : Bool} {rows res : List (List D)} {p : Prop} (hs : XP P f own rows res) (h : p) (wA : o.o.op = .call c := by exact rfl) (hc : c.callee = .value (.func f) := by exact rfl) (hg : o.o.guard = none := by exact rfl) (hd : o.o.dst = some d := by exact rfl) (wR : (YP P σ c.args.toList c.argTypes.toList).2 = some rows := by simp) (wH : (YP P σ c.args.toList c.argTypes.toList).1 := by simp) (wY : Zz P σ c.args.toList c.argTypes.toList = true \/ QH own res := by simp) (kk : Bx p -> @EI P (σ.put d (KK res)) A l k := by (intro z; simp [G, Go.Vm.ZC]; (repeat (with_reducible refine Go.Mo.sdg ?_)); exact z.h)) : @SI P σ A o l k := SM wA hc hg hd hs wR wH wY (kk ⟨h⟩)
theorem cRs {A : QV} {o : OpI} {l : JE} {c : Call} {f : FuncId} {d : Nat} {own : Bool} {rows res : List (List D)} {p : Prop} (hs : XP P f own rows res) (h : p) (wA : o.o.op = .call c := by exact rfl) (hc : c.callee = .value (.func f) := by exact rfl) (hg : o.o.guard = none := by exact rfl) (hd : o.o.dst = some d := by exact rfl) (wR : (YP P σ c.args.toList c.argTypes.toList).2 = some rows := by simp) (wH : (YP P σ c.args.toList c.argTypes.toList).1 := by simp) (wY : Zz P σ c.args.toList c.argTypes.toList = true \/ QH own res := by simp) (kk : Bx p -> @EI P (σ.put d (KK res)) A l k := by (intro z; simp; (repeat (with_reducible refine Go.Mo.sd ?_)); exact z.h)) : @SI P σ A o l k := SM wA hc hg hd hs wR wH wY (kk ⟨h⟩)
theorem cRf {A : QV} {o : OpI} {l : JE} {c : Call} {f : FuncId} {d : Nat} {own : Bool} {rows res : List (List D)} {p q : Prop} (F : q) (hs : XP P f own rows res) (h : p) (wA : o.o.op = .call c := by exact rfl) (hc : c.callee = .value (.func f) := by exact rfl) (hg : o.o.guard = none := by exact rfl) (hd : o.o.dst = some d := by exact rfl) (wR : (YP P σ c.args.toList c.argTypes.toList).2 = some rows := by simp) (wH : (YP P σ c.args.toList c.argTypes.toList).1 := by simp) (wY : Zz P σ c.args.toList c.argTypes.toList = true \/ QH own res := by simp) (kk : q -> Bx p -> @EI P (σ.put d (KK res)) A l k := by (intro F z; simp [F, Go.Vm.ZC]; (repeat (with_reducible refine Go.Mo.sd ?_)); exact z.h)) : @SI P σ A o l k := SM wA hc hg hd hs wR wH wY (kk F ⟨h⟩)
theorem cDg {A : QV} {o : OpI} {l : JE} {c : Call} {f : FuncId} {d : Nat} {rows res : List (List D)} {p : Prop} (qs : List Bool) (hs : YC P f rows res) (h : p) (wA : o.o.op = .call c := by exact rfl) (hc : c.callee = .value (.func f) := by exact rfl) (hg : o.o.guard = none := by exact rfl) (hd : o.o.dst = some d := by exact rfl) (wR : (YP P σ c.args.toList c.argTypes.toList).2 = some rows := by simp) (wH : (YP P σ c.args.toList c.argTypes.toList).1 := by simp) (hq : zY qs res.flatten := by simp) (hf : σ.fresh d = true := by simp) (kk : Bx p -> @EI P (σ.new d (yR d res) (Z6 qs res.flatten)) A l k := by (intro z; simp [G, Go.Vm.ZC]; (repeat (with_reducible refine Go.Mo.sdg ?_)); exact z.h)) : @SI P σ A o l k := HQ qs wA hc hg hd hs wR wH hq hf (kk ⟨h⟩)
theorem cDs {A : QV} {o : OpI} {l : JE} {c : Call} {f : FuncId} {d : Nat} {rows res : List (List D)} {p : Prop} (qs : List Bool) (hs : YC P f rows res) (h : p) (wA : o.o.op = .call c := by exact rfl) (hc : c.callee = .value (.func f) := by exact rfl) (hg : o.o.guard = none := by exact rfl) (hd : o.o.dst = some d := by exact rfl) (wR : (YP P σ c.args.toList c.argTypes.toList).2 = some rows := by simp) (wH : (YP P σ c.args.toList c.argTypes.toList).1 := by simp) (hq : zY qs res.flatten := by simp) (hf : σ.fresh d = true := by simp) (kk : Bx p -> @EI P (σ.new d (yR d res) (Z6 qs res.flatten)) A l k := by (intro z; simp; (repeat (with_reducible refine Go.Mo.sd ?_)); exact z.h)) : @SI P σ A o l k := HQ qs wA hc hg hd hs wR wH hq hf (kk ⟨h⟩)
theorem cGo {A : QV} {o : OpI} {l : JE} {c : Call} {f : FuncId} {d : Nat} {j dj : Nat} {want g own : Bool} {rows : List (List D)} {res : List D} (hs : g = true -> XP P f own rows [res]) (h : @EI P (σ.put d (.cnd g (KK [res]))) A l k) (wA : o.o.op = .call c := by exact rfl) (hc : c.callee = .value (.func f) := by exact rfl) (hg : o.o.guard = some (j, want) := by exact rfl) (hd : o.o.dst = some d := by exact rfl) (vY : (A.ops[j]?).bind (·.dst) = some dj := by exact rfl) (vf : Ks want (σ.get dj) = some g := by exact rfl) (wR : (YP P σ c.args.toList c.argTypes.toList).2 = some rows := by first | (simp; done) | (simp [G]; done) | (simp [G]; omega) | (simp_all; done)) (wN : dj < σ.length := by first | (simp; done) | (simp [G]; done) | (simp [G]; omega) | (simp_all; done)) (wH : g = true -> (YP P σ c.args.toList c.argTypes.toList).1 := by first | (simp; done) | (simp [G]; done) | (simp [G]; omega) | (simp_all; done)) (wY : Zz P σ c.args.toList c.argTypes.toList = true \/ QH own [res] := by first | (simp; done) | (simp [G]; done) | (simp [G]; omega) | (simp_all; done)) : @SI P σ A o l k := OT wA hc hg hd vY vf hs wR wN wH wY h
theorem cGg {A : QV} {o : OpI} {l : JE} {c : Call} {f : FuncId} {d : Nat} {j dj : Nat} {want g own : Bool} {rows : List (List D)} {res : List D} {p : Prop} (hs : g = true -> XP P f own rows [res]) (h : p) (wA : o.o.op = .call c := by exact rfl) (hc : c.callee = .value (.func f) := by exact rfl) (hg : o.o.guard = some (j, want) := by exact rfl) (hd : o.o.dst = some d := by exact rfl) (vY : (A.ops[j]?).bind (·.dst) = some dj := by exact rfl) (vf : Ks want (σ.get dj) = some g := by exact rfl) (wR : (YP P σ c.args.toList c.argTypes.toList).2 = some rows := by first | (simp; done) | (simp [G]; done) | (simp [G]; omega) | (simp_all; done)) (wN : dj < σ.length := by first | (simp; done) | (simp [G]; done) | (simp [G]; omega) | (simp_all; done)) (wH : g = true -> (YP P σ c.args.toList c.argTypes.toList).1 := by first | (simp; done) | (simp [G]; done) | (simp [G]; omega) | (simp_all; done)) (wY : Zz P σ c.args.toList c.argTypes.toList = true \/ QH own [res] := by first | (simp; done) | (simp [G]; done) | (simp [G]; omega) | (simp_all; done)) (kk : Bx p -> @EI P (σ.put d (.cnd g (KK [res]))) A l k := by (intro z; simp [G, Go.Vm.ZC]; (repeat (with_reducible refine Go.Mo.sdg ?_)); exact z.h)) : @SI P σ A o l k := OT wA hc hg hd vY vf hs wR wN wH wY (kk ⟨h⟩)
theorem cGs {A : QV} {o : OpI} {l : JE} {c : Call} {f : FuncId} {d : Nat} {j dj : Nat} {want g own : Bool} {rows : List (List D)} {res : List D} {p : Prop} (hs : g = true -> XP P f own rows [res]) (h : p) (wA : o.o.op = .call c := by exact rfl) (hc : c.callee = .value (.func f) := by exact rfl) (hg : o.o.guard = some (j, want) := by exact rfl) (hd : o.o.dst = some d := by exact rfl) (vY : (A.ops[j]?).bind (·.dst) = some dj := by exact rfl) (vf : Ks want (σ.get dj) = some g := by exact rfl) (wR : (YP P σ c.args.toList c.argTypes.toList).2 = some rows := by simp) (wN : dj < σ.length := by simp) (wH : g = true -> (YP P σ c.args.toList c.argTypes.toList).1 := by simp) (wY : Zz P σ c.args.toList c.argTypes.toList = true \/ QH own [res] := by simp) (kk : Bx p -> @EI P (σ.put d (.cnd g (KK [res]))) A l k := by (intro z; simp; (repeat (with_reducible refine Go.Mo.sd ?_)); exact z.h)) : @SI P σ A o l k := OT wA hc hg hd vY vf hs wR wN wH wY (kk ⟨h⟩)
theorem cBo {A : QV} {o : OpI} {l : JE} {cl : Call} {f : FuncId} {d : Nat} {x0 : Operand} {xs : List Operand} {t0 : TypeId} {ts : List TypeId} {wL res : List (List D)} {row wM : List D} {dp : Bool} {t : Nat} (qs : List Bool) (hs : Yr P f dp row wL wM res) (h : @EI P (OR dp (σ.Ze t 0 (.box (wM.map .d))) d res qs) A l k) (wA : o.o.op = .call cl := by exact rfl) (hc : cl.callee = .value (.func f) := by exact rfl) (tY : o.o.guard = none := by exact rfl) (hd : o.o.dst = some d := by exact rfl) (w6 : A.bar o.o = true := by exact rfl) (ha : cl.args.toList = x0 :: xs := by exact rfl) (uU : cl.argTypes.toList = t0 :: ts := by exact rfl) (hx : gOf (look P σ t0 x0) = true /\ unc (look P σ t0 x0) = .one (.bptr t 0) := by exact ⟨rfl, rfl⟩) (ho : σ.ob t 0 = .box (row.map .d) := by simp) (wH : (YP P σ xs ts).1 := by simp) (wR : (YP P σ xs ts).2 = some wL := by simp) (wY : Zz P σ xs ts = true := by simp) (w9 : dp = true -> (σ.Ze t 0 (.box (wM.map .d))).fresh d = true /\ zY qs res.flatten := by simp) : @SI P σ A o l k := Ij qs wA hc tY hd w6 ha uU hs hx ho wH wR wY w9 h
theorem cBs {A : QV} {o : OpI} {l : JE} {cl : Call} {f : FuncId} {d : Nat} {x0 : Operand} {xs : List Operand} {t0 : TypeId} {ts : List TypeId} {wL res : List (List D)} {row wM : List D} {dp : Bool} {t : Nat} {p : Prop} (qs : List Bool) (hs : Yr P f dp row wL wM res) (h : p) (wA : o.o.op = .call cl := by exact rfl) (hc : cl.callee = .value (.func f) := by exact rfl) (tY : o.o.guard = none := by exact rfl) (hd : o.o.dst = some d := by exact rfl) (w6 : A.bar o.o = true := by exact rfl) (ha : cl.args.toList = x0 :: xs := by exact rfl) (uU : cl.argTypes.toList = t0 :: ts := by exact rfl) (hx : gOf (look P σ t0 x0) = true /\ unc (look P σ t0 x0) = .one (.bptr t 0) := by exact ⟨rfl, rfl⟩) (ho : σ.ob t 0 = .box (row.map .d) := by simp) (wH : (YP P σ xs ts).1 := by simp) (wR : (YP P σ xs ts).2 = some wL := by simp) (wY : Zz P σ xs ts = true := by simp) (w9 : dp = true -> (σ.Ze t 0 (.box (wM.map .d))).fresh d = true /\ zY qs res.flatten := by simp) (kk : Bx p -> @EI P (OR dp (σ.Ze t 0 (.box (wM.map .d))) d res qs) A l k := by (intro z; simp; (repeat (with_reducible refine Go.Mo.sd ?_)); exact z.h)) : @SI P σ A o l k := Ij qs wA hc tY hd w6 ha uU hs hx ho wH wR wY w9 (kk ⟨h⟩)
theorem cBf {A : QV} {o : OpI} {l : JE} {cl : Call} {f : FuncId} {d : Nat} {x0 : Operand} {xs : List Operand} {t0 : TypeId} {ts : List TypeId} {wL res : List (List D)} {row wM : List D} {dp : Bool} {t : Nat} {p q : Prop} (F : q) (qs : List Bool) (hs : Yr P f dp row wL wM res) (h : p) (wA : o.o.op = .call cl := by exact rfl) (hc : cl.callee = .value (.func f) := by exact rfl) (tY : o.o.guard = none := by exact rfl) (hd : o.o.dst = some d := by exact rfl) (w6 : A.bar o.o = true := by exact rfl) (ha : cl.args.toList = x0 :: xs := by exact rfl) (uU : cl.argTypes.toList = t0 :: ts := by exact rfl) (hx : gOf (look P σ t0 x0) = true /\ unc (look P σ t0 x0) = .one (.bptr t 0) := by exact ⟨rfl, rfl⟩) (ho : σ.ob t 0 = .box (row.map .d) := by simp) (wH : (YP P σ xs ts).1 := by simp) (wR : (YP P σ xs ts).2 = some wL := by simp) (wY : Zz P σ xs ts = true := by simp) (w9 : dp = true -> (σ.Ze t 0 (.box (wM.map .d))).fresh d = true /\ zY qs res.flatten := by simp) (kk : q -> Bx p -> @EI P (OR dp (σ.Ze t 0 (.box (wM.map .d))) d res qs) A l k := by (intro F z; simp [F, Go.Vm.ZC]; (repeat (with_reducible refine Go.Mo.sd ?_)); exact z.h)) : @SI P σ A o l k := Ij qs wA hc tY hd w6 ha uU hs hx ho wH wR wY w9 (kk F ⟨h⟩)
theorem cNs {A : QV} {o : OpI} {l : JE} {cl : Call} {f : FuncId} {d : Nat} {wL : List (List D)} {wM : List D} {p : Prop} (hs : Ur P f wL wM) (h : p) (wA : o.o.op = .call cl := by exact rfl) (hc : cl.callee = .value (.func f) := by exact rfl) (tY : o.o.guard = none := by exact rfl) (hd : o.o.dst = some d := by exact rfl) (w6 : A.bar o.o = true := by exact rfl) (wH : (YP P σ cl.args.toList cl.argTypes.toList).1 := by simp) (wR : (YP P σ cl.args.toList cl.argTypes.toList).2 = some wL := by simp) (wY : Zz P σ cl.args.toList cl.argTypes.toList = true := by simp) (w9 : σ.fresh d = true := by simp) (uq : JJ P o.o = false := by exact rfl) (kk : Bx p -> @EI P (σ.new d (.one (.bptr d 0)) [.box (wM.map .d)]) A l k := by (intro z; simp; (repeat (with_reducible refine Go.Mo.sd ?_)); exact z.h)) : @SI P σ A o l k := FQ wA hc tY hd w6 hs wH wR wY w9 (kk ⟨h⟩) uq
theorem dIo {id : Nat} {l : List Oper} {br : Oper -> Bool} (hm : P.follows .mixedOrders = true) (h : @EI P σ ⟨⟨l⟩, fun _ => false⟩ ⟨l⟩ k) (hdr : Te P ⟨l⟩ (fun i => i) (fun _ => false) = true := by kernel_rfl) (wh : JY ⟨l⟩ (fun i => i) σ = true := by kernel_rfl) : @DI P id σ ⟨⟨l⟩, br⟩ k := GR hm hdr wh h
theorem dIs {id : Nat} {l : List Oper} {br : Oper -> Bool} {p : Prop} (hm : P.follows .mixedOrders = true) (h : p) (hdr : Te P ⟨l⟩ (fun i => i) (fun _ => false) = true := by kernel_rfl) (wh : JY ⟨l⟩ (fun i => i) σ = true := by kernel_rfl) (kk : Bx p -> @EI P σ ⟨⟨l⟩, fun _ => false⟩ ⟨l⟩ k := by (intro z; simp; (repeat (with_reducible refine Go.Mo.sd ?_)); exact z.h)) : @DI P id σ ⟨⟨l⟩, br⟩ k := GR hm hdr wh (kk ⟨h⟩)
theorem eIs {A : QV} {o : OpI} {l : JE} {d : Nat} {p : Prop}  (h : p) (hp : OA o.o = true := by exact rfl) (hg : o.o.guard = none := by exact rfl) (hd : o.o.dst = some d := by exact rfl) (kk : Bx p -> (evS P σ o.o d).1 /\ @EI P (evS P σ o.o d).2 A l k := by (intro z; simp; (repeat (with_reducible refine Go.Mo.sd ?_)); exact z.h)) : @SI P σ A o l k := evI hp hg hd (kk ⟨h⟩)
theorem sGo {A : QV} {o : OpI} {l : JE} {j dj d : Nat} {want g : Bool}  (h : @EI P (σ.put d (.cnd false .any)) A l k) (hg : o.o.guard = some (j, want) := by exact rfl) (hd : o.o.dst = some d := by exact rfl) (vY : (A.ops[j]?).bind (·.dst) = some dj := by exact rfl) (vf : Ks want (σ.get dj) = some g := by exact rfl) (wN : dj < σ.length := by simp) (ox : g = false := by simp [G]) : @SI P σ A o l k := GV hg hd vY vf wN ox h
theorem sGg {A : QV} {o : OpI} {l : JE} {j dj d : Nat} {want g : Bool} {p : Prop}  (h : p) (hg : o.o.guard = some (j, want) := by exact rfl) (hd : o.o.dst = some d := by exact rfl) (vY : (A.ops[j]?).bind (·.dst) = some dj := by exact rfl) (vf : Ks want (σ.get dj) = some g := by exact rfl) (wN : dj < σ.length := by simp) (ox : g = false := by simp [G]) (kk : Bx p -> @EI P (σ.put d (.cnd false .any)) A l k := by (intro z; simp [G, Go.Vm.ZC]; (repeat (with_reducible refine Go.Mo.sdg ?_)); exact z.h)) : @SI P σ A o l k := GV hg hd vY vf wN ox (kk ⟨h⟩)
theorem gIf {A : QV} {o : OpI} {l : JE} {j dj d : Nat} {want g : Bool} {r1 r2 : Prop} {q : Prop} (ht : r1 -> ((evV P σ o.o.op o.o.type).1 /\ gOf (evV P σ o.o.op o.o.type).2 = true /\ (unc (evV P σ o.o.op o.o.type).2).flat = true) /\ @EI P (σ.put d (.cnd true (unc (evV P σ o.o.op o.o.type).2))) A l k) (hf : r2 -> q) (wA : Su o.o.op = false := by exact rfl) (hg : o.o.guard = some (j, want) := by exact rfl) (hd : o.o.dst = some d := by exact rfl) (vY : (A.ops[j]?).bind (·.dst) = some dj := by exact rfl) (vf : Ks want (σ.get dj) = some g := by exact rfl) (wN : dj < σ.length := by simp) (k1 : g = true -> r1 := by (intro h; (try simp only [beq_true, beq_false, Bool.not_eq_true', Bool.not_eq_false', Bool.true_and, Bool.and_true] at h); exact h)) (k2 : g = false -> r2 := by (intro h; (try simp only [beq_true, beq_false, Bool.not_eq_true', Bool.not_eq_false', Bool.true_and, Bool.and_true] at h); exact h)) (kf : r2 -> Bx q -> @EI P (σ.put d (.cnd false .any)) A l k := by (intro G z; simp [G, Go.Vm.ZC]; (repeat (with_reducible refine Go.Mo.sdg ?_)); exact z.h)) : @SI P σ A o l k := NG wA hg hd vY vf wN (fun h => ht (k1 h)) (fun h => (fun G => kf G ⟨hf G⟩) (k2 h))
theorem gIo {A : QV} {o : OpI} {l : JE} {j dj d : Nat} {want g : Bool} {r1 r2 : Prop} (ht : r1 -> ((evV P σ o.o.op o.o.type).1 /\ gOf (evV P σ o.o.op o.o.type).2 = true /\ (unc (evV P σ o.o.op o.o.type).2).flat = true) /\ @EI P (σ.put d (.cnd true (unc (evV P σ o.o.op o.o.type).2))) A l k) (hf : r2 -> @EI P (σ.put d (.cnd false .any)) A l k) (wA : Su o.o.op = false := by exact rfl) (hg : o.o.guard = some (j, want) := by exact rfl) (hd : o.o.dst = some d := by exact rfl) (vY : (A.ops[j]?).bind (·.dst) = some dj := by exact rfl) (vf : Ks want (σ.get dj) = some g := by exact rfl) (wN : dj < σ.length := by simp) (k1 : g = true -> r1 := by (intro h; (try simp only [beq_true, beq_false, Bool.not_eq_true', Bool.not_eq_false', Bool.true_and, Bool.and_true] at h); exact h)) (k2 : g = false -> r2 := by (intro h; (try simp only [beq_true, beq_false, Bool.not_eq_true', Bool.not_eq_false', Bool.true_and, Bool.and_true] at h); exact h)) : @SI P σ A o l k := NG wA hg hd vY vf wN (fun h => ht (k1 h)) (fun h => hf (k2 h))
theorem gJf {A : QV} {o : OpI} {l : JE} {j dj d : Nat} {want g : Bool} {r1 r2 s : Prop} {q : Prop} (G : s) (ht : s /\ r1 -> ((evV P σ o.o.op o.o.type).1 /\ gOf (evV P σ o.o.op o.o.type).2 = true /\ (unc (evV P σ o.o.op o.o.type).2).flat = true) /\ @EI P (σ.put d (.cnd true (unc (evV P σ o.o.op o.o.type).2))) A l k) (hf : s /\ r2 -> q) (wA : Su o.o.op = false := by exact rfl) (hg : o.o.guard = some (j, want) := by exact rfl) (hd : o.o.dst = some d := by exact rfl) (vY : (A.ops[j]?).bind (·.dst) = some dj := by exact rfl) (vf : Ks want (σ.get dj) = some g := by exact rfl) (wN : dj < σ.length := by simp) (k1 : g = true -> r1 := by (intro h; (try simp only [beq_true, beq_false, Bool.not_eq_true', Bool.not_eq_false', Bool.true_and, Bool.and_true] at h); exact h)) (k2 : g = false -> r2 := by (intro h; (try simp only [beq_true, beq_false, Bool.not_eq_true', Bool.not_eq_false', Bool.true_and, Bool.and_true] at h); exact h)) (kf : s /\ r2 -> Bx q -> @EI P (σ.put d (.cnd false .any)) A l k := by (intro G z; simp [G, Go.Vm.ZC]; (repeat (with_reducible refine Go.Mo.sdg ?_)); exact z.h)) : @SI P σ A o l k := NG wA hg hd vY vf wN (fun h => ht ⟨G, k1 h⟩) (fun h => (fun G => kf G ⟨hf G⟩) ⟨G, k2 h⟩)
theorem gK {A : QV} {o : OpI} {l : JE} {j dj d : Nat} {want g : Bool} {r1 : Prop} (ht : r1 -> ((evV P σ o.o.op o.o.type).1 /\ gOf (evV P σ o.o.op o.o.type).2 = true /\ (unc (evV P σ o.o.op o.o.type).2).flat = true) /\ @EI P (σ.put d (.cnd true (unc (evV P σ o.o.op o.o.type).2))) A l k) (wA : Su o.o.op = false := by exact rfl) (hg : o.o.guard = some (j, want) := by exact rfl) (hd : o.o.dst = some d := by exact rfl) (vY : (A.ops[j]?).bind (·.dst) = some dj := by exact rfl) (vf : Ks want (σ.get dj) = some g := by exact rfl) (wN : dj < σ.length := by simp) (k1 : g = true -> r1 := by (intro h; (try simp only [beq_true, beq_false, Bool.not_eq_true', Bool.not_eq_false', Bool.true_and, Bool.and_true] at h); exact h)) (k2 : g = false -> False := by first | (intro g0; simp at g0; done) | (intro g0; simp [G] at g0; done)) : @SI P σ A o l k := NG wA hg hd vY vf wN (fun h => ht (k1 h)) (fun h => (k2 h).elim)
theorem rt {α : Type} {x y : α} {fn : Func} {res : List (List D)} (rv : List ResultVar) (f : Me x y) (hf : fn.results = rv.toArray := by exact rfl) (h : x = y -> (Qo P σ rv).1 /\ zh σ (Qo P σ rv).2 = some res := by (intro f; simp [f])) : IY P fn false res .ret σ := GP hf (h f.h)
theorem rtg {α : Type} {x y : α} {fn : Func} {res : List (List D)} (rv : List ResultVar) (f : Me x y) (hf : fn.results = rv.toArray := by exact rfl) (h : x = y -> (Qo P σ rv).1 /\ zh σ (Qo P σ rv).2 = some res := by (intro f; simp [f, G])) : IY P fn false res .ret σ := GP hf (h f.h)
theorem rtD {α : Type} {x y : α} {fn : Func} {res : List (List D)} (rv : List ResultVar) (f : Me x y) (hf : fn.results = rv.toArray := by exact rfl) (h : x = y -> (Qo P σ rv).1 /\ Xp σ (Qo P σ rv).2 = some res /\ Xh σ (Qo P σ rv).2 /\ (YX (Qo P σ rv).2.flatten).Nodup := by (intro f; simp [f])) : HL P fn res .ret σ := Gz hf (h f.h)
end
class NxI where
 p : St -> Prop
def Nx (σ : St) [n : NxI] : Prop := n.p σ
section
variable {P : Program} {σ : St} {k : Fr}
theorem VZ {c : KP} {n n' : St -> Prop} (hn : ∀ σ', n σ' -> n' σ') (h : @WI P σ c (.nxt n k)) : AWP P c.c (Fr.run P (.nxt n' k)) σ :=
 MU (fun e σ' hq => by cases e <;> first | exact hn _ hq | exact hq) (qh h)
abbrev Q1 {R : Type} {A0 : Type} (L : Nat -> A0 -> R) (S : A0 -> St) (I : Nat -> A0 -> Prop) (t : R) (b : Nat) : NxI := ⟨fun τ => ∃ a0, Me t (L b a0) /\ (1 <= b /\ I b a0) /\ Wk τ (S a0)⟩
theorem nx1 {R : Type} {A0 : Type} {L : Nat -> A0 -> R} {S : A0 -> St} {I : Nat -> A0 -> Prop} {t : R} {b : Nat} {a0 : A0} (e : Me t (L b a0)) (hI : 1 <= b /\ I b a0 := by ((try dsimp only); first | omega | (simp at *; omega))) (hw : Wk σ (S a0) := by exact Qc (by simp)) : @Nx σ (Q1 L S I t b) := ⟨a0, e, hI, hw⟩
theorem ny1 {R : Type} {A0 : Type} {L : Nat -> A0 -> R} {S : A0 -> St} {I : Nat -> A0 -> Prop} {t : R} {b : Nat} {a0 : A0} {q : Prop} (F : q) (e : Me t (L b a0)) (hI : 1 <= b /\ I b a0 := by ((try dsimp only); first | omega | (simp at *; omega))) (kw : q -> Wk σ (S a0) := by (intro F; exact Qc (by simp [F]))) : @Nx σ (Q1 L S I t b) := ⟨a0, e, hI, kw F⟩
theorem lp1 {c : KP} {R : Type} {A0 : Type} {L B : Nat -> A0 -> R} (hL : ∀ (a0 : A0) (n : Nat), L (Nat.succ n) a0 = B n a0) (S : A0 -> St) (I : Nat -> A0 -> Prop) (n0 : Nat) (b0 : A0) {p : Nat -> A0 -> Prop}
  (round : ∀ n (a0 : A0), Me (L n0 b0) (B n a0) -> 1 <= n + 1 /\ I (n + 1) a0 -> p n a0) (hI : 1 <= n0 /\ I n0 b0 := by first | omega | (dsimp only; omega) | simp) (h0 : Wk σ (S b0) := by exact Qc (by simp)) (kk : ∀ n (a0 : A0), Bx (p n a0) -> @WI P (S a0) c (.nxt (fun σ' => @Nx σ' (Q1 L S I (L n0 b0) n)) k) := by (intro n_ oK z; simp; (repeat (with_reducible refine Go.Mo.sd ?_)); exact z.h)) : @kM P σ c k := by
 refine xf (ι := { s : Nat × A0 // Me (L n0 b0) (L s.1 s.2) /\ (1 <= s.1 /\ I s.1 s.2) }) (fun s => S s.1.2) (fun s => s.1.1) ⟨(n0, b0), ⟨rfl⟩, hI⟩ h0 ?_
 rintro ⟨⟨n1, a0⟩, e, j⟩
 obtain ⟨n, rfl⟩ : ∃ q, n1 = q + 1 := ⟨n1 - 1, by have := j.1; (try dsimp only at this); omega⟩
 refine VZ (fun σ' hn => ?_) (kk n a0 ⟨round n a0 ⟨by have := e.h; (try dsimp only at this); rw [this, hL]⟩ j⟩)
 obtain ⟨c0, e2, j2, w2⟩ := hn
 exact ⟨⟨(n, c0), e2, j2⟩, Nat.lt_succ_self n, w2⟩
abbrev Q2 {R : Type} {A0 A1 : Type} (L : Nat -> A0 -> A1 -> R) (S : A0 -> A1 -> St) (I : Nat -> A0 -> A1 -> Prop) (t : R) (b : Nat) : NxI := ⟨fun τ => ∃ a0 a1, Me t (L b a0 a1) /\ (1 <= b /\ I b a0 a1) /\ Wk τ (S a0 a1)⟩
theorem nx2 {R : Type} {A0 A1 : Type} {L : Nat -> A0 -> A1 -> R} {S : A0 -> A1 -> St} {I : Nat -> A0 -> A1 -> Prop} {t : R} {b : Nat} {a0 : A0} {a1 : A1} (e : Me t (L b a0 a1)) (hI : 1 <= b /\ I b a0 a1 := by ((try dsimp only); first | omega | (simp at *; omega))) (hw : Wk σ (S a0 a1) := by exact Qc (by simp)) : @Nx σ (Q2 L S I t b) := ⟨a0, a1, e, hI, hw⟩
theorem ny2 {R : Type} {A0 A1 : Type} {L : Nat -> A0 -> A1 -> R} {S : A0 -> A1 -> St} {I : Nat -> A0 -> A1 -> Prop} {t : R} {b : Nat} {a0 : A0} {a1 : A1} {q : Prop} (F : q) (e : Me t (L b a0 a1)) (hI : 1 <= b /\ I b a0 a1 := by ((try dsimp only); first | omega | (simp at *; omega))) (kw : q -> Wk σ (S a0 a1) := by (intro F; exact Qc (by simp [F]))) : @Nx σ (Q2 L S I t b) := ⟨a0, a1, e, hI, kw F⟩
theorem lp2 {c : KP} {R : Type} {A0 A1 : Type} {L B : Nat -> A0 -> A1 -> R} (hL : ∀ (a0 : A0) (a1 : A1) (n : Nat), L (Nat.succ n) a0 a1 = B n a0 a1) (S : A0 -> A1 -> St) (I : Nat -> A0 -> A1 -> Prop) (n0 : Nat) (b0 : A0) (b1 : A1) {p : Nat -> A0 -> A1 -> Prop}
  (round : ∀ n (a0 : A0) (a1 : A1), Me (L n0 b0 b1) (B n a0 a1) -> 1 <= n + 1 /\ I (n + 1) a0 a1 -> p n a0 a1) (hI : 1 <= n0 /\ I n0 b0 b1 := by first | omega | (dsimp only; omega) | simp) (h0 : Wk σ (S b0 b1) := by exact Qc (by simp)) (kk : ∀ n (a0 : A0) (a1 : A1), Bx (p n a0 a1) -> @WI P (S a0 a1) c (.nxt (fun σ' => @Nx σ' (Q2 L S I (L n0 b0 b1) n)) k) := by (intro n_ oK o6 z; simp; (repeat (with_reducible refine Go.Mo.sd ?_)); exact z.h)) : @kM P σ c k := by
 refine xf (ι := { s : Nat × A0 × A1 // Me (L n0 b0 b1) (L s.1 s.2.1 s.2.2) /\ (1 <= s.1 /\ I s.1 s.2.1 s.2.2) }) (fun s => S s.1.2.1 s.1.2.2) (fun s => s.1.1) ⟨(n0, b0, b1), ⟨rfl⟩, hI⟩ h0 ?_
 rintro ⟨⟨n1, a0, a1⟩, e, j⟩
 obtain ⟨n, rfl⟩ : ∃ q, n1 = q + 1 := ⟨n1 - 1, by have := j.1; (try dsimp only at this); omega⟩
 refine VZ (fun σ' hn => ?_) (kk n a0 a1 ⟨round n a0 a1 ⟨by have := e.h; (try dsimp only at this); rw [this, hL]⟩ j⟩)
 obtain ⟨c0, c1, e2, j2, w2⟩ := hn
 exact ⟨⟨(n, c0, c1), e2, j2⟩, Nat.lt_succ_self n, w2⟩
abbrev Q3 {R : Type} {A0 A1 A2 : Type} (L : Nat -> A0 -> A1 -> A2 -> R) (S : A0 -> A1 -> A2 -> St) (I : Nat -> A0 -> A1 -> A2 -> Prop) (t : R) (b : Nat) : NxI := ⟨fun τ => ∃ a0 a1 a2, Me t (L b a0 a1 a2) /\ (1 <= b /\ I b a0 a1 a2) /\ Wk τ (S a0 a1 a2)⟩
theorem nx3 {R : Type} {A0 A1 A2 : Type} {L : Nat -> A0 -> A1 -> A2 -> R} {S : A0 -> A1 -> A2 -> St} {I : Nat -> A0 -> A1 -> A2 -> Prop} {t : R} {b : Nat} {a0 : A0} {a1 : A1} {a2 : A2} (e : Me t (L b a0 a1 a2)) (hI : 1 <= b /\ I b a0 a1 a2 := by ((try dsimp only); first | omega | (simp at *; omega))) (hw : Wk σ (S a0 a1 a2) := by exact Qc (by simp)) : @Nx σ (Q3 L S I t b) := ⟨a0, a1, a2, e, hI, hw⟩
theorem lp3 {c : KP} {R : Type} {A0 A1 A2 : Type} {L B : Nat -> A0 -> A1 -> A2 -> R} (hL : ∀ (a0 : A0) (a1 : A1) (a2 : A2) (n : Nat), L (Nat.succ n) a0 a1 a2 = B n a0 a1 a2) (S : A0 -> A1 -> A2 -> St) (I : Nat -> A0 -> A1 -> A2 -> Prop) (n0 : Nat) (b0 : A0) (b1 : A1) (b2 : A2) {p : Nat -> A0 -> A1 -> A2 -> Prop}
  (round : ∀ n (a0 : A0) (a1 : A1) (a2 : A2), Me (L n0 b0 b1 b2) (B n a0 a1 a2) -> 1 <= n + 1 /\ I (n + 1) a0 a1 a2 -> p n a0 a1 a2) (hI : 1 <= n0 /\ I n0 b0 b1 b2 := by first | omega | (dsimp only; omega) | simp) (h0 : Wk σ (S b0 b1 b2) := by exact Qc (by simp)) (kk : ∀ n (a0 : A0) (a1 : A1) (a2 : A2), Bx (p n a0 a1 a2) -> @WI P (S a0 a1 a2) c (.nxt (fun σ' => @Nx σ' (Q3 L S I (L n0 b0 b1 b2) n)) k) := by (intro n_ oK o6 nm z; simp; (repeat (with_reducible refine Go.Mo.sd ?_)); exact z.h)) : @kM P σ c k := by
 refine xf (ι := { s : Nat × A0 × A1 × A2 // Me (L n0 b0 b1 b2) (L s.1 s.2.1 s.2.2.1 s.2.2.2) /\ (1 <= s.1 /\ I s.1 s.2.1 s.2.2.1 s.2.2.2) }) (fun s => S s.1.2.1 s.1.2.2.1 s.1.2.2.2) (fun s => s.1.1) ⟨(n0, b0, b1, b2), ⟨rfl⟩, hI⟩ h0 ?_
 rintro ⟨⟨n1, a0, a1, a2⟩, e, j⟩
 obtain ⟨n, rfl⟩ : ∃ q, n1 = q + 1 := ⟨n1 - 1, by have := j.1; (try dsimp only at this); omega⟩
 refine VZ (fun σ' hn => ?_) (kk n a0 a1 a2 ⟨round n a0 a1 a2 ⟨by have := e.h; (try dsimp only at this); rw [this, hL]⟩ j⟩)
 obtain ⟨c0, c1, c2, e2, j2, w2⟩ := hn
 exact ⟨⟨(n, c0, c1, c2), e2, j2⟩, Nat.lt_succ_self n, w2⟩
abbrev Q4 {R : Type} {A0 A1 A2 A3 : Type} (L : Nat -> A0 -> A1 -> A2 -> A3 -> R) (S : A0 -> A1 -> A2 -> A3 -> St) (I : Nat -> A0 -> A1 -> A2 -> A3 -> Prop) (t : R) (b : Nat) : NxI := ⟨fun τ => ∃ a0 a1 a2 a3, Me t (L b a0 a1 a2 a3) /\ (1 <= b /\ I b a0 a1 a2 a3) /\ Wk τ (S a0 a1 a2 a3)⟩
theorem ny4 {R : Type} {A0 A1 A2 A3 : Type} {L : Nat -> A0 -> A1 -> A2 -> A3 -> R} {S : A0 -> A1 -> A2 -> A3 -> St} {I : Nat -> A0 -> A1 -> A2 -> A3 -> Prop} {t : R} {b : Nat} {a0 : A0} {a1 : A1} {a2 : A2} {a3 : A3} {q : Prop} (F : q) (e : Me t (L b a0 a1 a2 a3)) (hI : 1 <= b /\ I b a0 a1 a2 a3 := by ((try dsimp only); first | omega | (simp at *; omega))) (kw : q -> Wk σ (S a0 a1 a2 a3) := by (intro F; exact Qc (by simp [F]))) : @Nx σ (Q4 L S I t b) := ⟨a0, a1, a2, a3, e, hI, kw F⟩
theorem lp4 {c : KP} {R : Type} {A0 A1 A2 A3 : Type} {L B : Nat -> A0 -> A1 -> A2 -> A3 -> R} (hL : ∀ (a0 : A0) (a1 : A1) (a2 : A2) (a3 : A3) (n : Nat), L (Nat.succ n) a0 a1 a2 a3 = B n a0 a1 a2 a3) (S : A0 -> A1 -> A2 -> A3 -> St) (I : Nat -> A0 -> A1 -> A2 -> A3 -> Prop) (n0 : Nat) (b0 : A0) (b1 : A1) (b2 : A2) (b3 : A3) {p : Nat -> A0 -> A1 -> A2 -> A3 -> Prop}
  (round : ∀ n (a0 : A0) (a1 : A1) (a2 : A2) (a3 : A3), Me (L n0 b0 b1 b2 b3) (B n a0 a1 a2 a3) -> 1 <= n + 1 /\ I (n + 1) a0 a1 a2 a3 -> p n a0 a1 a2 a3) (hI : 1 <= n0 /\ I n0 b0 b1 b2 b3 := by first | omega | (dsimp only; omega) | simp) (h0 : Wk σ (S b0 b1 b2 b3) := by exact Qc (by simp)) (kk : ∀ n (a0 : A0) (a1 : A1) (a2 : A2) (a3 : A3), Bx (p n a0 a1 a2 a3) -> @WI P (S a0 a1 a2 a3) c (.nxt (fun σ' => @Nx σ' (Q4 L S I (L n0 b0 b1 b2 b3) n)) k) := by (intro n_ oK o6 nm mb z; simp; (repeat (with_reducible refine Go.Mo.sd ?_)); exact z.h)) : @kM P σ c k := by
 refine xf (ι := { s : Nat × A0 × A1 × A2 × A3 // Me (L n0 b0 b1 b2 b3) (L s.1 s.2.1 s.2.2.1 s.2.2.2.1 s.2.2.2.2) /\ (1 <= s.1 /\ I s.1 s.2.1 s.2.2.1 s.2.2.2.1 s.2.2.2.2) }) (fun s => S s.1.2.1 s.1.2.2.1 s.1.2.2.2.1 s.1.2.2.2.2) (fun s => s.1.1) ⟨(n0, b0, b1, b2, b3), ⟨rfl⟩, hI⟩ h0 ?_
 rintro ⟨⟨n1, a0, a1, a2, a3⟩, e, j⟩
 obtain ⟨n, rfl⟩ : ∃ q, n1 = q + 1 := ⟨n1 - 1, by have := j.1; (try dsimp only at this); omega⟩
 refine VZ (fun σ' hn => ?_) (kk n a0 a1 a2 a3 ⟨round n a0 a1 a2 a3 ⟨by have := e.h; (try dsimp only at this); rw [this, hL]⟩ j⟩)
 obtain ⟨c0, c1, c2, c3, e2, j2, w2⟩ := hn
 exact ⟨⟨(n, c0, c1, c2, c3), e2, j2⟩, Nat.lt_succ_self n, w2⟩
abbrev Q5 {R : Type} {A0 A1 A2 A3 A4 : Type} (L : Nat -> A0 -> A1 -> A2 -> A3 -> A4 -> R) (S : A0 -> A1 -> A2 -> A3 -> A4 -> St) (I : Nat -> A0 -> A1 -> A2 -> A3 -> A4 -> Prop) (t : R) (b : Nat) : NxI := ⟨fun τ => ∃ a0 a1 a2 a3 a4, Me t (L b a0 a1 a2 a3 a4) /\ (1 <= b /\ I b a0 a1 a2 a3 a4) /\ Wk τ (S a0 a1 a2 a3 a4)⟩
theorem nx5 {R : Type} {A0 A1 A2 A3 A4 : Type} {L : Nat -> A0 -> A1 -> A2 -> A3 -> A4 -> R} {S : A0 -> A1 -> A2 -> A3 -> A4 -> St} {I : Nat -> A0 -> A1 -> A2 -> A3 -> A4 -> Prop} {t : R} {b : Nat} {a0 : A0} {a1 : A1} {a2 : A2} {a3 : A3} {a4 : A4} (e : Me t (L b a0 a1 a2 a3 a4)) (hI : 1 <= b /\ I b a0 a1 a2 a3 a4 := by ((try dsimp only); first | omega | (simp at *; omega))) (hw : Wk σ (S a0 a1 a2 a3 a4) := by exact Qc (by simp)) : @Nx σ (Q5 L S I t b) := ⟨a0, a1, a2, a3, a4, e, hI, hw⟩
theorem lp5 {c : KP} {R : Type} {A0 A1 A2 A3 A4 : Type} {L B : Nat -> A0 -> A1 -> A2 -> A3 -> A4 -> R} (hL : ∀ (a0 : A0) (a1 : A1) (a2 : A2) (a3 : A3) (a4 : A4) (n : Nat), L (Nat.succ n) a0 a1 a2 a3 a4 = B n a0 a1 a2 a3 a4) (S : A0 -> A1 -> A2 -> A3 -> A4 -> St) (I : Nat -> A0 -> A1 -> A2 -> A3 -> A4 -> Prop) (n0 : Nat) (b0 : A0) (b1 : A1) (b2 : A2) (b3 : A3) (b4 : A4) {p : Nat -> A0 -> A1 -> A2 -> A3 -> A4 -> Prop}
  (round : ∀ n (a0 : A0) (a1 : A1) (a2 : A2) (a3 : A3) (a4 : A4), Me (L n0 b0 b1 b2 b3 b4) (B n a0 a1 a2 a3 a4) -> 1 <= n + 1 /\ I (n + 1) a0 a1 a2 a3 a4 -> p n a0 a1 a2 a3 a4) (hI : 1 <= n0 /\ I n0 b0 b1 b2 b3 b4 := by first | omega | (dsimp only; omega) | simp) (h0 : Wk σ (S b0 b1 b2 b3 b4) := by exact Qc (by simp)) (kk : ∀ n (a0 : A0) (a1 : A1) (a2 : A2) (a3 : A3) (a4 : A4), Bx (p n a0 a1 a2 a3 a4) -> @WI P (S a0 a1 a2 a3 a4) c (.nxt (fun σ' => @Nx σ' (Q5 L S I (L n0 b0 b1 b2 b3 b4) n)) k) := by (intro n_ oK o6 nm mb lq z; simp; (repeat (with_reducible refine Go.Mo.sd ?_)); exact z.h)) : @kM P σ c k := by
 refine xf (ι := { s : Nat × A0 × A1 × A2 × A3 × A4 // Me (L n0 b0 b1 b2 b3 b4) (L s.1 s.2.1 s.2.2.1 s.2.2.2.1 s.2.2.2.2.1 s.2.2.2.2.2) /\ (1 <= s.1 /\ I s.1 s.2.1 s.2.2.1 s.2.2.2.1 s.2.2.2.2.1 s.2.2.2.2.2) }) (fun s => S s.1.2.1 s.1.2.2.1 s.1.2.2.2.1 s.1.2.2.2.2.1 s.1.2.2.2.2.2) (fun s => s.1.1) ⟨(n0, b0, b1, b2, b3, b4), ⟨rfl⟩, hI⟩ h0 ?_
 rintro ⟨⟨n1, a0, a1, a2, a3, a4⟩, e, j⟩
 obtain ⟨n, rfl⟩ : ∃ q, n1 = q + 1 := ⟨n1 - 1, by have := j.1; (try dsimp only at this); omega⟩
 refine VZ (fun σ' hn => ?_) (kk n a0 a1 a2 a3 a4 ⟨round n a0 a1 a2 a3 a4 ⟨by have := e.h; (try dsimp only at this); rw [this, hL]⟩ j⟩)
 obtain ⟨c0, c1, c2, c3, c4, e2, j2, w2⟩ := hn
 exact ⟨⟨(n, c0, c1, c2, c3, c4), e2, j2⟩, Nat.lt_succ_self n, w2⟩
abbrev Q6 {R : Type} {A0 A1 A2 A3 A4 A5 : Type} (L : Nat -> A0 -> A1 -> A2 -> A3 -> A4 -> A5 -> R) (S : A0 -> A1 -> A2 -> A3 -> A4 -> A5 -> St) (I : Nat -> A0 -> A1 -> A2 -> A3 -> A4 -> A5 -> Prop) (t : R) (b : Nat) : NxI := ⟨fun τ => ∃ a0 a1 a2 a3 a4 a5, Me t (L b a0 a1 a2 a3 a4 a5) /\ (1 <= b /\ I b a0 a1 a2 a3 a4 a5) /\ Wk τ (S a0 a1 a2 a3 a4 a5)⟩
theorem nx6 {R : Type} {A0 A1 A2 A3 A4 A5 : Type} {L : Nat -> A0 -> A1 -> A2 -> A3 -> A4 -> A5 -> R} {S : A0 -> A1 -> A2 -> A3 -> A4 -> A5 -> St} {I : Nat -> A0 -> A1 -> A2 -> A3 -> A4 -> A5 -> Prop} {t : R} {b : Nat} {a0 : A0} {a1 : A1} {a2 : A2} {a3 : A3} {a4 : A4} {a5 : A5} (e : Me t (L b a0 a1 a2 a3 a4 a5)) (hI : 1 <= b /\ I b a0 a1 a2 a3 a4 a5 := by ((try dsimp only); first | omega | (simp at *; omega))) (hw : Wk σ (S a0 a1 a2 a3 a4 a5) := by exact Qc (by simp)) : @Nx σ (Q6 L S I t b) := ⟨a0, a1, a2, a3, a4, a5, e, hI, hw⟩
theorem lp6 {c : KP} {R : Type} {A0 A1 A2 A3 A4 A5 : Type} {L B : Nat -> A0 -> A1 -> A2 -> A3 -> A4 -> A5 -> R} (hL : ∀ (a0 : A0) (a1 : A1) (a2 : A2) (a3 : A3) (a4 : A4) (a5 : A5) (n : Nat), L (Nat.succ n) a0 a1 a2 a3 a4 a5 = B n a0 a1 a2 a3 a4 a5) (S : A0 -> A1 -> A2 -> A3 -> A4 -> A5 -> St) (I : Nat -> A0 -> A1 -> A2 -> A3 -> A4 -> A5 -> Prop) (n0 : Nat) (b0 : A0) (b1 : A1) (b2 : A2) (b3 : A3) (b4 : A4) (b5 : A5) {p : Nat -> A0 -> A1 -> A2 -> A3 -> A4 -> A5 -> Prop}
  (round : ∀ n (a0 : A0) (a1 : A1) (a2 : A2) (a3 : A3) (a4 : A4) (a5 : A5), Me (L n0 b0 b1 b2 b3 b4 b5) (B n a0 a1 a2 a3 a4 a5) -> 1 <= n + 1 /\ I (n + 1) a0 a1 a2 a3 a4 a5 -> p n a0 a1 a2 a3 a4 a5) (hI : 1 <= n0 /\ I n0 b0 b1 b2 b3 b4 b5 := by first | omega | (dsimp only; omega) | simp) (h0 : Wk σ (S b0 b1 b2 b3 b4 b5) := by exact Qc (by simp)) (kk : ∀ n (a0 : A0) (a1 : A1) (a2 : A2) (a3 : A3) (a4 : A4) (a5 : A5), Bx (p n a0 a1 a2 a3 a4 a5) -> @WI P (S a0 a1 a2 a3 a4 a5) c (.nxt (fun σ' => @Nx σ' (Q6 L S I (L n0 b0 b1 b2 b3 b4 b5) n)) k) := by (intro n_ oK o6 nm mb lq iu z; simp; (repeat (with_reducible refine Go.Mo.sd ?_)); exact z.h)) : @kM P σ c k := by
 refine xf (ι := { s : Nat × A0 × A1 × A2 × A3 × A4 × A5 // Me (L n0 b0 b1 b2 b3 b4 b5) (L s.1 s.2.1 s.2.2.1 s.2.2.2.1 s.2.2.2.2.1 s.2.2.2.2.2.1 s.2.2.2.2.2.2) /\ (1 <= s.1 /\ I s.1 s.2.1 s.2.2.1 s.2.2.2.1 s.2.2.2.2.1 s.2.2.2.2.2.1 s.2.2.2.2.2.2) }) (fun s => S s.1.2.1 s.1.2.2.1 s.1.2.2.2.1 s.1.2.2.2.2.1 s.1.2.2.2.2.2.1 s.1.2.2.2.2.2.2) (fun s => s.1.1) ⟨(n0, b0, b1, b2, b3, b4, b5), ⟨rfl⟩, hI⟩ h0 ?_
 rintro ⟨⟨n1, a0, a1, a2, a3, a4, a5⟩, e, j⟩
 obtain ⟨n, rfl⟩ : ∃ q, n1 = q + 1 := ⟨n1 - 1, by have := j.1; (try dsimp only at this); omega⟩
 refine VZ (fun σ' hn => ?_) (kk n a0 a1 a2 a3 a4 a5 ⟨round n a0 a1 a2 a3 a4 a5 ⟨by have := e.h; (try dsimp only at this); rw [this, hL]⟩ j⟩)
 obtain ⟨c0, c1, c2, c3, c4, c5, e2, j2, w2⟩ := hn
 exact ⟨⟨(n, c0, c1, c2, c3, c4, c5), e2, j2⟩, Nat.lt_succ_self n, w2⟩
abbrev Q7 {R : Type} {A0 A1 A2 A3 A4 A5 A6 : Type} (L : Nat -> A0 -> A1 -> A2 -> A3 -> A4 -> A5 -> A6 -> R) (S : A0 -> A1 -> A2 -> A3 -> A4 -> A5 -> A6 -> St) (I : Nat -> A0 -> A1 -> A2 -> A3 -> A4 -> A5 -> A6 -> Prop) (t : R) (b : Nat) : NxI := ⟨fun τ => ∃ a0 a1 a2 a3 a4 a5 a6, Me t (L b a0 a1 a2 a3 a4 a5 a6) /\ (1 <= b /\ I b a0 a1 a2 a3 a4 a5 a6) /\ Wk τ (S a0 a1 a2 a3 a4 a5 a6)⟩
theorem nx7 {R : Type} {A0 A1 A2 A3 A4 A5 A6 : Type} {L : Nat -> A0 -> A1 -> A2 -> A3 -> A4 -> A5 -> A6 -> R} {S : A0 -> A1 -> A2 -> A3 -> A4 -> A5 -> A6 -> St} {I : Nat -> A0 -> A1 -> A2 -> A3 -> A4 -> A5 -> A6 -> Prop} {t : R} {b : Nat} {a0 : A0} {a1 : A1} {a2 : A2} {a3 : A3} {a4 : A4} {a5 : A5} {a6 : A6} (e : Me t (L b a0 a1 a2 a3 a4 a5 a6)) (hI : 1 <= b /\ I b a0 a1 a2 a3 a4 a5 a6 := by ((try dsimp only); first | omega | (simp at *; omega))) (hw : Wk σ (S a0 a1 a2 a3 a4 a5 a6) := by exact Qc (by simp)) : @Nx σ (Q7 L S I t b) := ⟨a0, a1, a2, a3, a4, a5, a6, e, hI, hw⟩
theorem lp7 {c : KP} {R : Type} {A0 A1 A2 A3 A4 A5 A6 : Type} {L B : Nat -> A0 -> A1 -> A2 -> A3 -> A4 -> A5 -> A6 -> R} (hL : ∀ (a0 : A0) (a1 : A1) (a2 : A2) (a3 : A3) (a4 : A4) (a5 : A5) (a6 : A6) (n : Nat), L (Nat.succ n) a0 a1 a2 a3 a4 a5 a6 = B n a0 a1 a2 a3 a4 a5 a6) (S : A0 -> A1 -> A2 -> A3 -> A4 -> A5 -> A6 -> St) (I : Nat -> A0 -> A1 -> A2 -> A3 -> A4 -> A5 -> A6 -> Prop) (n0 : Nat) (b0 : A0) (b1 : A1) (b2 : A2) (b3 : A3) (b4 : A4) (b5 : A5) (b6 : A6) {p : Nat -> A0 -> A1 -> A2 -> A3 -> A4 -> A5 -> A6 -> Prop}
  (round : ∀ n (a0 : A0) (a1 : A1) (a2 : A2) (a3 : A3) (a4 : A4) (a5 : A5) (a6 : A6), Me (L n0 b0 b1 b2 b3 b4 b5 b6) (B n a0 a1 a2 a3 a4 a5 a6) -> 1 <= n + 1 /\ I (n + 1) a0 a1 a2 a3 a4 a5 a6 -> p n a0 a1 a2 a3 a4 a5 a6) (hI : 1 <= n0 /\ I n0 b0 b1 b2 b3 b4 b5 b6 := by first | omega | (dsimp only; omega) | simp) (h0 : Wk σ (S b0 b1 b2 b3 b4 b5 b6) := by exact Qc (by simp)) (kk : ∀ n (a0 : A0) (a1 : A1) (a2 : A2) (a3 : A3) (a4 : A4) (a5 : A5) (a6 : A6), Bx (p n a0 a1 a2 a3 a4 a5 a6) -> @WI P (S a0 a1 a2 a3 a4 a5 a6) c (.nxt (fun σ' => @Nx σ' (Q7 L S I (L n0 b0 b1 b2 b3 b4 b5 b6) n)) k) := by (intro n_ oK o6 nm mb lq iu g8 z; simp; (repeat (with_reducible refine Go.Mo.sd ?_)); exact z.h)) : @kM P σ c k := by
 refine xf (ι := { s : Nat × A0 × A1 × A2 × A3 × A4 × A5 × A6 // Me (L n0 b0 b1 b2 b3 b4 b5 b6) (L s.1 s.2.1 s.2.2.1 s.2.2.2.1 s.2.2.2.2.1 s.2.2.2.2.2.1 s.2.2.2.2.2.2.1 s.2.2.2.2.2.2.2) /\ (1 <= s.1 /\ I s.1 s.2.1 s.2.2.1 s.2.2.2.1 s.2.2.2.2.1 s.2.2.2.2.2.1 s.2.2.2.2.2.2.1 s.2.2.2.2.2.2.2) }) (fun s => S s.1.2.1 s.1.2.2.1 s.1.2.2.2.1 s.1.2.2.2.2.1 s.1.2.2.2.2.2.1 s.1.2.2.2.2.2.2.1 s.1.2.2.2.2.2.2.2) (fun s => s.1.1) ⟨(n0, b0, b1, b2, b3, b4, b5, b6), ⟨rfl⟩, hI⟩ h0 ?_
 rintro ⟨⟨n1, a0, a1, a2, a3, a4, a5, a6⟩, e, j⟩
 obtain ⟨n, rfl⟩ : ∃ q, n1 = q + 1 := ⟨n1 - 1, by have := j.1; (try dsimp only at this); omega⟩
 refine VZ (fun σ' hn => ?_) (kk n a0 a1 a2 a3 a4 a5 a6 ⟨round n a0 a1 a2 a3 a4 a5 a6 ⟨by have := e.h; (try dsimp only at this); rw [this, hL]⟩ j⟩)
 obtain ⟨c0, c1, c2, c3, c4, c5, c6, e2, j2, w2⟩ := hn
 exact ⟨⟨(n, c0, c1, c2, c3, c4, c5, c6), e2, j2⟩, Nat.lt_succ_self n, w2⟩
end
section
variable {P : Program} {σ : St} {k : Fr}
theorem Vr {A : QV} {o : OpI} {l : JE} {d : Nat} {T : TypeId} {n : Nat} {parts : Array (Nat × Operand)} (h : @EI P (σ.new d (.one (.sref d 0 0 (QA P σ (ZE P T) (P.cellsOf (ZE P T)) parts.toList 0).2.length)) [.lit (P.cellsOf (ZE P T)) (QA P σ (ZE P T) (P.cellsOf (ZE P T)) parts.toList 0).2]) A l k) (wA : o.o.op = .buildSlice T n parts := by exact rfl) (hg : o.o.guard = none := by exact rfl) (hd : o.o.dst = some d := by exact rfl)
  (h1 : σ.fresh d = true /\ YJ P T = true /\ Yz P (ZE P T) = true /\ 0 < P.cellsOf (ZE P T) /\ parts.toList.length = n /\ n * P.cellsOf (ZE P T) <= 16777216 := by simp) (h2 : (QA P σ (ZE P T) (P.cellsOf (ZE P T)) parts.toList 0).1 := by simp)
  (h3 : Zp d (QA P σ (ZE P T) (P.cellsOf (ZE P T)) parts.toList 0).2.flatten = false := by simp)
  : @SI P σ A o l k := Fv wA hg hd h1 h2 h3 h
theorem Uy {A : QV} {o : OpI} {l : JE} {d : Nat} {x y : Operand} {t : TypeId} {wE news : List (List D)} {l1 l2 : List (Nat × Nat)} {size : Nat} (h : @EI P ((σ.Zn (l1 ++ l2)).new d (.one (.sref d 0 0 (wE.length + news.length))) [.arr true size (wE ++ news)]) A l k) (wA : o.o.op = .call ⟨.builtin .append, #[x, y], #[t, t]⟩ := by exact rfl) (hg : o.o.guard = none := by exact rfl) (hd : o.o.dst = some d := by exact rfl) (w6 : A.bar o.o = true := by exact rfl)
  (vL : size = P.cellsOf (ZE P t) := by simp) (h1 : gOf (look P σ t x) = true /\ gOf (look P σ t y) = true /\ YJ P t = true /\ Yz P (ZE P t) = true /\ 0 < P.cellsOf (ZE P t) := by simp)
  (h2 : (xY σ (unc (look P σ t x)) size).1 /\ (xY σ (unc (look P σ t x)) size).2 = (wE, l1) := by simp) (h3 : (xO σ (unc (look P σ t y)) size).1 /\ (xO σ (unc (look P σ t y)) size).2 = (news, l2) := by simp)
  (h4 : (l1 ++ l2).Nodup /\ (σ.Zn (l1 ++ l2)).fresh d = true := by simp) (h5 : (wE.length + news.length) * P.bytesOf (ZE P t) <= 140737488355328 /\ wE.length + news.length <= 9223372036854775807 := by (simp; omega))
  : @SI P σ A o l k := Fo wA hg hd w6 vL h1 h2 h3 h4 h5 h
theorem Ft {A : QV} {o : OpI} {l : JE} {T : TypeId} {x y : Operand} {t j i size : Nat} {rows : List (List D)} {ds : List D} {L : List (Nat × Nat)} (h : @EI P ((σ.Zn L).Ze t j (.arr true size (rows.set i ds))) A l k) (wA : o.o.op = .store T x y := by exact rfl) (hg : o.o.guard = none := by exact rfl) (hd : o.o.dst = none := by exact rfl) (w6 : A.bar o.o = true := by exact rfl)
  (hx : unc (look P σ 0 x) = .one (.ptr t j i 0) := by simp) (ho : σ.ob t j = .arr true size rows := by simp) (hi : i < rows.length := by (simp; try omega)) (h1 : K0 P T = true /\ gOf (look P σ 0 x) = true /\ gOf (look P σ T y) = true /\ (unc (look P σ T y)).flat = true := by simp)
  (h2 : QG σ (unc (look P σ T y)).cells = some ds := by simp) (h3 : Xc σ (unc (look P σ T y)).cells := by simp) (h4 : YX (unc (look P σ T y)).cells = L := by simp) (h5 : L.Nodup /\ (t, j) ∉ L /\ (σ.Zn L).JX (At.isT t) = false := by simp) (h6 : ds.length = P.cellsOf T /\ P.cellsOf T = size := by simp)
  : @SI P σ A o l k := Fz wA hg hd w6 hx ho hi h1 h2 h3 h4 h5 h6 h
end
theorem wkS {σ σ' : St} (ρ : Ren) (F : List (Nat × Nat)) (wb : xZ σ' ρ ρ = true := by exact rfl) (h : j0 σ ρ F σ σ' 0 := by simp) : Wk σ σ' := X1 ρ F wb h
theorem drJ {P : Program} {id : Nat} {σ : St} {l : List Oper} {br : Oper -> Bool} {k : Fr} (bs : List Nat) (hm : P.follows .mixedOrders = true) (h : @EI P σ ⟨⟨l⟩, Vs bs⟩ ⟨l⟩ k) (hdr : Vm.Te P ⟨l⟩ (fun i => i) (Vs bs) = true := by kernel_rfl) (wh : JY ⟨l⟩ (fun i => i) σ = true := by kernel_rfl) : @DI P id σ ⟨⟨l⟩, br⟩ k := G7 bs hm hdr wh h
theorem bsD {P : Program} {σ : St} {k : Fr} {A : QV} {o : OpI} {l : JE} {d : Nat} {T : TypeId} {n : Nat} {parts : Array (Nat × Operand)} (h : @EI P (σ.put d (.one (.d (.sl (P.cellsOf (ZE P T)) (Kp P σ (ZE P T) (P.cellsOf (ZE P T)) parts.toList 0).2)))) A l k) (wA : o.o.op = .buildSlice T n parts := by exact rfl) (hg : o.o.guard = none := by exact rfl) (hd : o.o.dst = some d := by exact rfl)
  (h1 : YJ P T = true /\ Yz P (ZE P T) = true /\ 0 < P.cellsOf (ZE P T) /\ parts.toList.length = n /\ n * P.cellsOf (ZE P T) <= 16777216 := by simp) (h2 : (Kp P σ (ZE P T) (P.cellsOf (ZE P T)) parts.toList 0).1 := by simp) : @SI P σ A o l k := Fu wA hg hd h1 h2 h
theorem rpS {g p : Prop} (h : p) (kk : Bx p -> g := by (intro z; (repeat (with_reducible refine Go.Mo.sd ?_)); exact z.h)) : g := kk ⟨h⟩
theorem rpG {g p : Prop} (h : p) (kk : Bx p -> g := by (intro z; (repeat (with_reducible refine Go.Mo.sdg ?_)); exact z.h)) : g := kk ⟨h⟩
theorem xs {p q : Prop} (u : q) (h : q -> p := by (intro u; simp (maxDischargeDepth := 12) [u])) : p := h u
@[simp] abbrev rI (x : Int) : List D := [.int .i64 x]
@[simp] abbrev rB (b : Bool) : List D := [.bool b]
@[simp] abbrev rS (s : ByteArray) : List D := [.str s]
@[simp] abbrev rL {α : Type} (n : Nat) (f : α -> List D) (l : List α) : List D := [.sl n (l.map f)]
end Go.Vm
