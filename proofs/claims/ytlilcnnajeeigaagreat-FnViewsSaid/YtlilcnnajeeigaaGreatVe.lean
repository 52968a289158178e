/- An abstract machine ON the model of Go, by value, and that it is sound: part Ve. No condition. -/
import Derived.Test.YtlilcnnajeeigaaGreatVd
set_option linter.unusedVariables false
set_option linter.unusedSimpArgs false
namespace Go.Vm
open Go.RowKit
section
variable {P : Program} {σ : St} {k : Fr}
end
end Go.Vm
namespace Go.Vm
open Go.RowKit
def FD (σ : St) : V -> Option Nat
 | .one (.d (.sl _ rows)) => some rows.length
 | .one (.sref t j _ len) => (match σ.ob t j with | .arr _ _ _ => some len | _ => none)
 | .fix _ (.one (.sref t j _ len)) => (match σ.ob t j with | .arr _ _ _ => some len | _ => none)
 | _ => none
def jC (σ : St) : Prop := ∀ t n, FD σ (σ.get t) = some n -> n <= 9223372036854775807
theorem Fh {T : CS} {h : Nat -> Nat -> Hd} {σ : St} {w : World} : ∀ {v : V} {val : Value} {n : Nat}, FD σ v = some n -> XW T h σ.ob w v val -> n <= maxLen
 | .one (.d (.sl s rows)), val, n, hn, hv => by
  simp only [FD] at hn
  cases hn
  obtain ⟨base, cap, _, h1, h2⟩ := HJ (r := (show Rd T w val (.sl s rows) from hv))
  omega
 | .one (.sref u j lo len), val, n, hn, hv => by
  simp only [FD] at hn
  split at hn
  ·rename_i q s rows ho
   cases hn
   have hh := (show Zr T h σ.ob w (.sref u j lo len) val from hv).2.1 _ _ _ ho
   obtain ⟨_, _, _, base, cap, _, h1, h2, _⟩ := hh
   omega
  ·cases hn
 | .fix u0 (.one (.sref u j lo len)), val, n, hn, hv => by
  simp only [FD] at hn
  split at hn
  ·rename_i q s rows ho
   cases hn
   have hh := (show Zr T h σ.ob w (.sref u j lo len) val from hv.2).2.1 _ _ _ ho
   obtain ⟨_, _, _, base, cap, _, h1, h2, _⟩ := hh
   omega
  ·cases hn
theorem Lx {T0 : CS} {B : Nat -> Prop} {σ : St} {a : Act} {w : World} (r : QK T0 B σ a w) : jC σ := by
 obtain ⟨X, h, r⟩ := r
 intro t n hn
 exact Fh hn (r.get t)
theorem MT {P : Program} {c : Code} {Q : Exit -> St -> Prop} {σ : St} (h : jC σ -> AWP P c Q σ) : AWP P c Q σ := fun T0 B a w r => h (Lx r) T0 B a w r
section
variable {P : Program} {σ : St} {k : Fr}
theorem DD {b : Bool} {x y : KS} (ht : jC σ -> b = true -> @WI P σ x k) (hf : jC σ -> b = false -> @WI P σ y k) : @CI P b σ x y k :=
 ⟨fun h => MT fun hk => qi (ht hk h), fun h => MT fun hk => qi (hf hk h)⟩
theorem OJ {b c : Bool} {x y : KS} (hc : c = b) (ht : jC σ -> c = true -> @WI P σ x k) (hf : jC σ -> c = false -> @WI P σ y k) : @CI P b σ x y k := by
 subst hc; exact DD ht hf
theorem okL {c : KS} (h : jC σ -> @Wi P σ c k) : @Wi P σ c k := MT h
theorem okD {id : Nat} {A : Qh} (h : jC σ -> @DI P id σ A k) : @DI P id σ A k := MT h
def OC : Op -> Bool
 | .call _ => true
 | _ => false
theorem MP {A : Qh} {o : OpI} {l : JT} {j dj d : Nat} {want g : Bool} (wA : OC o.o.op = false) (hg : o.o.guard = some (j, want)) (hd : o.o.dst = some d)
  (ve : (A.ops[j]?).bind (·.dst) = some dj) (vp : zg want (σ.get dj) = some g) (wN : dj < σ.length)
  (ht : g = true -> ((evV P σ o.o.op o.o.type).1 /\ gOf (evV P σ o.o.op o.o.type).2 = true /\ (unc (evV P σ o.o.op o.o.type).2).flat = true) /\ @EI P (σ.put d (.cnd true (unc (evV P σ o.o.op o.o.type).2))) A l k)
  (hf : g = false -> @EI P (σ.put d (.cnd false .any)) A l k) : @SI P σ A o l k := by
 have step : ∀ v, (g = true -> (evV P σ o.o.op o.o.type).1 /\ gOf (evV P σ o.o.op o.o.type).2 = true /\ v = unc (evV P σ o.o.op o.o.type).2 /\ v.flat = true) -> YT P A.ops o.o σ (σ.put d (.cnd g v)) := by
  intro v hv
  unfold YT
  simp only [hg]
  refine ⟨dj, d, g, v, ve, wN, hd, vp, fun ry => ?_, rfl⟩
  obtain ⟨h1, h2, h3, h4⟩ := hv ry
  have base : ∃ v0, Z1 P σ o.o.op o.o.type v0 /\ gOf v0 = true /\ v = unc v0 /\ v.flat = true := ⟨_, I3 h1, h2, h3, h4⟩
  unfold T6
  split
  ·rename_i c hc; rw [hc] at wA; cases wA
  ·exact base
 cases g with
 | true =>
  obtain ⟨⟨h1, h2, h3⟩, h4⟩ := ht rfl
  exact ⟨_, .inl (step _ fun _ => ⟨h1, h2, rfl, h3⟩), Xy h4⟩
 | false => exact ⟨_, .inl (step .any (fun h => by cases h)), Xy (hf rfl)⟩
end
theorem ES {P : Program} {σ : St} {k : Fr} {A : Qh} {o : OpI} {l : JT} {j dj d : Nat} {want g : Bool} (hg : o.o.guard = some (j, want)) (hd : o.o.dst = some d)
  (ve : (A.ops[j]?).bind (·.dst) = some dj) (vp : zg want (σ.get dj) = some g) (wN : dj < σ.length) (nV : g = false)
  (h : @EI P (σ.put d (.cnd false .any)) A l k) : @SI P σ A o l k := by
 subst nV
 refine ⟨_, .inl ?_, Xy h⟩
 unfold YT
 simp only [hg]
 exact ⟨dj, d, false, .any, ve, wN, hd, vp, (fun h => by cases h), rfl⟩
def VP (P : Program) : List TypeId -> List At -> List At -> Option Bool
 | [], _, _ => some true
 | f :: fs, x :: xs, y :: ys => (match Gq P f x y, VP P fs xs ys with | some p, some q => some (p && q) | _, _ => none)
 | _, _, _ => none
theorem RK (P : Program) : ∀ (fs : List Field) (xs ys : List At), zp P fs xs ys = VP P (fs.map (·.type)) xs ys
 | [], _, _ => by simp [zp, VP]
 | f :: fs, [], _ => by simp [zp, VP]
 | f :: fs, x :: xs, [] => by simp [zp, VP]
 | f :: fs, x :: xs, y :: ys => by simp only [zp, List.map_cons, VP, RK P fs xs ys]; rfl
def yR (P : Program) (T : TypeId) : List TypeId := (P.fieldsOf T).toList.map (·.type)
@[simp] theorem F9 (P : Program) (T : TypeId) (xs ys : List At) : zp P (P.fieldsOf T).toList xs ys = VP P (yR P T) xs ys := RK P _ _ _
attribute [simp] VP
def nth {α : Type} [Inhabited α] (l : List α) (i : Nat) : α := l.getD i default
theorem ZC {α : Type} [Inhabited α] {f : α -> List D} {l : List α} {i : Nat} (h : i < l.length) : rowAt (l.map f) i = f (nth l i) := by
 simp [rowAt, nth, h]
theorem MU {α : Type} {f : α -> List D} {l : List α} {i : Nat} {x : α} {r : List D} (h : r = f x) : (l.map f).set i r = (l.set i x).map f := by
 rw [h, List.map_set]
abbrev W (x : Int) : Int := IntKind.i64.wrap x
theorem YS {x : Int} (h1 : -9223372036854775808 <= x) (h2 : x <= 9223372036854775807) : IntKind.i64.wrap x = x := by
 have hr : IntKind.i64.min <= x /\ x <= IntKind.i64.max := by
  constructor
  ·show -9223372036854775808 <= x; exact h1
  ·show x <= 9223372036854775807; exact h2
 simp only [IntKind.wrap]
 first
  | (simp [IntKind.bits, IntKind.signed]; omega)
  | omega
theorem J9 (i : Nat) : ((i : Int) - 1).toNat = i - 1 := by omega
attribute [simp] St.fresh JU V.ref V.Tw YH kh
end Go.Vm
namespace Go.Vm
open Go.RowKit
attribute [simp] St.Ef Mi Ie At.Dr DR
section
variable {P : Program} {σ : St} {k : Fr}
end
end Go.Vm
namespace Go.Vm
open Go.RowKit
def At.isP (t : Nat) : At -> Bool
 | .tref u _ _ _ _ => u == t
 | .ptr u _ _ _ => u == t
 | _ => false
section
variable {P : Program} {T0 : CS} {B : Nat -> Prop} {σ : St} {a : Act} {w w' : World} {X X' : Nat -> Prop} {h : Nat -> Nat -> Hd}
theorem Rel.E2 (r : Rel T0 B σ a w X h) {t : Nat} {size : Nat} {rows : List (List At)} {news : List (List D)} {L : List (Nat × Nat)} (ho : σ.ob t 0 = .lit size rows) (vq : QY σ rows = some news) (wb : QI σ rows)
  (hL : YL rows.flatten = L) (w9 : L.Nodup) (nG : (t, 0) ∉ L) (hp : (σ.Zq L).KO (At.isP t) = false) : QK T0 B ((σ.Zq L).Zh t 0 (.arr true size news)) a w := by
 have wY : σ.ob t 0 ≠ .none := by rw [ho]; simp
 have h0 := r.obj t 0
 rw [ho] at h0
 obtain ⟨e, xs, uX, hz, wG⟩ := h0
 obtain ⟨gd, iS, gf⟩ := KA vq
 have wL := Um r wG gd (Jz wb) (by rw [hL]; exact w9)
 rw [hL] at wL
 have r1 := r.Zq L
 have wj := r.zN L
 have tJ : ∀ b', (h t 0).u b' -> JH σ h L b' -> False := by
  rintro b' vx ⟨p, su, wC, m5⟩
  obtain ⟨q1, q2⟩ := r.inj t 0 p.1 p.2 b' wY wC vx m5
  exact nG (by rw [q1, q2]; exact su)
 have rQ : (σ.Zq L).ob t 0 = .lit size rows := by rw [St.JD, if_neg nG, ho]
 have vu : (σ.Zq L).ob t 0 ≠ .none := by rw [rQ]; simp
 have vI : ∀ u i, ¬ (u = t /\ i = 0) -> ((σ.Zq L).Zh t 0 (.arr true size news)).ob u i = (σ.Zq L).ob u i := by
  intro u i wC
  rw [St.Xf _ t 0 _ u i vu, if_neg wC]
 have vF : ((σ.Zq L).Zh t 0 (.arr true size news)).ob t 0 = .arr true size news := by rw [St.Xf _ t 0 _ t 0 vu]; simp
 generalize hσ : (σ.Zq L).Zh t 0 (.arr true size news) = σ2 at *
 generalize hσ1 : σ.Zq L = σ1 at *
 have hlen : σ2.length = σ1.length := by rw [<- hσ, St.Yr]
 have vC : ∀ u, σ2.get u = σ1.get u := fun u => by rw [<- hσ, St.XT]
 let wQ : Hd := ⟨(h t 0).v, fun k => (xs[k]?).getD undef, fun b => (h t 0).u b \/ JH σ h L b⟩
 let h' : Nat -> Nat -> Hd := fun u i => if u = t /\ i = 0 then wQ else h u i
 have uV : ∀ u i, ¬ (u = t /\ i = 0) -> h' u i = h u i := fun u i wC => if_neg wC
 have na : h' t 0 = wQ := by simp [h']
 have hv : ∀ u i, (h' u i).v = (h u i).v := by
  intro u i
  by_cases hc : u = t /\ i = 0
  ·obtain ⟨rfl, rfl⟩ := hc; rw [na]
  ·rw [uV u i hc]
 have at_ : ∀ {x : At} {v : Value}, At.isP t x = false -> Zr (Tof T0 X) h σ1.ob w x v -> Zr (Tof T0 X) h' σ2.ob w x v := by
  intro x v pA rx
  cases x with
  | any => exact rx
  | d x => exact rx
  | nil s => exact rx
  | sref u i lo len =>
   refine ⟨rx.1, fun q s rws hq => ?_, fun s rws hq => ?_⟩
   ·by_cases hc : u = t /\ i = 0
    ·obtain ⟨rfl, rfl⟩ := hc
     rw [vF] at hq; cases hq
     rw [hv, <- iS]; exact rx.2.2 _ _ rQ
    ·rw [vI u i hc] at hq; rw [hv]; exact rx.2.1 _ _ _ hq
   ·by_cases hc : u = t /\ i = 0
    ·obtain ⟨rfl, rfl⟩ := hc
     rw [vF] at hq; cases hq
    ·rw [vI u i hc] at hq; rw [hv]; exact rx.2.2 _ _ hq
  | ptr u i k c =>
   refine ⟨rx.1, fun q s rws hq => ?_⟩
   have hc : ¬ (u = t /\ i = 0) := fun hc => by simp [At.isP, hc.1] at pA
   rw [vI u i hc] at hq; rw [hv]; exact rx.2 _ _ _ hq
  | bptr u c =>
   refine ⟨rx.1, fun cells hq => ?_⟩
   by_cases hc : u = t
   ·subst hc; rw [vF] at hq; cases hq
   ·rw [vI u 0 (fun hh => hc hh.1)] at hq; rw [hv]; exact rx.2 _ hq
  | fn f u =>
   refine ⟨rx.1, fun cells hq => ?_⟩
   by_cases hc : u = t
   ·subst hc; rw [vF] at hq; cases hq
   ·rw [vI u 0 (fun hh => hc hh.1)] at hq; rw [hv]; exact rx.2 _ hq
  | tref u i k c o =>
   refine ⟨rx.1, fun s rws hq => ?_⟩
   have hc : ¬ (u = t /\ i = 0) := fun hc => by simp [At.isP, hc.1] at pA
   rw [vI u i hc] at hq; rw [uV u i hc]; exact rx.2 _ _ hq
  | rptr rr c => exact rx
 have vJ : ∀ u i, σ2.ob u i ≠ .none -> σ1.ob u i ≠ .none := by
  intro u i hn
  by_cases hc : u = t /\ i = 0
  ·obtain ⟨rfl, rfl⟩ := hc; exact vu
  ·rw [vI u i hc] at hn; exact hn
 refine ⟨X, h', by rw [r1.size, hlen], r1.defers, r1.hB, r1.hX, r1.hT, fun u hu => ?_, fun u i => ?_, fun u i b hn hb => ?_, fun u i b hn hb => ?_, fun u i u' i' b hn wx hb wW => ?_⟩
 ·rw [hlen] at hu
  rw [vC]; exact XW.map at_ (St.Tr hp u) (r1.slot u hu)
 ·by_cases hc : u = t /\ i = 0
  ·obtain ⟨rfl, rfl⟩ := hc
   rw [vF, na]
   refine ⟨e, xs, by rw [<- iS]; exact uX, gf size hz, wL.mono (fun b hb => ⟨.inr hb, fun uD => tJ b (r.ub u 0 b wY uD) hb⟩), fun k x d hx _ _ => by simp [wQ, hx]⟩
  ·rw [vI u i hc, uV u i hc]
   exact X6.map at_ (fun b k v hb hc => ⟨hc, hb⟩) (fun ho b => r1.ub u i b ho) (fun _ _ _ => rfl) (St.R6 hp u i) (r1.obj u i)
 ·by_cases hc : u = t /\ i = 0
  ·obtain ⟨rfl, rfl⟩ := hc
   rw [na] at hb ⊢; exact .inl (r.ub u 0 b wY hb)
  ·rw [uV u i hc] at hb ⊢; exact r1.ub u i b (vJ u i hn) hb
 ·by_cases hc : u = t /\ i = 0
  ·obtain ⟨rfl, rfl⟩ := hc
   rw [na] at hb
   rcases hb with hb | hb
   ·exact r.own u 0 b wY hb
   ·have := wj b hb; exact ⟨this.1, this.2.1, this.2.2.1⟩
  ·rw [uV u i hc] at hb; exact r1.own u i b (vJ u i hn) hb
 ·have key : ∀ u i b, ¬ (u = t /\ i = 0) -> σ1.ob u i ≠ .none -> (h u i).u b -> (h' t 0).u b -> False := by
   intro u i b hc hn hb wW
   rw [na] at wW
   rcases wW with wW | wW
   ·exact hc (r1.inj u i t 0 b hn vu hb wW)
   ·exact (wj b wW).2.2.2 u i hn hb
  by_cases hc : u = t /\ i = 0
  ·by_cases wu : u' = t /\ i' = 0
   ·exact ⟨hc.1.trans wu.1.symm, hc.2.trans wu.2.symm⟩
   ·obtain ⟨rfl, rfl⟩ := hc
    rw [uV u' i' wu] at wW
    exact (key u' i' b wu (vJ u' i' wx) wW hb).elim
  ·rw [uV u i hc] at hb
   by_cases wu : u' = t /\ i' = 0
   ·obtain ⟨rfl, rfl⟩ := wu
    exact (key u i b hc (vJ u i hn) hb wW).elim
   ·rw [uV u' i' wu] at wW
    exact r1.inj u i u' i' b (vJ u i hn) (vJ u' i' wx) hb wW
end
section
variable {P : Program} {σ : St} {k : Fr}
theorem EM {A : Qh} {o : OpI} {l : JT} {d : Nat} {T : TypeId} {n : Nat} {parts : Array (Nat × Operand)} {news : List (List D)} {L : List (Nat × Nat)} (wA : o.o.op = .buildSlice T n parts) (hg : o.o.guard = none) (hd : o.o.dst = some d) (w7 : A.bar o.o = true)
  (h1 : (σ.fresh d = true /\ d < σ.length) /\ Ya P T = true /\ XH P (ZD P T) = true /\ 0 < P.cellsOf (ZD P T) /\ parts.toList.length = n /\ n * P.cellsOf (ZD P T) <= 16777216) (h2 : (Qf P σ (ZD P T) (P.cellsOf (ZD P T)) parts.toList 0).1)
  (h3 : Zw d (Qf P σ (ZD P T) (P.cellsOf (ZD P T)) parts.toList 0).2.flatten = false)
  (h4 : QY (σ.new d (.one (.sref d 0 0 (Qf P σ (ZD P T) (P.cellsOf (ZD P T)) parts.toList 0).2.length)) [.lit (P.cellsOf (ZD P T)) (Qf P σ (ZD P T) (P.cellsOf (ZD P T)) parts.toList 0).2]) (Qf P σ (ZD P T) (P.cellsOf (ZD P T)) parts.toList 0).2 = some news /\
   QI (σ.new d (.one (.sref d 0 0 (Qf P σ (ZD P T) (P.cellsOf (ZD P T)) parts.toList 0).2.length)) [.lit (P.cellsOf (ZD P T)) (Qf P σ (ZD P T) (P.cellsOf (ZD P T)) parts.toList 0).2]) (Qf P σ (ZD P T) (P.cellsOf (ZD P T)) parts.toList 0).2)
  (h5 : YL (Qf P σ (ZD P T) (P.cellsOf (ZD P T)) parts.toList 0).2.flatten = L /\ L.Nodup /\ (d, 0) ∉ L)
  (h6 : ((σ.new d (.one (.sref d 0 0 (Qf P σ (ZD P T) (P.cellsOf (ZD P T)) parts.toList 0).2.length)) [.lit (P.cellsOf (ZD P T)) (Qf P σ (ZD P T) (P.cellsOf (ZD P T)) parts.toList 0).2]).Zq L).KO (At.isP d) = false)
  (h : @EI P (((σ.new d (.one (.sref d 0 0 (Qf P σ (ZD P T) (P.cellsOf (ZD P T)) parts.toList 0).2.length)) [.lit (P.cellsOf (ZD P T)) (Qf P σ (ZD P T) (P.cellsOf (ZD P T)) parts.toList 0).2]).Zq L).Zh d 0 (.arr true (P.cellsOf (ZD P T)) news)) A l k) : @SI P σ A o l k := by
 refine ⟨_, .inr ⟨w7, ?_, fun d' wQ hc => Qs (Jy (kP (fun e => wQ (by rw [hd, e])) hc)), fun hh => by simp [kA, wA] at hh, fun hh => by first | (simp [xF, wA] at hh; done) | (unfold xF at hh; rw [wA] at hh; split at hh <;> simp_all), fun hh _ => by first | (simp [Qw, wA] at hh; done) | (unfold Qw at hh; rw [wA] at hh; split at hh <;> simp_all)⟩, Xy h⟩
 rintro T0 B a w K Q' ⟨X, hh, r⟩ hK
 have hw : Region.wanted o.o (yielded A.ops a.tmps) = true := by simp [Region.wanted, hg]
 rw [if_pos hw]
 refine VD r wA hd h1.1.1 h1.2.1 h1.2.2.1 h1.2.2.2.1 h1.2.2.2.2.1 h1.2.2.2.2.2 (OH h2) h3 (fun a' w' hr nW => hK a' w' ?_ nW)
 obtain ⟨X', uV, r'⟩ := hr
 exact Rel.E2 r' (by rw [St.X7, if_pos ⟨rfl, h1.1.2⟩]; rfl) h4.1 h4.2 h5.1 h5.2.1 h5.2.2 h6
end
attribute [simp] At.isP
theorem YD.own {P : Program} {f : FuncId} {args res : List (List D)} (hs : YD P f args res) : Xk P f true args res := by
 refine ⟨hs.1, fun T w wq hT ha => (hs.2 T w wq hT ha).mono ?_⟩
 rintro e w' ⟨vs, wc, he, hb, hf, hl, ⟨hlen, Sk, h1, h2, h3⟩⟩
 refine ⟨vs, wc, fun b => (w.heap.size <= b /\ b < w'.heap.size) /\ ∀ (k : Nat) (c : Value) (d : D), wc.flatten[k]? = some c -> res.flatten[k]? = some d -> d.scalar = false -> blk c ≠ some b, he, hb, fun b hb => hb.1, hf, K2 hl (fun k x d hx hd => ?_), fun _ => ⟨fun i c d b hc hd vV pC => ?_, fun i j c c' d d' b hc hd wu wQ vV pj pC lJ => ?_⟩⟩
 ·simp only [Ki, if_true]
  have ho := h1 k x d hx hd
  cases ho with
  | int k n => exact .int _ _
  | bool b => exact .bool _
  | str s => exact .str _
  | unk v h => exact .unk _ h
  | sl v size rows S e' xs rn ho hz wW gi hk r6 wQ =>
   refine ⟨e', xs, ho, hz, Zg.J2 gi (fun i y dd hy uA => (hk i y dd hy uA).rd (fun b k' hb => .inr ⟨h2 k b (r6 i b hb).1, fun k2 c2 d2 tv th pF nX => ?_⟩))⟩
   have tH := h1 k2 c2 d2 tv th
   have pT : Sk k2 b := by
    cases tH with
    | int k n => cases pF
    | bool b => cases pF
    | str s => cases pF
    | unk => cases pF
    | sl v2 pV pW S2 e2 iU iV tH mL wo r9 s3 wO nd => exact wo b nX
   have := h3 k k2 b (r6 i b hb).1 pT
   subst this
   rw [hx] at tv; cases tv
   exact (r6 i b hb).2 nX
 ·have tH := h1 i c d hc hd
  have pT : Sk i b := by
   cases tH with
   | int k n => cases vV
   | bool b => cases vV
   | str s => cases vV
   | unk => cases vV
   | sl v2 pV pW S2 e2 iU iV tH mL wo r9 s3 wO nd => exact wo b pC
  have := h2 i b pT
  exact ⟨this.1, this.2, fun hy => hy.2 i c d hc hd vV pC⟩
 ·have pT : ∀ (i : Nat) (c : Value) (d : D), wc.flatten[i]? = some c -> res.flatten[i]? = some d -> d.scalar = false -> blk c = some b -> Sk i b := by
   intro i c d hc hd vV pC
   have tH := h1 i c d hc hd
   cases tH with
   | int k n => cases vV
   | bool b => cases vV
   | str s => cases vV
   | unk => cases vV
   | sl v2 pV pW S2 e2 iU iV tH mL wo r9 s3 wO nd => exact wo b pC
  exact h3 i j b (pT i c d hc hd vV pC) (pT j c' d' wu wQ pj lJ)
end Go.Vm
namespace Go.Vm
open Go.RowKit
def NR (σ : St) (F : List (Nat × Nat)) : At -> At
 | .sref t j lo len => if inF F t j then (match σ.ob t j with | .arr _ s rows => .d (.sl s (cut rows lo len)) | _ => .any) else .sref t j lo len
 | .ptr t j i c => if inF F t j then .any else .ptr t j i c
 | .tref t j i c o => if inF F t j then .any else .tref t j i c o
 | x => x
def DG (σ : St) (F : List (Nat × Nat)) : V -> V
 | .one x => .one (NR σ F x)
 | .agg xs => .agg (xs.map (NR σ F))
 | .fix u (.one x) => .fix u (.one (NR σ F x))
 | .fix u (.agg xs) => .fix u (.agg (xs.map (NR σ F)))
 | _ => .any
def EN (σ : St) (F : List (Nat × Nat)) (t j : Nat) (o : Ob) : Ob :=
 if inF F t j then .none else match o with | .box cs => .box (cs.map (NR σ F)) | .lit _ _ => .none | o => o
def Ij (σ : St) (F : List (Nat × Nat)) (t : Nat) : List Ob -> Nat -> List Ob
 | [], _ => []
 | o :: os, j => EN σ F t j o :: Ij σ F t os (j + 1)
def TU (σ : St) (F : List (Nat × Nat)) : List Ent -> Nat -> List Ent
 | [], _ => []
 | e :: es, t => (DG σ F e.1, Ij σ F t e.2 0) :: TU σ F es (t + 1)
def St.frz (σ : St) (F : List (Nat × Nat)) : St := TU σ F σ 0
theorem NY {F : List (Nat × Nat)} : ∀ {σ0 : St} {es : List Ent} {t d : Nat}, Yc es d = true -> Yc (TU σ0 F es t) d = true
 | σ0, [], t, d, h => by simp [Yc] at h
 | σ0, e :: es, t, 0, h => by
  rw [Ku] at h ⊢
  rcases h with h | ⟨x, h⟩
  ·left; simp only [List.getElem?_cons_zero, Option.some.injEq] at h; subst h; rfl
  ·right; simp only [List.getElem?_cons_zero, Option.some.injEq] at h; subst h; exact ⟨x, rfl⟩
 | σ0, e :: es, t, d + 1, h => by
  have : Yc es d = true := by rw [Ku] at h ⊢; simpa using h
  have := NY (F := F) (σ0 := σ0) (es := es) (t := t + 1) this
  rw [Ku] at this ⊢
  simpa [TU] using this
section
variable {P : Program} {σ : St} {k : Fr}
theorem DA {A : Qh} {o : OpI} {l : JT} {σ' : St} (w7 : A.bar o.o = true) (hw : Wk σ σ') (hc : ∀ d, Yc σ d = true -> Yc σ' d = true) (tc : kA o.o = false) (lH : xF o.o = false) (tB : Qw P o.o = false \/ UP A.bar o.o = false) (h : @SI P σ' A o l k) : @SI P σ A o l k := by
 obtain ⟨σ'', hs, hr⟩ := h
 refine ⟨σ'', .inr ⟨w7, fun T0 B a w K Q vY hK => Vn hs T0 B a w K Q (hw T0 B a w vY) hK, fun d hd wk => ?_, fun hh => (by rw [tc] at hh; cases hh), fun hh => (by rw [lH] at hh; cases hh), fun hh ho => (by rcases tB with tB | tB <;> (first | (rw [tB] at hh; cases hh) | (rw [tB] at ho; cases ho)))⟩, hr⟩
 have h1 := hc d wk
 rcases hs with hs | hs
 ·exact Po hs hd h1
 ·exact hs.2.2.1 d hd h1
theorem LF {A : Qh} {o : OpI} {l : JT} (F : List (Nat × Nat)) (w7 : A.bar o.o = true) (hw : Vj σ [] F σ (σ.frz F) 0) (h : @SI P (σ.frz F) A o l k) (tc : kA o.o = false := by exact rfl) (lH : xF o.o = false := by exact rfl) (tB : Qw P o.o = false \/ UP A.bar o.o = false := by first | exact .inl rfl | exact .inr rfl) : @SI P σ A o l k :=
 DA w7 (Y5 [] F rfl hw) (fun _ hd => NY hd) tc lH tB h
end
attribute [simp] NR DG EN Ij TU St.frz
end Go.Vm
namespace Go.Vm
end Go.Vm
namespace Go.Vm
end Go.Vm
namespace Go.Vm
open Go.RowKit
abbrev ptr (b : Nat) : Value := .pointer (some ⟨b, 0, none⟩)
abbrev Nf (T : CS) (w : World) (wq : List Value) (args : List (List D)) : Prop := Zg (fun v row => ∃ cs, JI v cs /\ Zg (Rd T w) cs row) wq args
def KP (n : Nat) (pre : List (List D)) (v : Value) (cells : List At) (vd : List Ob) (post : List (List D)) : St :=
 Ul pre ++ (.fix v (.one (.bptr pre.length 0)), .box cells :: vd) :: (Ul post ++ List.replicate (n - (pre.length + 1 + post.length)) (V.any, []))
section
variable {P : Program} {T0 : CS} {B : Nat -> Prop} {σ : St} {a : Act} {w w' : World} {X X' : Nat -> Prop} {h : Nat -> Nat -> Hd}
theorem GM (post : List (List D)) (m t : Nat) : ∃ x, (match (Ul post ++ List.replicate m ((V.any, []) : Ent))[t]? with | some e => e | none => (V.any, [])) = (x, []) /\ (x = .any \/ ∃ r, post[t]? = some r /\ x = vOf (r.map .d)) := by
 rcases Nat.lt_or_ge t post.length with h | h
 ·rw [List.getElem?_append_left (by rw [Xd]; exact h), VG, List.getElem?_eq_getElem h]
  exact ⟨_, rfl, .inr ⟨_, rfl, rfl⟩⟩
 ·rw [List.getElem?_append_right (by rw [Xd]; exact h), List.getElem?_replicate]
  refine ⟨.any, ?_, .inl rfl⟩
  split
  ·rename_i e he
   split at he
   ·cases he; rfl
   ·cases he
  ·rfl
theorem FE (n : Nat) (pre : List (List D)) (v : Value) (cells : List At) (vd : List Ob) (post : List (List D)) (t : Nat) :
  (t = pre.length /\ (KP n pre v cells vd post)[t]? = some (.fix v (.one (.bptr pre.length 0)), .box cells :: vd)) \/
  (t ≠ pre.length /\ (∀ j, (KP n pre v cells vd post).ob t j = .none) /\ ((KP n pre v cells vd post).get t = .any \/ ∃ r, (KP n pre v cells vd post).get t = vOf (r.map .d) /\ ((t < pre.length /\ pre[t]? = some r) \/ (pre.length < t /\ post[t - pre.length - 1]? = some r)))) := by
 rcases Nat.lt_trichotomy t pre.length with h | h | h
 ·refine .inr ⟨by omega, ?_⟩
  have : (KP n pre v cells vd post)[t]? = some (vOf (pre[t].map .d), []) := by
   unfold KP
   rw [List.getElem?_append_left (by rw [Xd]; exact h), VG, List.getElem?_eq_getElem h]; rfl
  refine ⟨fun j => by unfold St.ob; rw [this]; simp [YB], .inr ⟨pre[t], by unfold St.get; rw [this], .inl ⟨h, List.getElem?_eq_getElem h⟩⟩⟩
 ·refine .inl ⟨h, ?_⟩
  unfold KP
  rw [List.getElem?_append_right (by rw [Xd]; omega), Xd, h, Nat.sub_self]; rfl
 ·refine .inr ⟨by omega, ?_⟩
  have e1 : (KP n pre v cells vd post)[t]? = (Ul post ++ List.replicate (n - (pre.length + 1 + post.length)) ((V.any, []) : Ent))[t - pre.length - 1]? := by
   unfold KP
   rw [List.getElem?_append_right (by rw [Xd]; omega), Xd, show t - pre.length = (t - pre.length - 1) + 1 by omega, List.getElem?_cons_succ]; rfl
  obtain ⟨x, hx, hr⟩ := GM post (n - (pre.length + 1 + post.length)) (t - pre.length - 1)
  rw [<- e1] at hx
  constructor
  ·intro j
   unfold St.ob
   cases hq : (KP n pre v cells vd post)[t]? with
   | none => rfl
   | some e => rw [hq] at hx; simp only at hx; rw [hx]; simp [YB]
  ·have hg : (KP n pre v cells vd post).get t = x := by
    unfold St.get
    cases hq : (KP n pre v cells vd post)[t]? with
    | none => rw [hq] at hx; simp only at hx; injection hx
    | some e => rw [hq] at hx; simp only at hx; rw [hx]
   rcases hr with rfl | ⟨r, hr, rfl⟩
   ·exact .inl hg
   ·exact .inr ⟨r, hg, .inr ⟨h, hr⟩⟩
theorem NP {T : CS} {S : Nat -> Prop} {n b : Nat} {pre post : List (List D)} {cells : List At} {vd : List Ob} {vX vk : List Value} (hd : Nat -> Hd)
  (hT : ∀ k i, T k i -> k < w.heap.size /\ k ≠ b /\ ¬ S k) (hS : ∀ k, S k -> k < w.heap.size /\ k ≠ b) (hb : b < w.heap.size) (h0 : hd 0 = Hd.of (ptr b))
  (uC : ∀ (h : Nat -> Nat -> Hd) (ob : Nat -> Nat -> Ob), (∀ j, h pre.length j = hd j) -> (∀ j, ob pre.length j = YB (.box cells :: vd) j) -> X6 (Tof T (fun _ => False)) h ob w (hd 0) (.box cells))
  (vI : ∀ (h : Nat -> Nat -> Hd) (ob : Nat -> Nat -> Ob) (j : Nat), X6 (Tof T (fun _ => False)) h ob w (hd (j + 1)) (YB vd j))
  (vN : ∀ j k, YB vd j ≠ .none -> blk (hd (j + 1)).v = some k -> (hd (j + 1)).u k) (wL : ∀ j k, YB vd j ≠ .none -> (hd (j + 1)).u k -> S k)
  (rE : ∀ i j k, YB vd i ≠ .none -> YB vd j ≠ .none -> (hd (i + 1)).u k -> (hd (j + 1)).u k -> i = j) (iN : Nf T w vX pre) (iO : Nf T w vk post) :
  QK T (fun k => k < w.heap.size /\ k ≠ b /\ ¬ S k) (KP n pre (ptr b) cells vd post) { tmps := (vX ++ ptr b :: vk).toArray ++ Array.replicate (n - (vX ++ ptr b :: vk).toArray.size) undef, defers := [] } w := by
 have nD := iN.length
 have r9 := iO.length
 have uR := FE n pre (ptr b) cells vd post
 have vU : ∀ j, (KP n pre (ptr b) cells vd post).ob pre.length j = YB (.box cells :: vd) j := by
  intro j
  rcases uR pre.length with ⟨_, h⟩ | ⟨h, _⟩
  ·unfold St.ob; rw [h]
  ·exact absurd rfl h
 have rT : ∀ t j, (KP n pre (ptr b) cells vd post).ob t j ≠ .none -> t = pre.length := by
  intro t j hn
  rcases uR t with ⟨h, _⟩ | ⟨_, h, _⟩
  ·exact h
  ·exact absurd (h j) hn
 have sr : ∀ b k v, T b k -> w.cell? ⟨b, k, none⟩ = some v -> w.cell? ⟨b, k, none⟩ = some v /\ Tof T (fun _ => False) b k := fun b k v hb hc => ⟨hc, .inl hb⟩
 have oG : ∀ k, (hd 0).u k ↔ k = b := fun k => by rw [h0]; simp [Hd.of, blk, eq_comm]
 have vD : ∀ j, YB (.box cells :: vd) j ≠ .none -> (j = 0 \/ ∃ i, j = i + 1 /\ YB vd i ≠ .none) := by
  intro j hn
  cases j with
  | zero => exact .inl rfl
  | succ j => exact .inr ⟨j, rfl, by rw [yx] at hn; exact hn⟩
 have lI : ∀ j k, YB (.box cells :: vd) j ≠ .none -> (hd j).u k -> k = b \/ S k := by
  intro j k hn hu
  rcases vD j hn with rfl | ⟨i, rfl, hi⟩
  ·exact .inl ((oG k).1 hu)
  ·exact .inr (wL i k hi hu)
 have pU : ∀ {wq : List Value} {args : List (List D)} {t : Nat} {r : List D}, Nf T w wq args -> args[t]? = some r -> ∃ v, wq[t]? = some v /\ XW (Tof T (fun _ => False)) (fun t j => if t = pre.length then hd j else Hd.of undef) (KP n pre (ptr b) cells vd post).ob w (vOf (r.map .d)) v := by
  intro wq args t r ha hr
  obtain ⟨v, hv, cs, hf, wG⟩ := ha.get' t r hr
  exact ⟨v, hv, (R5 hf (qJ (wG.imp fun _ _ => Rd.mono sr))).up⟩
 refine ⟨fun _ => False, fun t j => if t = pre.length then hd j else Hd.of undef, ?_⟩
 refine ⟨?_, rfl, (fun k hk => hk.1), (fun b hb => hb.elim), (fun k i hk => hT k i hk), fun t ht => ?_, fun t j => ?_, fun t j k hn hk => ?_, fun t j k hn hk => ?_, fun t j t' j' k hn wx hk va => ?_⟩
 ·simp [KP, Xd, nD, r9]; omega
 ·rcases uR t with ⟨rfl, h⟩ | ⟨wC, _, h⟩
  ·have uW : ((vX ++ ptr b :: vk).toArray ++ Array.replicate (n - (vX ++ ptr b :: vk).toArray.size) undef).getD pre.length undef = ptr b := by
    rw [Array.getD_eq_getD_getElem?, Array.getElem?_append_left (by simp; omega)]
    simp [<- nD]
   rw [uW]
   unfold St.get; rw [h]
   exact ⟨rfl, rfl, fun wJ _ => ⟨b, by simp [h0, Hd.of], rfl⟩⟩
  ·rcases h with h | ⟨r, h, hr⟩
   ·rw [h]; trivial
   ·rw [h]
    rcases hr with ⟨wN, hr⟩ | ⟨wN, hr⟩
    ·obtain ⟨v, hv, vY⟩ := pU iN hr
     have uW : ((vX ++ ptr b :: vk).toArray ++ Array.replicate (n - (vX ++ ptr b :: vk).toArray.size) undef).getD t undef = v := by
      rw [Array.getD_eq_getD_getElem?, Array.getElem?_append_left (by simp; omega)]
      simp [List.getElem?_append_left (show t < vX.length by omega), hv]
     simp only [uW]; exact vY
    ·obtain ⟨v, hv, vY⟩ := pU iO hr
     have lO := (List.getElem?_eq_some_iff.1 hv).1
     have uW : ((vX ++ ptr b :: vk).toArray ++ Array.replicate (n - (vX ++ ptr b :: vk).toArray.size) undef).getD t undef = v := by
      rw [Array.getD_eq_getD_getElem?, Array.getElem?_append_left (by simp; omega)]
      simp only [List.getElem?_toArray]
      rw [List.getElem?_append_right (by omega), show t - vX.length = (t - pre.length - 1) + 1 by omega, List.getElem?_cons_succ, hv]; rfl
     simp only [uW]; exact vY
 ·by_cases hn : (KP n pre (ptr b) cells vd post).ob t j = .none
  ·rw [hn]; trivial
  ·obtain rfl := rT t j hn
   rw [vU]
   simp only [if_true]
   cases j with
   | zero => exact uC _ _ (fun j => by simp) vU
   | succ j => rw [yx]; exact vI _ _ j
 ·obtain rfl := rT t j hn
  rw [vU] at hn
  simp only [if_true] at hk ⊢
  rcases vD j hn with rfl | ⟨i, rfl, hi⟩
  ·rw [h0] at hk ⊢; exact hk
  ·exact vN i k hi hk
 ·obtain rfl := rT t j hn
  rw [vU] at hn
  simp only [if_true] at hk
  rcases lI j k hn hk with rfl | hs
  ·exact ⟨fun hh => hh.2.1 rfl, fun hh => hh, hb⟩
  ·exact ⟨fun hh => hh.2.2 hs, fun hh => hh, (hS k hs).1⟩
 ·obtain rfl := rT t j hn
  obtain rfl := rT t' j' wx
  rw [vU] at hn wx
  simp only [if_true] at hk va
  refine ⟨rfl, ?_⟩
  rcases vD j hn with rfl | ⟨i, rfl, hi⟩
  ·rcases vD j' wx with rfl | ⟨i', rfl, vZ⟩
   ·rfl
   ·exact absurd ((oG k).1 hk) (hS k (wL i' k vZ va)).2
  ·rcases vD j' wx with rfl | ⟨i', rfl, vZ⟩
   ·exact absurd ((oG k).1 va) (hS k (wL i k hi hk)).2
   ·rw [rE i i' k hi vZ hk va]
end
end Go.Vm
namespace Go.Vm
open Go.RowKit
def EW (dp : Bool) (T : CS) (w : World) (b : Nat) (wF : List D) (res : List (List D)) (e : Ending) (w' : World) : Prop :=
 ∃ (vs : List Value) (wc : List (List Value)) (Y : Nat -> Prop), e = .returned (Vr vs) /\ Y0 (fun k => k < w.heap.size /\ k ≠ b) w w' /\ (∀ k, Y k -> w.heap.size <= k /\ k < w'.heap.size) /\
  (∃ cs e', w'.heap[b]? = some (.cells cs e' (0, 0)) /\ Zg (Rd (Tof T Y) w') cs.toList wF) /\ Zg JI vs wc /\ Zg (fun (cs : List Value) (row : List D) => cs.length = row.length) wc res /\
  (if dp then QU w' wc.flatten res.flatten (fun k => w.heap.size <= k /\ k < w'.heap.size /\ ¬ Y k) else Zg (fun cs row => Zg (Rd (Tof T Y) w') cs row) wc res)
def Xt (P : Program) (f : FuncId) (dp : Bool) (row : List D) (args : List (List D)) (wF : List D) (res : List (List D)) : Prop :=
 kJ P f = true /\ ∀ (T : CS) (w : World) (b : Nat) (wq : List Value), (∀ k i, T k i -> k < w.heap.size /\ k ≠ b) -> b < w.heap.size -> (∃ cs e, w.heap[b]? = some (.cells cs e (0, 0)) /\ Zg (Rd T w) cs.toList row) ->
  Nf T w wq args -> Calls P f (ptr b :: wq).toArray w (EW dp T w b wF res)
def Ej (P : Program) (fn : Func) (v : Value) (dp : Bool) (wF : List D) (res : List (List D)) (e : Exit) (σ : St) : Prop :=
 (e = .ret \/ e = .normal) /\ (∃ vd, σ.head? = some (.fix v (.one (.bptr 0 0)), .box (wF.map .d) :: vd)) /\ ∃ vL, WC P σ fn.results.toList vL /\
  (if dp then QY σ vL = some res /\ QI σ vL /\ (YL vL.flatten).Nodup else yl σ vL = some res)
def Sr (P : Program) (f : FuncId) (args : List (List D)) (wF : List D) : Prop :=
 kJ P f = true /\ ∀ (T : CS) (w : World) (wq : List Value), (∀ k i, T k i -> k < w.heap.size) -> Nf T w wq args ->
  Calls P f wq.toArray w fun e w' => ∃ b Y, e = .returned (ptr b) /\ Below w.heap.size w w' /\ w.heap.size <= b /\ b < w'.heap.size /\ (∀ k, Y k -> w.heap.size <= k /\ k < w'.heap.size /\ k ≠ b) /\ ∃ cs e', w'.heap[b]? = some (.cells cs e' (0, 0)) /\ Zg (Rd (Tof T Y) w') cs.toList wF
def Eo (P : Program) (fn : Func) (wF : List D) (e : Exit) (σ : St) : Prop :=
 (e = .ret \/ e = .normal) /\ ∃ u, WC P σ fn.results.toList [[.bptr u 0]] /\ σ.ob u 0 = .box (wF.map .d)
section
variable {P : Program} {T0 : CS} {B : Nat -> Prop} {σ : St} {a : Act} {w w' : World} {X X' : Nat -> Prop} {h : Nat -> Nat -> Hd}
theorem Vi {T : CS} {ob : Nat -> Nat -> Ob} : ∀ {row : List D} {cs : List Value}, Zg (Zr T h ob w) (row.map .d) cs -> Zg (Rd T w) cs row
 | [], _, wG => by cases wG; exact .nil
 | _ :: _, _, wG => by cases wG with | cons h1 h2 => exact .cons h1 (Vi h2)
theorem O5 {f : FuncId} {fn : Func} {c : Code} (hf : P.funcs[f]? = some fn) (hb : fn.body = some c) (wb : kJ P f = true) {dp : Bool} {row : List D} {args : List (List D)} {wF : List D} {res : List (List D)}
  (hw : ∀ v, AWP P c (Ej P fn v dp wF res) (KP fn.ntmps [] v (row.map .d) [] args)) : Xt P f dp row args wF res := by
 refine ⟨wb, fun T w b wq hT wW ⟨lK, e0, nE, pq⟩ wK => calls_of_wp hf hb ?_⟩
 have sO := NP (w := w) (T := T) (S := fun _ => False) (n := fn.ntmps) (b := b) (pre := []) (post := args) (cells := row.map .d) (vd := []) (vX := []) (vk := wq) (fun _ => Hd.of (ptr b))
  (fun k i hk => ⟨(hT k i hk).1, (hT k i hk).2, fun hh => hh⟩) (fun k hk => hk.elim) wW rfl
  (fun h ob _ _ => ⟨b, lK, e0, rfl, nE, qJ (pq.imp fun _ _ => Rd.mono (fun b k v hb hc => ⟨hc, .inl hb⟩))⟩) (fun h ob j => by simp [YB, X6]) (fun j k hn => by simp [YB] at hn) (fun j k hn => by simp [YB] at hn) (fun i j k hn => by simp [YB] at hn) .nil wK
 simp only [List.nil_append] at sO
 refine wp_mono (hw (ptr b) T _ _ w sO) ?_
 rintro e a' w' ⟨σ', ⟨he, ⟨vd, rG⟩, vL, vb, wM⟩, ⟨X, h, r⟩, wS⟩
 obtain ⟨vs, wc, wV, wi, wG⟩ := xH r vb
 have vO : 0 < σ'.length := by
  cases σ' with
  | nil => simp at rG
  | cons e σ => simp
 have oy : σ'.get 0 = .fix (ptr b) (.one (.bptr 0 0)) := by
  cases σ' with
  | nil => simp at rG
  | cons e σ => simp at rG; simp [St.get, rG]
 have vA : σ'.ob 0 0 = .box (wF.map .d) := by
  cases σ' with
  | nil => simp at rG
  | cons e σ => simp at rG; simp [St.ob, rG, YB]
 have tW := r.slot 0 vO
 rw [oy] at tW
 obtain ⟨oE, vy⟩ := tW
 obtain ⟨b1, vM, vB⟩ := vy.2 _ vA
 rw [oE] at vB
 have uD : b1 = b := by injection vB with vB; injection vB with vB; injection vB with vB; exact vB.symm
 subst uD
 have vD := r.obj 0 0
 rw [vA] at vD
 obtain ⟨b2, sD, e', wo, uV, u9⟩ := vD
 rw [vM] at wo
 have uD : b2 = b1 := by injection wo with wo; injection wo with wo; injection wo with wo; exact wo.symm
 subst uD
 have rU : Y0 (fun k => k < w.heap.size /\ k ≠ b2) w w' := ⟨wS.os, wS.tape, wS.output, wS.size, fun k hk => wS.block k ⟨hk.1, hk.2, fun hh => hh⟩⟩
 have gh : ∀ k, X k -> k = b2 -> False := by
  rintro k hx rfl
  have vN := r.ub 0 0 k (by rw [vA]; simp) (by rw [vM]; rfl)
  exact (r.own 0 0 k (by rw [vA]; simp) vN).2.1 hx
 have lP : ∀ k, X k -> w.heap.size <= k /\ k < w'.heap.size := by
  intro k hk
  have h1 := r.hX k hk
  refine ⟨?_, h1.2⟩
  rcases Nat.lt_or_ge k w.heap.size with wN | uk
  ·exact absurd ⟨wN, fun hh => gh k hk hh, fun hh => hh⟩ h1.1
  ·exact uk
 have goal : a'.defers = [] /\ ∃ v, (results fn a'.tmps).run P w' = .ok v w' /\ EW dp T w b2 wF res (.returned v) w' := by
  refine ⟨r.defers, _, wV, ?_⟩
  cases dp with
  | true =>
   simp only [if_true] at wM
   obtain ⟨vq, vz, w9⟩ := wM
   refine ⟨vs, wc, X, rfl, rU, lP, ⟨sD, e', uV, Vi u9⟩, wi, ?_, ?_⟩
   ·clear w9 vz vb wV wi hw
    induction wG generalizing res with
    | nil => simp [QY] at vq; subst vq; exact .nil
    | cons h1 _ ih =>
     simp only [QY] at vq
     split at vq
     ·rename_i row rs we uN
      cases vq
      exact .cons (by rw [<- h1.length]; exact (Kn we).1) (ih uN)
     ·cases vq
   ·simp only [if_true]
    refine (Um r (Kk wG) (KA vq).1 (Jz vz) w9).mono (fun k hk => ?_)
    have hg := r.zN _ k hk
    refine ⟨?_, hg.2.2.1, hg.2.1⟩
    rcases Nat.lt_or_ge k w.heap.size with wN | uk
    ·refine absurd ⟨wN, ?_, fun hh => hh⟩ hg.1
     rintro rfl
     obtain ⟨p, hp, wC, hu⟩ := hk
     have vN := r.ub 0 0 k (by rw [vA]; simp) (by rw [vM]; rfl)
     obtain ⟨e1, e2⟩ := r.inj p.1 p.2 0 0 k wC (by rw [vA]; simp) hu vN
     obtain ⟨i, lo, len, hx⟩ := V8 hp
     have hm := Vs (Jz vz) i _ hx
     rw [e1, e2] at hm
     obtain ⟨d, hd, nZ⟩ := (Zg.get (R := fun x d => mvD σ' x = some d) (Zg.J2 (Kn (KA vq).1).1 (fun i a b h1 h2 => (Kn (KA vq).1).2 i a b h1 h2)) i _ hx)
     rw [e1, e2] at nZ
     simp [mvD, vA] at nZ
    ·exact uk
  | false =>
   simp only [Bool.false_eq_true, if_false] at wM
   refine ⟨vs, wc, fun k => w.heap.size <= k /\ k < w'.heap.size, rfl, rU, fun k hk => hk, ⟨sD, e', uV, (Vi u9).imp fun _ _ => Rd.mono (fun k i v hk hc => ⟨hc, ?_⟩)⟩, wi, ?_, ?_⟩
   ·rcases hk with hk | hk
    ·exact .inl hk
    ·exact .inr (lP k hk)
   ·clear vb wV wi hw
    induction wG generalizing res with
    | nil => simp [yl] at wM; subst wM; exact .nil
    | cons h1 _ ih =>
     simp only [yl] at wM
     split at wM
     ·rename_i row rs we uN
      cases wM
      exact .cons ((r.rowOf false we h1 (fun hh => by cases hh)).length) (ih uN)
     ·cases wM
   ·simp only [Bool.false_eq_true, if_false]
    refine WE r (fun k i hk => ?_) wM wG
    rcases hk with hk | ⟨t, j, q, size, rows, ho, hk⟩
    ·rcases hk with hk | hk
     ·exact .inl hk
     ·exact .inr (lP k hk)
    ·have wC : σ'.ob t j ≠ .none := by rw [ho]; simp
     have wL := r.own t j k wC hk
     refine .inr ⟨?_, wL.2.2⟩
     rcases Nat.lt_or_ge k w.heap.size with wN | uk
     ·refine absurd ⟨wN, ?_, fun hh => hh⟩ wL.1
      rintro rfl
      have vN := r.ub 0 0 k (by rw [vA]; simp) (by rw [vM]; rfl)
      obtain ⟨e1, e2⟩ := r.inj t j 0 0 k wC (by rw [vA]; simp) hk vN
      rw [e1, e2, vA] at ho; cases ho
     ·exact uk
 rcases he with rfl | rfl
 ·exact goal
 ·exact goal
theorem Oy {f : FuncId} {fn : Func} {c : Code} (hf : P.funcs[f]? = some fn) (hb : fn.body = some c) (wb : kJ P f = true) {args : List (List D)} {wF : List D}
  (hw : AWP P c (Eo P fn wF) (zq fn.ntmps args)) : Sr P f args wF := by
 refine ⟨wb, fun T w wq hT wK => calls_of_wp hf hb ?_⟩
 refine wp_mono (hw T (fun b => b < w.heap.size) _ w (P0 hT wK)) ?_
 rintro e a' w' ⟨σ', ⟨he, u, vb, oF⟩, ⟨X, h, r⟩, wS⟩
 have vc : Below w.heap.size w w' := ⟨wS.os, wS.tape, wS.output, wS.size, wS.block⟩
 obtain ⟨vs, wc, wV, wi, wG⟩ := xH r vb
 cases wG with
 | cons h1 wG =>
  cases wG
  cases h1 with
  | @cons _ c0 _ _ hx h1 =>
   cases h1
   cases wi with
   | @cons v0 _ _ _ hu hn =>
    cases hn
    have vx : v0 = c0 := by
     rcases hu with ⟨c', ou, rfl, _⟩ | ⟨hn, _⟩
     ·cases ou; rfl
     ·simp at hn
    subst vx
    obtain ⟨b, vM, hv⟩ := hx.2 _ oF
    have vD := r.obj u 0
    rw [oF] at vD
    obtain ⟨b2, sD, e', wo, uV, u9⟩ := vD
    rw [vM] at wo
    have uD : b2 = b := by injection wo with wo; injection wo with wo; injection wo with wo; exact wo.symm
    subst uD
    have wC : σ'.ob u 0 ≠ .none := by rw [oF]; simp
    have vN := r.ub u 0 b2 wC (by rw [vM]; rfl)
    have wL := r.own u 0 b2 wC vN
    have goal : a'.defers = [] /\ ∃ v, (results fn a'.tmps).run P w' = .ok v w' /\ ∃ b Y, Ending.returned v = .returned (ptr b) /\ Below w.heap.size w w' /\ w.heap.size <= b /\ b < w'.heap.size /\ (∀ k, Y k -> w.heap.size <= k /\ k < w'.heap.size /\ k ≠ b) /\ ∃ cs e', w'.heap[b]? = some (.cells cs e' (0, 0)) /\ Zg (Rd (Tof T Y) w') cs.toList wF := by
     refine ⟨r.defers, _, wV, b2, X, by rw [hv]; rfl, vc, by have := wL.1; omega, wL.2.2, fun k hk => ?_, sD, e', uV, Vi u9⟩
     have va := r.hX k hk
     refine ⟨by have := va.1; omega, va.2, ?_⟩
     rintro rfl
     exact wL.2.1 hk
    rcases he with rfl | rfl
    ·exact goal
    ·exact goal
end
end Go.Vm
namespace Go.Vm
open Go.RowKit
section
variable {P : Program} {T0 : CS} {B : Nat -> Prop} {σ : St} {a : Act} {w w' : World} {X X' : Nat -> Prop} {h : Nat -> Nat -> Hd}
theorem HQ {T : CS} {ob : Nat -> Nat -> Ob} {hd : Hd} {size : Nat} {rows : List (List D)} (hr : X6 T h ob w hd (.arr true size rows)) (hf : ∀ r ∈ rows, ∀ x ∈ r, x.scalar = true) : X6 T h ob w hd (.arr false size rows) := by
 obtain ⟨e, xs, ho, hz, ⟨hl, Sk, hk, _, _⟩, _⟩ := hr
 refine ⟨e, xs, ho, hz, Zg.J2 hl (fun k x d hx hd => ?_)⟩
 obtain ⟨r0, uo, hdr⟩ := List.mem_flatten.1 (List.mem_of_getElem? hd)
 have vV := hf r0 uo d hdr
 have := hk k x d hx hd
 cases this with
 | int k n => exact .int _ _
 | bool b => exact .bool _
 | str s => exact .str _
 | unk v h => exact .unk _ h
 | sl => cases vV
theorem Rel.Ec (r : Rel T0 B σ a w X h) {d : Nat} (hf : σ.fresh d = true) (M : Nat -> Prop) (hM : ∀ b, M b -> ¬ B b /\ ¬ X b /\ b < w.heap.size /\ ∀ t j, σ.ob t j ≠ .none -> ¬ (h t j).u b) {vs : List Value} {wc : List (List Value)} {res : List (List D)} (qs : List Bool)
  (wi : Zg JI vs wc) (hlen : Zg (fun (cs : List Value) (row : List D) => cs.length = row.length) wc res) (wL : QU w wc.flatten res.flatten M) (hq : KQ qs res.flatten) : QK T0 B (σ.new d (xZ d res) (Zs qs res.flatten)) (a.put (some d) (Vr vs)) w := by
 have wN := St.Jr hf
 obtain ⟨sZ, Sk, k1, k2, k3, k4⟩ := Mz wL
 have wY : ∀ j, (σ.new d (xZ d res) (Zs qs res.flatten)).ob d j = YB (Zs qs res.flatten) j := fun j => by rw [St.X7]; simp [wN]
 have lQ := wL.top (T := Tof T0 X)
 have vw : Zg (fun cs row => Zg (y6 (Tof T0 X) w) cs row) wc res := K2 hlen (fun k x d hx hd => by
  obtain ⟨c, hc, ht⟩ := lQ.get' k d hd
  rw [hx] at hc; cases hc; exact ht)
 refine ⟨X, fun t j => if t = d then sZ j else h t j, ?_⟩
 refine r.F8 hf M (Nat.le_refl _) (fun _ _ _ => rfl) (fun b hb => ⟨(hM b hb).1, (hM b hb).2.1, fun t j _ hn => (hM b hb).2.2.2 t j hn⟩) (fun b hb => hb) (fun b hb => .inl hb) (xZ d res) (Vr vs) (Zs qs res.flatten) sZ ?_ (fun j => ?_) (fun j b wC hb => ?_) (fun j b wC hb => ?_) (fun j j' b wC wz hb wW => ?_)
 ·exact OQ (h := fun t j => if t = d then sZ j else h t j) (ob := (σ.new d (xZ d res) (Zs qs res.flatten)).ob) (t := d) wi vw (fun i size rows hi => by
   obtain ⟨q, um, _⟩ := (YA qs res.flatten i hq).1 size rows hi
   exact ⟨q, by rw [wY]; exact um⟩) (fun i c hi => by simp only [if_true]; exact k1 i c hi)
 ·by_cases wC : YB (Zs qs res.flatten) j = .none
  ·rw [wC]; trivial
  ·obtain ⟨size, rows, hj⟩ := (YA qs res.flatten j hq).2 wC
   obtain ⟨q, um, nK⟩ := (YA qs res.flatten j hq).1 size rows hj
   rw [um]
   have := (k4 j size rows hj).2.2 (Tof T0 X) (fun t j => if t = d then sZ j else h t j) (σ.new d (xZ d res) (Zs qs res.flatten)).ob
   cases q with
   | true => exact this
   | false => exact HQ this (nK rfl)
 ·obtain ⟨size, rows, hj⟩ := (YA qs res.flatten j hq).2 wC
  exact (k4 j size rows hj).2.1 b hb
 ·obtain ⟨size, rows, hj⟩ := (YA qs res.flatten j hq).2 wC
  have := k2 j b ((k4 j size rows hj).1 b hb)
  exact ⟨.inr this, (hM b this).2.1, (hM b this).2.2.1⟩
 ·obtain ⟨size, rows, hj⟩ := (YA qs res.flatten j hq).2 wC
  obtain ⟨wZ, wT, uY⟩ := (YA qs res.flatten j' hq).2 wz
  exact k3 j j' b ((k4 j size rows hj).1 b hb) ((k4 j' wZ wT uY).1 b wW)
theorem Rel.GW (r : Rel T0 B σ a w X h) {t b : Nat} {cells : List At} {wF : List D} (ho : σ.ob t 0 = .box cells) (hv : (h t 0).v = ptr b) (vK : w.heap.size <= w'.heap.size) (hw : ∀ k, k < w.heap.size -> k ≠ b -> w'.heap[k]? = w.heap[k]?)
  (hX : ∀ b, X b -> X' b) (sy : ∀ b, X' b -> X b \/ (w.heap.size <= b /\ b < w'.heap.size)) (tS : ∃ cs e, w'.heap[b]? = some (.cells cs e (0, 0)) /\ Zg (Rd (Tof T0 X') w') cs.toList wF) : Rel T0 B (σ.Zh t 0 (.box (wF.map .d))) a w' X' h := by
 have wY : σ.ob t 0 ≠ .none := by rw [ho]; simp
 have vE : blk (h t 0).v = some b := by rw [hv]; rfl
 have vN := r.ub t 0 b wY vE
 have nb := r.own t 0 b wY vN
 have hT : ∀ k i v, Tof T0 X k i -> w.cell? ⟨k, i, none⟩ = some v -> w'.cell? ⟨k, i, none⟩ = some v /\ Tof T0 X' k i := by
  intro k i v hk hc
  refine ⟨?_, hk.imp id (hX k)⟩
  have wC : k ≠ b := by
   rintro rfl
   rcases hk with hk | hk
   ·exact nb.1 (r.hT _ _ hk)
   ·exact nb.2.1 hk
  rw [World.cell?_of_block (hw k (r.Tlt hk) wC)]; exact hc
 have vI : ∀ u i, ¬ (u = t /\ i = 0) -> (σ.Zh t 0 (.box (wF.map .d))).ob u i = σ.ob u i := by
  intro u i wC
  rw [St.Xf σ t 0 _ u i wY, if_neg wC]
 have vF : (σ.Zh t 0 (.box (wF.map .d))).ob t 0 = .box (wF.map .d) := by rw [St.Xf σ t 0 _ t 0 wY]; simp
 have m9 : ∀ u i, Cpt h h σ.ob (σ.Zh t 0 (.box (wF.map .d))).ob u i := by
  intro u i
  by_cases hu : u = t /\ i = 0
  ·obtain ⟨rfl, rfl⟩ := hu
   refine ⟨fun q size rows wX => ?_, fun size rows wX => ?_, fun wJ wX => ⟨rfl, cells, ho⟩⟩
   ·rw [vF] at wX; cases wX
   ·rw [vF] at wX; cases wX
  ·exact Cpt.same rfl (vI u i hu)
 have at_ : ∀ {x : At} {v : Value}, (fun _ => false : At -> Bool) x = false -> Zr (Tof T0 X) h σ.ob w x v -> Zr (Tof T0 X') h (σ.Zh t 0 (.box (wF.map .d))).ob w' x v := fun _ rx => Zr.FP hT m9 rx
 have vJ : ∀ u i, (σ.Zh t 0 (.box (wF.map .d))).ob u i ≠ .none -> σ.ob u i ≠ .none := by
  intro u i hn
  by_cases hu : u = t /\ i = 0
  ·obtain ⟨rfl, rfl⟩ := hu; exact wY
  ·rw [vI u i hu] at hn; exact hn
 refine ⟨by rw [r.size, St.Yr], r.defers, fun b hb => Nat.lt_of_lt_of_le (r.hB b hb) vK, fun k hk => ?_, r.hT, fun u hu => ?_, fun u i => ?_, fun u i k hn => r.ub u i k (vJ u i hn), fun u i k hn hk => ?_, fun u i u' i' k hn wx => r.inj u i u' i' k (vJ u i hn) (vJ u' i' wx)⟩
 ·rcases sy k hk with hk | hk
  ·have := r.hX k hk; exact ⟨this.1, by omega⟩
  ·exact ⟨fun uD => by have := r.hB k uD; omega, hk.2⟩
 ·rw [St.Yr] at hu
  rw [St.XT]; exact XW.map at_ (zT _) (r.slot u hu)
 ·by_cases hu : u = t /\ i = 0
  ·obtain ⟨rfl, rfl⟩ := hu
   rw [vF]
   obtain ⟨cs, e, hh, wG⟩ := tS
   exact ⟨b, cs, e, hv, hh, qJ wG⟩
  ·rw [vI u i hu]
   exact X6.map at_ hT (fun ho b => r.ub u i b ho) (fun hn k hk => hw k (r.own u i k hn hk).2.2 (fun e => by
    rw [e] at hk
    obtain ⟨e1, e2⟩ := r.inj u i t 0 b hn wY hk vN
    exact hu ⟨e1, e2⟩)) (qD _) (r.obj u i)
 ·have := r.own u i k (vJ u i hn) hk
  refine ⟨this.1, fun hx => ?_, by omega⟩
  rcases sy k hx with hx | hx
  ·exact this.2.1 hx
  ·omega
def IG (dp : Bool) (σ : St) (d : Nat) (res : List (List D)) (qs : List Bool) : St := match dp with | true => σ.new d (xZ d res) (Zs qs res.flatten) | false => σ.put d (Kx res)
theorem RJ (r : Rel T0 B σ a w X h) {o : Oper} {cl : Call} {f : FuncId} {d : Nat} {x0 : Operand} {xs : List Operand} {t0 : TypeId} {ts : List TypeId} {wR res : List (List D)} {row wF : List D} {dp : Bool} (qs : List Bool) (wA : o.op = .call cl) (hc : cl.callee = .value (.func f)) (hd : o.dst = some d)
  (ha : cl.args.toList = x0 :: xs) {t : Nat} (hg : gOf (look P σ t0 x0) = true) (hx : unc (look P σ t0 x0) = .one (.bptr t 0)) (ho : σ.ob t 0 = .box (row.map .d)) (wK : XP P σ xs ts wR) (wa : Z5 P σ xs ts = true) (hs : Xt P f dp row wR wF res)
  (vG : dp = true -> (σ.Zh t 0 (.box (wF.map .d))).fresh d = true /\ KQ qs res.flatten)
  {K : Act -> World -> Prop} {Q : Exit -> Act -> World -> Prop} (hK : ∀ a' w', QK T0 B (IG dp (σ.Zh t 0 (.box (wF.map .d))) d res qs) a' w' -> Y0 B w w' -> K a' w') : o.wp P a w K Q := by
 have wY : σ.ob t 0 ≠ .none := by rw [ho]; simp
 have lS := r.arg (P := P) t0 x0 hx hg
 obtain ⟨b, vM, hv⟩ := lS.2 _ ho
 have vD := r.obj t 0
 rw [ho] at vD
 obtain ⟨b2, cs, e, wo, hh, wG⟩ := vD
 rw [vM] at wo
 have uD : b2 = b := by injection wo with wo; injection wo with wo; injection wo with wo; exact wo.symm
 subst uD
 have vE : blk (h t 0).v = some b2 := by rw [vM]; rfl
 have vN := r.ub t 0 b2 wY vE
 have wL := r.own t 0 b2 wY vN
 have uL := r.XP true wK (fun _ => wa)
 simp only [if_true] at uL
 unfold Oper.wp
 rw [qU wA hc hs.1, Oper.upon_enter]
 rw [show (cl.args.toList.map a.eval).toArray = (ptr b2 :: xs.map a.eval).toArray by rw [ha]; simp [hv]]
 have hT : ∀ k i, Tof T0 X k i -> k < w.heap.size /\ k ≠ b2 := by
  intro k i hk
  refine ⟨r.Tlt hk, ?_⟩
  rintro rfl
  rcases hk with hk | hk
  ·exact wL.1 (r.hT _ _ hk)
  ·exact wL.2.1 hk
 refine (hs.2 (Tof T0 X) w b2 _ hT wL.2.2 ⟨cs, e, hh, Vi wG⟩ uL).mono ?_
 rintro e' w' ⟨vs, wc, Y, rfl, wS, hY, ⟨sD, e2, uV, u9⟩, wi, hlen, vb⟩
 rw [hd]
 have sr : ∀ {v : Value} {x : D}, Rd (Tof (Tof T0 X) Y) w' v x -> Rd (Tof T0 (fun k => X k \/ Y k)) w' v x := fun hr => hr.mono (fun k i v hk hc => ⟨hc, by
  rcases hk with (hk | hk) | hk
  ·exact .inl hk
  ·exact .inr (.inl hk)
  ·exact .inr (.inr hk)⟩)
 have r1 := r.GW (w' := w') (X' := fun k => X k \/ Y k) (wF := wF) ho vM wS.size (fun k hk wC => wS.block k ⟨hk, wC⟩) (fun k hk => .inl hk) (fun k hk => hk.imp id (hY k)) ⟨sD, e2, uV, u9.imp fun _ _ => sr⟩
 have nc : Y0 B w w' := ⟨wS.os, wS.tape, wS.output, wS.size, fun k hk => wS.block k ⟨r.hB k hk, fun e => wL.1 (e ▸ hk)⟩⟩
 cases dp with
 | false =>
  simp only [Bool.false_eq_true, if_false] at vb
  exact hK _ _ ⟨_, _, r1.put d _ _ (NZ wi (Sg (fun _ _ _ _ _ => sr) vb))⟩ nc
 | true =>
  simp only [if_true] at vb
  obtain ⟨lN, hq⟩ := vG rfl
  refine hK _ _ (r1.Ec lN (fun k => w.heap.size <= k /\ k < w'.heap.size /\ ¬ Y k) (fun k hk => ⟨fun hb => by have := r.hB k hb; omega, ?_, hk.2.1, fun u j hn hu => ?_⟩) qs wi hlen vb hq) nc
  ·rintro (hx | hy)
   ·have := (r.hX k hx).2; omega
   ·exact hk.2.2 hy
  ·have wx : σ.ob u j ≠ .none := by
    by_cases hc : u = t /\ j = 0
    ·obtain ⟨rfl, rfl⟩ := hc; exact wY
    ·rw [St.Xf σ t 0 _ u j wY, if_neg hc] at hn; exact hn
   have := (r.own u j k wx hu).2.2; omega
theorem IA (r : Rel T0 B σ a w X h) {o : Oper} {cl : Call} {f : FuncId} {d : Nat} {wR : List (List D)} {wF : List D} (wA : o.op = .call cl) (hc : cl.callee = .value (.func f)) (hd : o.dst = some d) (vG : σ.fresh d = true)
  (wK : XP P σ cl.args.toList cl.argTypes.toList wR) (wa : Z5 P σ cl.args.toList cl.argTypes.toList = true) (hs : Sr P f wR wF)
  {K : Act -> World -> Prop} {Q : Exit -> Act -> World -> Prop} (hK : ∀ a' w', QK T0 B (σ.new d (.one (.bptr d 0)) [.box (wF.map .d)]) a' w' -> Y0 B w w' -> K a' w') : o.wp P a w K Q := by
 have wN := St.Jr vG
 have uL := r.XP true wK (fun _ => wa)
 simp only [if_true] at uL
 unfold Oper.wp
 rw [qU wA hc hs.1, Oper.upon_enter]
 refine (hs.2 (Tof T0 X) w _ (fun k i hk => r.Tlt hk) uL).mono ?_
 rintro e' w' ⟨b, Y, rfl, vc, vM, wo, hY, sD, e2, uV, u9⟩
 rw [hd]
 have sr : ∀ {v : Value} {x : D}, Rd (Tof (Tof T0 X) Y) w' v x -> Rd (Tof T0 (fun k => X k \/ Y k)) w' v x := fun hr => hr.mono (fun k i v hk hc => ⟨hc, by
  rcases hk with (hk | hk) | hk
  ·exact .inl hk
  ·exact .inr (.inl hk)
  ·exact .inr (.inr hk)⟩)
 have wY : (σ.new d (.one (.bptr d 0)) [.box (wF.map .d)]).ob d 0 = .box (wF.map .d) := by rw [St.X7]; simp [wN, YB]
 refine hK _ _ ⟨fun k => X k \/ Y k, fun t j => if t = d then Hd.of (ptr b) else h t j, ?_⟩ (Y0.U8 vc r.hB)
 refine r.new vG (Below.grownBy vc) (fun k hk => .inl hk) (fun k hk => hk.imp id (fun hy => ⟨(hY k hy).1, (hY k hy).2.1⟩)) _ _ _ (fun _ => Hd.of (ptr b)) ⟨rfl, fun cells _ => ⟨b, by simp [Hd.of], rfl⟩⟩ (fun j => ?_) (fun j k _ hk => hk) (fun j k _ hk => ?_) (fun i j k hi hj _ _ => ?_)
 ·cases j with
  | zero => exact ⟨b, sD, e2, rfl, uV, qJ (u9.imp fun _ _ => sr)⟩
  | succ j => simp [YB, X6]
 ·simp [Hd.of, blk] at hk; subst hk
  refine ⟨vM, ?_, wo⟩
  rintro (hx | hy)
  ·have := (r.hX _ hx).2; omega
  ·exact (hY _ hy).2.2 rfl
 ·have hz : ∀ j, YB [Ob.box (wF.map .d)] j ≠ .none -> j = 0 := by
   intro j hj
   cases j with
   | zero => rfl
   | succ j => simp [YB] at hj
  rw [hz i hi, hz j hj]
end
section
variable {P : Program} {σ : St} {k : Fr}
theorem PD {dp : Bool} {d d' : Nat} {res : List (List D)} {qs : List Bool} (wC : d ≠ d') (wk : Yc σ d = true) : Yc (IG dp σ d' res qs) d = true := by
 cases dp with
 | false => exact SN wC wk
 | true => exact kP wC wk
attribute [simp] IG
theorem Y2 {f : FuncId} {fn : Func} {c : Code} (hf : P.funcs[f]? = some fn) (hb : fn.body = some c) (wb : kJ P f = true) {dp : Bool} {row : List D} {args : List (List D)} {wF : List D} {res : List (List D)}
  (hw : ∀ v, @WI P (KP fn.ntmps [] v (row.map .d) [] args) ⟨c⟩ (.fin (Ej P fn v dp wF res))) : Xt P f dp row args wF res := O5 hf hb wb (fun v => qi (hw v))
theorem JS {fn : Func} {v : Value} {dp : Bool} {wF : List D} {res : List (List D)} {rv : List ResultVar} (hf : fn.results = rv.toArray) (h : (QN P σ rv).1 /\ σ.head? = some (.fix v (.one (.bptr 0 0)), .box (wF.map .d) :: (σ.head?.map (fun e => e.2.tail)).getD []) /\
  (if dp then QY σ (QN P σ rv).2 = some res /\ QI σ (QN P σ rv).2 /\ (YL (QN P σ rv).2.flatten).Nodup else yl σ (QN P σ rv).2 = some res)) : Ej P fn v dp wF res .ret σ :=
 ⟨.inl rfl, ⟨_, h.2.1⟩, _, by rw [hf]; exact kY h.1, h.2.2⟩
theorem GJ {f : FuncId} {fn : Func} {c : Code} (hf : P.funcs[f]? = some fn) (hb : fn.body = some c) (wb : kJ P f = true) {args : List (List D)} {wF : List D}
  (hw : @WI P (zq fn.ntmps args) ⟨c⟩ (.fin (Eo P fn wF))) : Sr P f args wF := Oy hf hb wb (qi hw)
theorem Du {fn : Func} {wF : List D} {rv : List ResultVar} (u : Nat) (hf : fn.results = rv.toArray) (h : (QN P σ rv).1 /\ (QN P σ rv).2 = [[.bptr u 0]] /\ σ.ob u 0 = .box (wF.map .d)) : Eo P fn wF .ret σ :=
 ⟨.inl rfl, u, by rw [hf, <- h.2.1]; exact kY h.1, h.2.2⟩
theorem Il {ops : Array Oper} {o : Oper} {cl : Call} {f : FuncId} {d : Nat} {x0 : Operand} {xs : List Operand} {t0 : TypeId} {ts : List TypeId} {wR res : List (List D)} {row wF : List D} {dp : Bool} {t : Nat} (qs : List Bool) (wA : o.op = .call cl) (hc : cl.callee = .value (.func f)) (tM : o.guard = none) (hd : o.dst = some d)
  (ha : cl.args.toList = x0 :: xs) (hs : Xt P f dp row wR wF res) (hg : gOf (look P σ t0 x0) = true) (hx : unc (look P σ t0 x0) = .one (.bptr t 0)) (ho : σ.ob t 0 = .box (row.map .d))
  (wK : XP P σ xs ts wR) (wa : Z5 P σ xs ts = true) (vG : dp = true -> (σ.Zh t 0 (.box (wF.map .d))).fresh d = true /\ KQ qs res.flatten) : DQ P ops o σ (IG dp (σ.Zh t 0 (.box (wF.map .d))) d res qs) := by
 have hm : ∀ z ∈ x0 :: xs, z ∈ o.op.operands.toList := fun z hz => by rw [wA]; exact JE (by rw [ha]; exact hz)
 refine ⟨d, t, row.map .d, wF.map .d, (cond dp (xZ d res) (Kx res)), (cond dp (some (Zs qs res.flatten)) none), hd, ho, ⟨x0, xs, ⟨f, cl.argTypes, ?_⟩, t0, hx⟩, fun u => ⟨ql _, ql _⟩, fun u hu => ?_, fun hn => ?_, ?_, fun σ2 hl tk wY lL => ?_⟩
 ·rw [wA]
  obtain ⟨c1, c2, c3⟩ := cl
  simp only at hc ha ⊢
  rw [hc, <- ha]
 ·cases dp with
  | true =>
   have hu := hu.resolve_left (by simp)
   exact ⟨OP hu res, fun l hl => by cases hl; exact Jb u qs _⟩
  | false => exact ⟨NN u res, fun l hl => by cases hl⟩
 ·cases dp with
  | true => exact (vG rfl).1
  | false => exact absurd rfl hn
 ·cases dp <;> rfl
 ·have wh : Sub P o.op.operands.toList σ σ2 := ⟨hl, tk, wY⟩
  have iT : Sub P xs σ σ2 := ⟨hl, fun z hz => tk z (hm z (by simp [hz])), fun z hz => wY z (hm z (by simp [hz]))⟩
  have h0 := tk x0 (hm x0 (by simp)) t0
  have tH : σ2.ob t 0 = .box (row.map .d) := by
   rw [<- ho]
   exact wY x0 (hm x0 (by simp)) t0 t (Y6 hx (by simp [At.ref])) 0 (by rw [ho]; simp)
  have e : JY t d (wF.map .d) (cond dp (xZ d res) (Kx res)) (cond dp (some (Zs qs res.flatten)) none) σ2 = IG dp (σ2.Zh t 0 (.box (wF.map .d))) d res qs := by cases dp <;> rfl
  rw [e]
  refine ⟨?_, fun d' wQ wk => PD (fun e => wQ (by rw [hd, e])) (Qs wk)⟩
  rintro T0 B a w K Q' ⟨X, hh, r⟩ hK
  have hw : Region.wanted o (yielded ops a.tmps) = true := by simp [Region.wanted, tM]
  rw [if_pos hw]
  refine RJ r qs wA hc hd ha (by rw [<- h0]; exact hg) (by rw [<- h0]; exact hx) tH (y9 iT wK) (by rw [yi iT]; exact wa) hs (fun iP => ⟨?_, (vG iP).2⟩) hK
  subst iP
  exact lL (by simp)
theorem ET {A : Qh} {o : OpI} {l : JT} {cl : Call} {f : FuncId} {d : Nat} {x0 : Operand} {xs : List Operand} {t0 : TypeId} {ts : List TypeId} {wR res : List (List D)} {row wF : List D} {dp : Bool} {t : Nat} (qs : List Bool) (wA : o.o.op = .call cl) (hc : cl.callee = .value (.func f)) (tM : o.o.guard = none) (hd : o.o.dst = some d) (w7 : A.bar o.o = true)
  (ha : cl.args.toList = x0 :: xs) (ga : cl.argTypes.toList = t0 :: ts) (hs : Xt P f dp row wR wF res) (hx : gOf (look P σ t0 x0) = true /\ unc (look P σ t0 x0) = .one (.bptr t 0)) (ho : σ.ob t 0 = .box (row.map .d))
  (wK : (Yg P σ xs ts).1) (wU : (Yg P σ xs ts).2 = some wR) (wa : Z5 P σ xs ts = true) (vG : dp = true -> (σ.Zh t 0 (.box (wF.map .d))).fresh d = true /\ KQ qs res.flatten)
  (h : @EI P (IG dp (σ.Zh t 0 (.box (wF.map .d))) d res qs) A l k) : @SI P σ A o l k := by
 refine ⟨_, .inr ⟨w7, ?_, fun d' wQ wk => PD (fun e => wQ (by rw [hd, e])) (Qs wk), fun hh => by simp [kA, wA] at hh, fun hh => by first | (simp [xF, wA] at hh; done) | (unfold xF at hh; rw [wA] at hh; split at hh <;> simp_all), fun _ _ => Il qs wA hc tM hd ha hs hx.1 hx.2 ho (zk wK wU) wa vG⟩, Xy h⟩
 rintro T0 B a w K Q' ⟨X, hh, r⟩ hK
 have hw : Region.wanted o.o (yielded A.ops a.tmps) = true := by simp [Region.wanted, tM]
 rw [if_pos hw]
 exact RJ r qs wA hc hd ha hx.1 hx.2 ho (zk wK wU) wa hs vG hK
theorem E4 {A : Qh} {o : OpI} {l : JT} {cl : Call} {f : FuncId} {d : Nat} {wR : List (List D)} {wF : List D} (wA : o.o.op = .call cl) (hc : cl.callee = .value (.func f)) (tM : o.o.guard = none) (hd : o.o.dst = some d) (w7 : A.bar o.o = true) (hs : Sr P f wR wF)
  (wK : (Yg P σ cl.args.toList cl.argTypes.toList).1) (wU : (Yg P σ cl.args.toList cl.argTypes.toList).2 = some wR) (wa : Z5 P σ cl.args.toList cl.argTypes.toList = true) (vG : σ.fresh d = true)
  (h : @EI P (σ.new d (.one (.bptr d 0)) [.box (wF.map .d)]) A l k) (tB : Qw P o.o = false := by exact rfl) : @SI P σ A o l k := by
 refine ⟨_, .inr ⟨w7, ?_, fun d' wQ wk => kP (fun e => wQ (by rw [hd, e])) wk, fun hh => by simp [kA, wA] at hh, fun hh => by first | (simp [xF, wA] at hh; done) | (unfold xF at hh; rw [wA] at hh; split at hh <;> simp_all), fun hh _ => by rw [tB] at hh; cases hh⟩, Xy h⟩
 rintro T0 B a w K Q' ⟨X, hh, r⟩ hK
 have hw : Region.wanted o.o (yielded A.ops a.tmps) = true := by simp [Region.wanted, tM]
 rw [if_pos hw]
 exact IA r wA hc hd vG (zk wK wU) wa hs hK
end
end Go.Vm
namespace Go.Vm
open Go.RowKit
def EG (w : World) (S : Nat -> Prop) (b : Nat) (wF : List D) (e : Ending) (w' : World) : Prop :=
 e = .returned (.tuple #[]) /\ Y0 (fun k => k < w.heap.size /\ k ≠ b /\ ¬ S k) w w' /\ ∃ cs e', w'.heap[b]? = some (.cells cs e' (0, 0)) /\ QU w' cs.toList wF (fun k => (S k \/ (w.heap.size <= k /\ k < w'.heap.size)) /\ k ≠ b)
def P8 (P : Program) (f : FuncId) (args : List (List D)) (row wF : List D) : Prop :=
 kJ P f = true /\ ∀ (T : CS) (S : Nat -> Prop) (w : World) (b : Nat) (wq : List Value), (∀ k i, T k i -> k < w.heap.size /\ k ≠ b /\ ¬ S k) -> (∀ k, S k -> k < w.heap.size /\ k ≠ b) -> b < w.heap.size ->
  (∃ cs e, w.heap[b]? = some (.cells cs e (0, 0)) /\ QU w cs.toList row S) -> Nf T w wq args -> Calls P f (wq ++ [ptr b]).toArray w (EG w S b wF)
def Ew (P : Program) (fn : Func) (p : Nat) (v : Value) (wF : List D) (e : Exit) (σ : St) : Prop :=
 (e = .ret \/ e = .normal) /\ WC P σ fn.results.toList [] /\ ∃ tI vd, σ[p]? = some (.fix v (.one (.bptr p 0)), .box tI :: vd) /\ Qd σ tI = some wF /\ Xj σ tI /\ (YL tI).Nodup
def DJ (n : Nat) (sz : Nat) (rows : List (List D)) (args : List (List D)) : St := (.one (.sref 0 0 0 rows.length), [.arr false sz rows]) :: (Ul args ++ List.replicate (n - (args.length + 1)) (V.any, []))
def At.isO (u : Nat) : At -> Bool
 | .sref t _ _ _ => t == u
 | .ptr t _ _ _ => t == u
 | .tref t _ _ _ _ => t == u
 | _ => false
section
variable {P : Program} {T0 : CS} {B : Nat -> Prop} {σ : St} {a : Act} {w w' : World} {X X' : Nat -> Prop} {h : Nat -> Nat -> Hd}
theorem Hf {hf : Nat -> Hd} {row : List D} {qs : List Bool} (hq : KQ qs row) (k4 : ∀ j size rows, row[j]? = some (.sl size rows) -> ∀ T h ob, X6 T h ob w (hf j) (.arr true size rows)) (T : CS) (ob : Nat -> Nat -> Ob) (j : Nat) : X6 T h ob w (hf j) (YB (Zs qs row) j) := by
 by_cases wC : YB (Zs qs row) j = .none
 ·rw [wC]; trivial
 ·obtain ⟨size, rows, hj⟩ := (YA qs row j hq).2 wC
  obtain ⟨q, um, nK⟩ := (YA qs row j hq).1 size rows hj
  rw [um]
  have := k4 j size rows hj T h ob
  cases q with
  | true => exact this
  | false => exact HQ this (nK rfl)
theorem Ok {f : FuncId} {fn : Func} {c : Code} (hf : P.funcs[f]? = some fn) (hb : fn.body = some c) (wb : kJ P f = true) {args : List (List D)} {row wF : List D} (qs : List Bool) (hq : KQ qs row)
  (hw : ∀ v, AWP P c (Ew P fn args.length v wF) (KP fn.ntmps args v (QJ args.length 1 row) (Zs qs row) [])) : P8 P f args row wF := by
 refine ⟨wb, fun T S w b wq hT hS wW ⟨lK, e0, nE, pS⟩ wK => calls_of_wp hf hb ?_⟩
 obtain ⟨sZ, Sk, k1, k2, k3, k4⟩ := Mz pS
 have sO := NP (w := w) (T := T) (S := S) (n := fn.ntmps) (b := b) (pre := args) (post := []) (cells := QJ args.length 1 row) (vd := Zs qs row) (vX := wq) (vk := []) (fun j => match j with | 0 => Hd.of (ptr b) | j + 1 => sZ j)
  hT hS wW rfl (fun h ob hh wY => ⟨b, lK, e0, rfl, nE, WW pS.top (fun i size rows hi => by
    obtain ⟨q, um, _⟩ := (YA qs row i hq).1 size rows hi
    exact ⟨q, by rw [wY, Nat.add_comm, yx]; exact um⟩) (fun i c hc => by rw [hh, Nat.add_comm]; exact k1 i c hc)⟩)
  (fun h ob j => Hf hq (fun j size rows hj => (k4 j size rows hj).2.2) _ _ j)
  (fun j k hn hk => by
   obtain ⟨size, rows, hj⟩ := (YA qs row j hq).2 hn
   exact (k4 j size rows hj).2.1 k hk)
  (fun j k hn hk => by
   obtain ⟨size, rows, hj⟩ := (YA qs row j hq).2 hn
   exact k2 j k ((k4 j size rows hj).1 k hk))
  (fun i j k hn wx hk va => by
   obtain ⟨size, rows, hj⟩ := (YA qs row i hq).2 hn
   obtain ⟨wZ, wT, uY⟩ := (YA qs row j hq).2 wx
   exact k3 i j k ((k4 i size rows hj).1 k hk) ((k4 j wZ wT uY).1 k va)) wK .nil
 refine wp_mono (hw (ptr b) T _ _ w sO) ?_
 rintro e a' w' ⟨σ', ⟨he, vb, tI, vd, uR, vq, vz, w9⟩, ⟨X, h, r⟩, wS⟩
 obtain ⟨vs, wc, wV, wi, wG⟩ := xH r vb
 cases wG
 cases wi
 have vO : args.length < σ'.length := (List.getElem?_eq_some_iff.1 uR).1
 have oy : σ'.get args.length = .fix (ptr b) (.one (.bptr args.length 0)) := by unfold St.get; rw [uR]
 have vA : σ'.ob args.length 0 = .box tI := by unfold St.ob; rw [uR]; rfl
 have tW := r.slot _ vO
 rw [oy] at tW
 obtain ⟨oE, vy⟩ := tW
 obtain ⟨b1, vM, vB⟩ := vy.2 _ vA
 rw [oE] at vB
 have uD : b1 = b := by injection vB with vB; injection vB with vB; injection vB with vB; exact vB.symm
 subst uD
 have vD := r.obj args.length 0
 rw [vA] at vD
 obtain ⟨b2, sD, e', wo, uV, u9⟩ := vD
 rw [vM] at wo
 have uD : b2 = b1 := by injection wo with wo; injection wo with wo; injection wo with wo; exact wo.symm
 subst uD
 have vN := r.ub args.length 0 b2 (by rw [vA]; simp) (by rw [vM]; rfl)
 have goal : a'.defers = [] /\ ∃ v, (results fn a'.tmps).run P w' = .ok v w' /\ EG w S b2 wF (.returned v) w' := by
  refine ⟨r.defers, _, wV, rfl, wS, sD, e', uV, (Um r u9 vq vz w9).mono (fun k hk => ?_)⟩
  have hg := r.zN _ k hk
  have wC : k ≠ b2 := by
   rintro rfl
   obtain ⟨p, hp, wC, hu⟩ := hk
   obtain ⟨e1, e2⟩ := r.inj p.1 p.2 args.length 0 k wC (by rw [vA]; simp) hu vN
   obtain ⟨i, lo, len, hx⟩ := V8 hp
   obtain ⟨d, hd, nZ⟩ := (Zg.get (R := fun x d => mvD σ' x = some d) (Zg.J2 (Kn vq).1 (fun i a b h1 h2 => (Kn vq).2 i a b h1 h2)) i _ hx)
   rw [e1, e2] at nZ
   simp [mvD, vA] at nZ
  refine ⟨?_, wC⟩
  by_cases hs : S k
  ·exact .inl hs
  ·refine .inr ⟨?_, hg.2.2.1⟩
   rcases Nat.lt_or_ge k w.heap.size with wN | uk
   ·exact absurd ⟨wN, wC, hs⟩ hg.1
   ·exact uk
 rcases he with rfl | rfl
 ·exact goal
 ·exact goal
theorem Rel.E9 (r : Rel T0 B σ a w X h) {u b : Nat} {cells : List At} {wF : List D} {qs : List Bool} (ho : σ.ob u 0 = .box cells) (hv : (h u 0).v = ptr b) (wN : u < σ.length) (M S' : Nat -> Prop) (vK : w.heap.size <= w'.heap.size) (hw : ∀ k, k < w.heap.size -> k ≠ b -> ¬ M k -> w'.heap[k]? = w.heap[k]?)
  (hm : ∀ k, M k -> ¬ B k /\ ¬ X k /\ ∀ t j, σ.ob t j ≠ .none -> ¬ (h t j).u k) (sh : (σ.Zh u 0 .none).KO (At.isO u) = false) (hq : KQ qs wF) {sD : Array Value} {e' : TypeId} (uV : w'.heap[b]? = some (.cells sD e' (0, 0)))
  (wL : QU w' sD.toList wF S') (lI : ∀ k, S' k -> (w.heap.size <= k \/ M k) /\ k < w'.heap.size /\ k ≠ b) : QK T0 B (σ.new u (σ.get u) (.box (QJ u 1 wF) :: Zs qs wF)) a w' := by
 have wY : σ.ob u 0 ≠ .none := by rw [ho]; simp
 have vE : blk (h u 0).v = some b := by rw [hv]; rfl
 have vN := r.ub u 0 b wY vE
 have nb := r.own u 0 b wY vN
 obtain ⟨sZ, Sk, k1, k2, k3, k4⟩ := Mz wL
 generalize hσ : σ.new u (σ.get u) (.box (QJ u 1 wF) :: Zs qs wF) = σ2
 have sE : ∀ j, σ2.ob u j = YB (.box (QJ u 1 wF) :: Zs qs wF) j := fun j => by rw [<- hσ, St.X7]; simp [wN]
 have vu : ∀ t j, t ≠ u -> σ2.ob t j = σ.ob t j := fun t j wC => by rw [<- hσ, St.X7, if_neg (fun hh => wC hh.1)]
 have vC : ∀ t, σ2.get t = σ.get t := by
  intro t
  rw [<- hσ, St.xp]
  split
  ·rename_i hh; rw [hh.1]
  ·rfl
 have hlen : σ2.length = σ.length := by rw [<- hσ, St.yy]
 let wQ : Nat -> Hd := fun j => match j with | 0 => h u 0 | j + 1 => sZ j
 let h' : Nat -> Nat -> Hd := fun t j => if t = u then wQ j else h t j
 have hT : ∀ k i v, Tof T0 X k i -> w.cell? ⟨k, i, none⟩ = some v -> w'.cell? ⟨k, i, none⟩ = some v /\ Tof T0 X k i := by
  intro k i v hk hc
  refine ⟨?_, hk⟩
  have wC : k ≠ b := by
   rintro rfl
   rcases hk with hk | hk
   ·exact nb.1 (r.hT _ _ hk)
   ·exact nb.2.1 hk
  have mw : ¬ M k := by
   intro oc
   rcases hk with hk | hk
   ·exact (hm k oc).1 (r.hT _ _ hk)
   ·exact (hm k oc).2.1 hk
  rw [World.cell?_of_block (hw k (r.Tlt hk) wC mw)]; exact hc
 have at_ : ∀ {x : At} {v : Value}, At.isO u x = false -> Zr (Tof T0 X) h σ.ob w x v -> Zr (Tof T0 X) h' σ2.ob w' x v := by
  intro x v pA rx
  cases x with
  | any => exact rx
  | d x => exact Rd.mono hT rx
  | nil s => exact rx
  | sref t j lo len =>
   have wC : t ≠ u := by simpa [At.isO] using pA
   simp only [Zr, h', if_neg wC, vu t j wC]; exact rx
  | ptr t j i c =>
   have wC : t ≠ u := by simpa [At.isO] using pA
   simp only [Zr, h', if_neg wC, vu t j wC]; exact rx
  | tref t j i c o =>
   have wC : t ≠ u := by simpa [At.isO] using pA
   simp only [Zr, h', if_neg wC, vu t j wC]; exact rx
  | bptr t c =>
   by_cases hc : t = u
   ·subst hc
    refine ⟨rx.1, fun wJ _ => ?_⟩
    simp only [h', if_true, wQ]; exact rx.2 _ ho
   ·simp only [Zr, h', if_neg hc, vu t 0 hc]; exact rx
  | fn f t =>
   by_cases hc : t = u
   ·subst hc
    refine ⟨rx.1, fun wJ _ => ?_⟩
    simp only [h', if_true, wQ]; exact rx.2 _ ho
   ·simp only [Zr, h', if_neg hc, vu t 0 hc]; exact rx
  | rptr rr c =>
   obtain ⟨b, off, g, e, hk⟩ := rx
   exact ⟨b, off, g, e, fun k d hd => ⟨(hT _ _ _ (hk k d hd).2.1 (hk k d hd).1).1, (hk k d hd).2.1, Rd.mono hT (hk k d hd).2.2⟩⟩
 have vD : ∀ j, YB (.box (QJ u 1 wF) :: Zs qs wF) j ≠ .none -> j = 0 \/ ∃ i size rows, j = i + 1 /\ wF[i]? = some (.sl size rows) := by
  intro j hn
  cases j with
  | zero => exact .inl rfl
  | succ j =>
   rw [yx] at hn
   obtain ⟨size, rows, hj⟩ := (YA qs wF j hq).2 hn
   exact .inr ⟨j, size, rows, rfl, hj⟩
 have oG : ∀ k, (h u 0).u k -> k < w.heap.size /\ ¬ M k /\ ¬ B k /\ ¬ X k := fun k hk => ⟨(r.own u 0 k wY hk).2.2, fun oc => (hm k oc).2.2 u 0 wY hk, (r.own u 0 k wY hk).1, (r.own u 0 k wY hk).2.1⟩
 have mP : ∀ i size rows k, wF[i]? = some (.sl size rows) -> (sZ i).u k -> (w.heap.size <= k \/ M k) /\ k < w'.heap.size /\ k ≠ b := fun i size rows k hi hk => lI k (k2 i k ((k4 i size rows hi).1 k hk))
 have oH : ∀ t j, t ≠ u -> σ.ob t j ≠ .none -> ∀ k, (h t j).u k -> w'.heap[k]? = w.heap[k]? := by
  intro t j wC hn k hk
  refine hw k (r.own t j k hn hk).2.2 ?_ (fun oc => (hm k oc).2.2 t j hn hk)
  rintro rfl
  exact wC (r.inj t j u 0 k hn wY hk vN).1
 refine ⟨X, h', by rw [r.size, hlen], r.defers, fun k hk => Nat.lt_of_lt_of_le (r.hB k hk) vK, fun k hk => ⟨(r.hX k hk).1, Nat.lt_of_lt_of_le (r.hX k hk).2 vK⟩, r.hT, fun t ht => ?_, fun t j => ?_, fun t j k hn hk => ?_, fun t j k hn hk => ?_, fun t j t' j' k hn wx hk va => ?_⟩
 ·rw [hlen] at ht
  rw [vC]
  have hp : (σ.get t).KO (At.isO u) = false := by have := St.Tr sh t; rwa [St.XT] at this
  exact XW.map at_ hp (r.slot t ht)
 ·by_cases hc : t = u
  ·subst hc
   rw [sE]
   cases j with
   | zero =>
    simp only [h', if_true, wQ, NL]
    exact ⟨b, sD, e', hv, uV, WW wL.top (fun i size rows hi => by
     obtain ⟨q, um, _⟩ := (YA qs wF i hq).1 size rows hi
     exact ⟨q, by rw [sE, Nat.add_comm, yx]; exact um⟩) (fun i c hc => by simp only [if_true, Nat.add_comm 1 i]; exact k1 i c hc)⟩
   | succ j =>
    simp only [h', if_true, wQ, yx]
    exact Hf hq (fun j size rows hj => (k4 j size rows hj).2.2) _ _ j
  ·rw [vu t j hc]
   simp only [h', if_neg hc]
   by_cases hn : σ.ob t j = .none
   ·rw [hn]; trivial
   ·have hp : Jf (At.isO u) [σ.ob t j] = false := by
     have := St.R6 sh t j
     rwa [St.jy, if_neg (fun hh => hc hh.1)] at this
    exact X6.map at_ hT (fun ho b => r.ub t j b ho) (fun hn k hk => oH t j hc hn k hk) hp (r.obj t j)
 ·by_cases hc : t = u
  ·subst hc
   rw [sE] at hn
   rcases vD j hn with rfl | ⟨i, size, rows, rfl, hi⟩
   ·simp only [h', if_true, wQ] at hk ⊢; exact r.ub t 0 k wY hk
   ·simp only [h', if_true, wQ] at hk ⊢; exact (k4 i size rows hi).2.1 k hk
  ·rw [vu t j hc] at hn
   simp only [h', if_neg hc] at hk ⊢; exact r.ub t j k hn hk
 ·by_cases hc : t = u
  ·subst hc
   rw [sE] at hn
   rcases vD j hn with rfl | ⟨i, size, rows, rfl, hi⟩
   ·simp only [h', if_true, wQ] at hk
    have := oG k hk; exact ⟨this.2.2.1, this.2.2.2, by omega⟩
   ·simp only [h', if_true, wQ] at hk
    have := mP i size rows k hi hk
    rcases this.1 with h1 | h1
    ·exact ⟨fun hb => by have := r.hB k hb; omega, fun hx => by have := (r.hX k hx).2; omega, this.2.1⟩
    ·exact ⟨(hm k h1).1, (hm k h1).2.1, this.2.1⟩
  ·rw [vu t j hc] at hn
   simp only [h', if_neg hc] at hk
   have := r.own t j k hn hk; exact ⟨this.1, this.2.1, by omega⟩
 ·have key : ∀ t j i k, t ≠ u -> σ.ob t j ≠ .none -> (h t j).u k -> YB (.box (QJ u 1 wF) :: Zs qs wF) i ≠ .none -> (wQ i).u k -> False := by
   intro t j i k wC hn hk wx va
   rcases vD i wx with rfl | ⟨i, size, rows, rfl, hi⟩
   ·exact wC (r.inj t j u 0 k hn wY hk va).1
   ·have h1 := mP i size rows k hi va
    have h2 := r.own t j k hn hk
    rcases h1.1 with h3 | h3
    ·omega
    ·exact (hm k h3).2.2 t j hn hk
  by_cases hc : t = u
  ·by_cases wu : t' = u
   ·subst hc; subst wu
    rw [sE] at hn wx
    simp only [h', if_true] at hk va
    refine ⟨rfl, ?_⟩
    rcases vD j hn with rfl | ⟨i, size, rows, rfl, hi⟩
    ·rcases vD j' wx with rfl | ⟨i', wZ, wT, rfl, vZ⟩
     ·rfl
     ·have h1 := oG k hk
      have h2 := mP i' wZ wT k vZ va
      rcases h2.1 with h3 | h3
      ·omega
      ·exact absurd h3 h1.2.1
    ·rcases vD j' wx with rfl | ⟨i', wZ, wT, rfl, vZ⟩
     ·have h1 := oG k va
      have h2 := mP i size rows k hi hk
      rcases h2.1 with h3 | h3
      ·omega
      ·exact absurd h3 h1.2.1
     ·rw [k3 i i' k ((k4 i size rows hi).1 k hk) ((k4 i' wZ wT vZ).1 k va)]
   ·subst hc
    rw [sE] at hn
    rw [vu t' j' wu] at wx
    simp only [h', if_true, if_neg wu] at hk va
    exact (key t' j' j k wu wx va hn hk).elim
  ·rw [vu t j hc] at hn
   simp only [h', if_neg hc] at hk
   by_cases wu : t' = u
   ·subst wu
    rw [sE] at wx
    simp only [h', if_true] at va
    exact (key t j j' k hc hn hk wx va).elim
   ·rw [vu t' j' wu] at wx
    simp only [h', if_neg wu] at va
    exact r.inj t j t' j' k hn wx hk va
end
end Go.Vm
namespace Go.Vm
open Go.RowKit
section
variable {P : Program} {T0 : CS} {B : Nat -> Prop} {σ : St} {a : Act} {w w' : World} {X X' : Nat -> Prop} {h : Nat -> Nat -> Hd}
theorem I4 {o : Oper} {c : Call} {t : Nat} {f : FuncId} {x : Value} (wA : o.op = .call c) (hc : c.callee = .value (.tmp t)) (hv : a.tmps.getD t undef = .func (.func f) #[] #[x]) (hf : kJ P f = true) :
  (execOp a.eval o).run P w = .ok (.enter f (c.args.toList.map a.eval ++ [x]).toArray) w := by
 unfold kJ at hf
 split at hf
 ·rename_i fn oZ
  simp only [Bool.and_eq_true, bne_iff_ne, ne_eq] at hf
  obtain ⟨cd, hb⟩ := Option.isSome_iff_exists.1 hf.1
  obtain ⟨callee, args, tI⟩ := c
  simp only at hc; subst hc
  have hm : (args.toList.map a.eval ++ [x]).toArray = args.map a.eval ++ #[x] := by apply Array.toList_inj.1; simp
  have he : a.eval (.tmp t) = .func (.func f) #[] #[x] := hv
  rw [hm]
  simp [execOp, wA, resolve, he, Deferred.ofValue, invoke, callFunc, oZ, hf.2, hb]
 ·cases hf
theorem LW (r : Rel T0 B σ a w X h) {o : Oper} {cl : Call} {f : FuncId} {tf u : Nat} {wR : List (List D)} {row wF : List D} {cells : List At} (qs : List Bool) (wA : o.op = .call cl) (hc : cl.callee = .value (.tmp tf)) (hx : σ.get tf = .one (.fn f u)) (ho : σ.ob u 0 = .box cells) (wN : u < σ.length)
  (wK : XP P σ cl.args.toList cl.argTypes.toList wR) (wa : Z5 P σ cl.args.toList cl.argTypes.toList = true) (hs : P8 P f wR row wF) (vq : Qd σ cells = some row) (vz : Xj σ cells) (w9 : (YL cells).Nodup) (mN : (u, 0) ∉ YL cells)
  (sh : ((σ.Zq (YL cells)).Zh u 0 .none).KO (At.isO u) = false) (hq : KQ qs wF)
  {K : Act -> World -> Prop} {Q : Exit -> Act -> World -> Prop} (hK : ∀ a' w', QK T0 B (match o.dst with | some d => ((σ.Zq (YL cells)).new u (σ.get u) (.box (QJ u 1 wF) :: Zs qs wF)).put d .any | none => (σ.Zq (YL cells)).new u (σ.get u) (.box (QJ u 1 wF) :: Zs qs wF)) a' w' -> Y0 B w w' -> K a' w') : o.wp P a w K Q := by
 have wY : σ.ob u 0 ≠ .none := by rw [ho]; simp
 have oZ := r.get tf
 rw [hx] at oZ
 obtain ⟨b, vM, hv⟩ := oZ.2 _ ho
 have vD := r.obj u 0
 rw [ho] at vD
 obtain ⟨b2, cs, e, wo, hh, wG⟩ := vD
 rw [vM] at wo
 have uD : b2 = b := by injection wo with wo; injection wo with wo; injection wo with wo; exact wo.symm
 subst uD
 have vN := r.ub u 0 b2 wY (by rw [vM]; rfl)
 have wL := r.own u 0 b2 wY vN
 have uL := r.XP true wK (fun _ => wa)
 simp only [if_true] at uL
 have u6 : ∀ k, JH σ h (YL cells) k -> k < w.heap.size /\ k ≠ b2 := by
  rintro k ⟨p, hp, wC, hu⟩
  refine ⟨(r.own _ _ k wC hu).2.2, ?_⟩
  rintro rfl
  obtain ⟨e1, e2⟩ := r.inj p.1 p.2 u 0 k wC wY hu vN
  exact mN (by rw [<- e1, <- e2]; exact hp)
 have wj := r.zN (YL cells)
 have hT : ∀ k i, Tof T0 X k i -> k < w.heap.size /\ k ≠ b2 /\ ¬ JH σ h (YL cells) k := by
  intro k i hk
  refine ⟨r.Tlt hk, ?_, fun hg => ?_⟩
  ·rintro rfl
   rcases hk with hk | hk
   ·exact wL.1 (r.hT _ _ hk)
   ·exact wL.2.1 hk
  ·rcases hk with hk | hk
   ·exact (wj k hg).1 (r.hT _ _ hk)
   ·exact (wj k hg).2.1 hk
 unfold Oper.wp
 rw [I4 wA hc hv hs.1, Oper.upon_enter]
 refine (hs.2 (Tof T0 X) (JH σ h (YL cells)) w b2 _ hT u6 wL.2.2 ⟨cs, e, hh, Um r wG vq vz w9⟩ uL).mono ?_
 rintro e' w' ⟨rfl, wS, sD, e2, uV, vv⟩
 have r1 := r.Zq (YL cells)
 have lT : (σ.Zq (YL cells)).ob u 0 = .box cells := by rw [St.JD, if_neg mN, ho]
 have R := r1.E9 (w' := w') (wF := wF) (qs := qs) lT vM (by rw [St.KJ]; exact wN) (JH σ h (YL cells)) _ wS.size (fun k hk wC hg => wS.block k ⟨hk, wC, hg⟩) (fun k hk => ⟨(wj k hk).1, (wj k hk).2.1, (wj k hk).2.2.2⟩) sh hq uV vv (fun k hk => ⟨hk.1.elim .inr (fun h1 => .inl h1.1), by
  rcases hk.1 with h1 | h1
  ·have := (u6 k h1).1; have := wS.size; omega
  ·exact h1.2, hk.2⟩)
 rw [St.xP] at R
 have nc : Y0 B w w' := ⟨wS.os, wS.tape, wS.output, wS.size, fun k hk => wS.block k ⟨r.hB k hk, fun e => wL.1 (e ▸ hk), fun hg => (wj k hg).1 hk⟩⟩
 cases hd : o.dst with
 | none =>
  rw [hd] at hK
  exact hK _ _ R nc
 | some d =>
  rw [hd] at hK
  obtain ⟨X2, h2, R2⟩ := R
  exact hK _ _ ⟨X2, h2, R2.put d .any _ trivial⟩ nc
theorem HC (r : Rel T0 B σ a w X h) {o : Oper} {f : FuncId} {x : Operand} {d t : Nat} (wA : o.op = .makeFunc (.func f) #[] #[x]) (hd : o.dst = some d) (hg : gOf (look P σ 0 x) = true) (hx : unc (look P σ 0 x) = .one (.bptr t 0)) {cells : List At} (ho : σ.ob t 0 = .box cells)
  {K : Act -> World -> Prop} {Q : Exit -> Act -> World -> Prop} (hK : ∀ a' w', QK T0 B (σ.put d (.one (.fn f t))) a' w' -> Y0 B w w' -> K a' w') : o.wp P a w K Q := by
 have lS := r.arg (P := P) 0 x hx hg
 obtain ⟨b, vM, hv⟩ := lS.2 _ ho
 exact jS (v := .one (.fn f t)) r hd ⟨.func (.func f) #[] #[a.eval x], by simp [execOp, wA, Instr.makeFunc], ⟨rfl, fun wJ _ => ⟨b, vM, by rw [hv]⟩⟩⟩ hK
end
section
variable {P : Program} {σ : St} {k : Fr}
theorem DT {A : Qh} {o : OpI} {l : JT} {f : FuncId} {x : Operand} {d t : Nat} {cells : List At} (wA : o.o.op = .makeFunc (.func f) #[] #[x]) (tM : o.o.guard = none) (hd : o.o.dst = some d) (w7 : A.bar o.o = true) (hx : gOf (look P σ 0 x) = true /\ unc (look P σ 0 x) = .one (.bptr t 0)) (ho : σ.ob t 0 = .box cells)
  (h : @EI P (σ.put d (.one (.fn f t))) A l k) : @SI P σ A o l k := by
 refine ⟨_, .inr ⟨w7, ?_, fun d' wQ wk => SN (fun e => wQ (by rw [hd, e])) wk, fun hh => by simp [kA, wA] at hh, fun hh => by first | (simp [xF, wA] at hh; done) | (unfold xF at hh; rw [wA] at hh; split at hh <;> simp_all), fun hh _ => by first | (simp [Qw, wA] at hh; done) | (unfold Qw at hh; rw [wA] at hh; split at hh <;> simp_all)⟩, Xy h⟩
 rintro T0 B a w K Q' ⟨X, hh, r⟩ hK
 have hw : Region.wanted o.o (yielded A.ops a.tmps) = true := by simp [Region.wanted, tM]
 rw [if_pos hw]
 exact HC r wA hd hx.1 hx.2 ho hK
theorem Hp {f : FuncId} {fn : Func} {c : Code} (hf : P.funcs[f]? = some fn) (hb : fn.body = some c) (wb : kJ P f = true) {args : List (List D)} {row wF : List D} (qs : List Bool) (hq : KQ qs row)
  (hw : ∀ v, @WI P (KP fn.ntmps args v (QJ args.length 1 row) (Zs qs row) []) ⟨c⟩ (.fin (Ew P fn args.length v wF))) : P8 P f args row wF := Ok hf hb wb qs hq (fun v => qi (hw v))
theorem DE {fn : Func} {p : Nat} {v : Value} {wF : List D} {tI : List At} (hf : fn.results = #[]) (h : σ[p]? = some (.fix v (.one (.bptr p 0)), .box tI :: ((σ[p]?).map (fun e => e.2.tail)).getD []) /\ Qd σ tI = some wF /\ Xj σ tI /\ (YL tI).Nodup) {e : Exit} (he : e = .ret \/ e = .normal) : Ew P fn p v wF e σ :=
 ⟨he, by rw [hf]; rfl, tI, _, h.1, h.2.1, h.2.2.1, h.2.2.2⟩
theorem P6 {A : Qh} {o : OpI} {l : JT} {cl : Call} {f : FuncId} {tf u : Nat} {wR : List (List D)} {row wF : List D} {cells : List At} (qs : List Bool) (wA : o.o.op = .call cl) (hc : cl.callee = .value (.tmp tf)) (tM : o.o.guard = none) (w7 : A.bar o.o = true) (hs : P8 P f wR row wF) (hx : σ.get tf = .one (.fn f u)) (ho : σ.ob u 0 = .box cells) (wN : u < σ.length)
  (wK : (Yg P σ cl.args.toList cl.argTypes.toList).1) (wU : (Yg P σ cl.args.toList cl.argTypes.toList).2 = some wR) (wa : Z5 P σ cl.args.toList cl.argTypes.toList = true) (vq : Qd σ cells = some row) (vz : Xj σ cells) (w9 : (YL cells).Nodup) (mN : (u, 0) ∉ YL cells) (wk : Yc σ u = false)
  (sh : ((σ.Zq (YL cells)).Zh u 0 .none).KO (At.isO u) = false) (hq : KQ qs wF)
  (h : @EI P (match o.o.dst with | some d => ((σ.Zq (YL cells)).new u (σ.get u) (.box (QJ u 1 wF) :: Zs qs wF)).put d .any | none => (σ.Zq (YL cells)).new u (σ.get u) (.box (QJ u 1 wF) :: Zs qs wF)) A l k) : @SI P σ A o l k := by
 refine ⟨_, .inr ⟨w7, ?_, fun d' wQ wu => ?_, fun hh => by simp [kA, wA] at hh, fun hh => by first | (simp [xF, wA] at hh; done) | (unfold xF at hh; rw [wA] at hh; split at hh <;> simp_all), fun hh _ => by first | (simp [Qw, wA] at hh; done) | (unfold Qw at hh; rw [wA] at hh; split at hh <;> simp_all)⟩, Xy h⟩
 ·rintro T0 B a w K Q' ⟨X, hh, r⟩ hK
  have hw : Region.wanted o.o (yielded A.ops a.tmps) = true := by simp [Region.wanted, tM]
  rw [if_pos hw]
  exact LW r qs wA hc hx ho wN (zk wK wU) wa hs vq vz w9 mN sh hq hK
 ·have h1 := kP (v := σ.get u) (os := .box (QJ u 1 wF) :: Zs qs wF) (fun e => by rw [e, wk] at wu; cases wu) (Jy (l := YL cells) wu)
  cases hd : o.o.dst with
  | none => exact h1
  | some d => exact SN (fun e => wQ (by rw [hd, e])) h1
end
attribute [simp] KP DJ At.isO
end Go.Vm
namespace Go.Vm
open Go.RowKit
section
variable {P : Program} {σ : St} {k : Fr}
end
end Go.Vm
namespace Go.Vm
open Go.RowKit
section
variable {P : Program} {σ : St} {k : Fr}
theorem cR {A : Qh} {o : OpI} {l : JT} {c : Call} {f : FuncId} {d : Nat} {own : Bool} {rows res : List (List D)} (hs : Xk P f own rows res) (h : @EI P (σ.put d (Kx res)) A l k) (wA : o.o.op = .call c := by exact rfl) (hc : c.callee = .value (.func f) := by exact rfl) (hg : o.o.guard = none := by exact rfl) (hd : o.o.dst = some d := by exact rfl)
  (wU : (Yg P σ c.args.toList c.argTypes.toList).2 = some rows := by simp) (wK : (Yg P σ c.args.toList c.argTypes.toList).1 := by simp) (wa : Z5 P σ c.args.toList c.argTypes.toList = true \/ Qq own res := by simp) : @SI P σ A o l k :=
 R8 wA hc hg hd hs wU wK wa h
theorem cC {b : Bool} {x y : KS} (c : Bool) (ht : jC σ -> c = true -> @WI P σ x k) (hf : jC σ -> c = false -> @WI P σ y k) (hc : c = b := by simp) : @CI P b σ x y k := OJ hc ht hf
end
section
variable {P : Program} {σ : St} {k : Fr}
end
@[simp] abbrev eI (t : Nat) (n : Int) : Nat × V × List Ob := (t, .one (.d (.int .i64 n)), [])
@[simp] abbrev eB (t : Nat) (b : Bool) : Nat × V × List Ob := (t, .one (.d (.bool b)), [])
@[simp] abbrev eL {α : Type} (t s : Nat) (l : List α) (f : α -> List D) : Nat × V × List Ob := (t, .one (.d (.sl s (l.map f))), [])
@[simp] abbrev eP (t u c : Nat) : Nat × V × List Ob := (t, .one (.bptr u c), [])
@[simp] abbrev eG (t : Nat) (xs : List At) : Nat × V × List Ob := (t, .agg xs, [])
@[simp] abbrev eX (t : Nat) (xs : List At) : Nat × V × List Ob := (t, .one (.bptr t 0), [.box xs])
end Go.Vm
namespace Go.Vm
open Go.RowKit
structure Me {α : Type} (x y : α) : Prop where
 h : x = y
structure Bx (p : Prop) : Prop where
 h : p
theorem me {α : Type} {x y : α} (h : x = y) : Me x y := ⟨h⟩
theorem ms {α β : Type} {x y y' : α} {l r : β} (f : Me x y) (e : Me l r) (h : l = r -> y = y' := by intro e; simp only [e]; exact rfl) : Me x y' := ⟨f.h.trans (h e.h)⟩
theorem an {p q : Prop} (h : p) (k : q) : p /\ q := ⟨h, k⟩
theorem ix {α : Type} {v : Nat} {l : List α} (h : decide ((v : Int) < (l.length : Int)) = true) : v < l.length := by simpa using h
theorem ml {α : Type} {q : Prop} (l : List α) (m : q) (h : q -> l.length <= 9223372036854775807 := by intro m; simpa using m) : l.length <= 9223372036854775807 := h m
theorem wr (n : Nat) (h : (n : Int) + 1 <= 9223372036854775807 := by first | omega | (simp only [decide_eq_true_eq, decide_eq_false_iff_not, beq_iff_eq, beq_eq_false_iff_ne, bne_iff_ne, ne_eq, Bool.or_eq_false_iff, Bool.or_eq_true, Bool.and_eq_true, Bool.not_eq_true', Bool.not_eq_false'] at *; omega)) : IntKind.i64.wrap ((n : Int) + 1) = (n : Int) + 1 := YS (by omega) (by omega)
section
variable {P : Program} {σ : St} {k : Fr}
theorem so {f : FuncId} {fn : Func} {n : Nat} {own : Bool} {args res : List (List D)} {p : Prop} (hf : P.funcs[f]? = some fn) (hn : fn.ntmps = n) (h : p) {c : Code} (hb : fn.body = some c := by exact rfl) (wb : kJ P f = true := by kernel_rfl)
  (kk : Bx p -> @WI P (zq n args) ⟨c⟩ (.fin (L5 P fn own res)) := by (intro z; simp; (repeat (with_reducible refine Go.Mo.sd ?_)); exact z.h)) : Xk P f own args res := Gf hf hb wb (by rw [hn]; exact kk ⟨h⟩)
theorem soD {f : FuncId} {fn : Func} {n : Nat} {args res : List (List D)} {p : Prop} (hf : P.funcs[f]? = some fn) (hn : fn.ntmps = n) (h : p) {c : Code} (hb : fn.body = some c := by exact rfl) (wb : kJ P f = true := by kernel_rfl)
  (kk : Bx p -> @WI P (zq n args) ⟨c⟩ (.fin (FI P fn res)) := by (intro z; simp; (repeat (with_reducible refine Go.Mo.sd ?_)); exact z.h)) : YD P f args res := GN hf hb wb (by rw [hn]; exact kk ⟨h⟩)
theorem cF {α : Type} {u y z : α} {b c : Bool} {xc yc : KS} {p q : Prop} (f : Me u (bif c then y else z)) (ht : jC σ -> c = true -> Me u y -> p) (hf : jC σ -> c = false -> Me u z -> q) (hc : c = b := by simp) (kt : Bx p -> @WI P σ xc k := by (intro z; simp; (repeat (with_reducible refine Go.Mo.sd ?_)); exact z.h)) (kf : Bx q -> @WI P σ yc k := by (intro z; simp; (repeat (with_reducible refine Go.Mo.sd ?_)); exact z.h)) : @CI P b σ xc yc k :=
 OJ hc (fun s h => kt ⟨(ht s h ⟨f.h.trans (by rw [h]; rfl)⟩)⟩) (fun s h => kf ⟨(hf s h ⟨f.h.trans (by rw [h]; rfl)⟩)⟩)
theorem cFt {α : Type} {u y z : α} {b c : Bool} {xc yc : KS} {p : Prop} (f : Me u (bif c then y else z)) (ht : jC σ -> c = true -> Me u y -> p) (hf : jC σ -> c = false -> Me u z -> @WI P σ yc k) (hc : c = b := by simp) (kt : Bx p -> @WI P σ xc k := by (intro z; simp; (repeat (with_reducible refine Go.Mo.sd ?_)); exact z.h)) : @CI P b σ xc yc k :=
 OJ hc (fun s h => kt ⟨(ht s h ⟨f.h.trans (by rw [h]; rfl)⟩)⟩) (fun s h => (hf s h ⟨f.h.trans (by rw [h]; rfl)⟩))
theorem cFf {α : Type} {u y z : α} {b c : Bool} {xc yc : KS} {q : Prop} (f : Me u (bif c then y else z)) (ht : jC σ -> c = true -> Me u y -> @WI P σ xc k) (hf : jC σ -> c = false -> Me u z -> q) (hc : c = b := by simp) (kf : Bx q -> @WI P σ yc k := by (intro z; simp; (repeat (with_reducible refine Go.Mo.sd ?_)); exact z.h)) : @CI P b σ xc yc k :=
 OJ hc (fun s h => (ht s h ⟨f.h.trans (by rw [h]; rfl)⟩)) (fun s h => kf ⟨(hf s h ⟨f.h.trans (by rw [h]; rfl)⟩)⟩)
theorem cFo {α : Type} {u y z : α} {b c : Bool} {xc yc : KS} (f : Me u (bif c then y else z)) (ht : jC σ -> c = true -> Me u y -> @WI P σ xc k) (hf : jC σ -> c = false -> Me u z -> @WI P σ yc k) (hc : c = b := by simp) : @CI P b σ xc yc k :=
 OJ hc (fun s h => (ht s h ⟨f.h.trans (by rw [h]; rfl)⟩)) (fun s h => (hf s h ⟨f.h.trans (by rw [h]; rfl)⟩))
theorem cK {α : Type} {u y z : α} {b c : Bool} {xc yc : KS} {p q : Prop} (f : Me u (bif c then y else z)) (ht : jC σ -> c = true -> Me u y -> p) (hf : jC σ -> c = false -> Me u z -> q) (hc : c = b := by first | (simp [G]; done) | grind) (kt : Bx p -> @WI P σ xc k := by (intro z; simp [G, Go.Vm.ZC]; (repeat (with_reducible refine Go.Mo.sdg ?_)); exact z.h)) (kf : Bx q -> @WI P σ yc k := by (intro z; simp [G, Go.Vm.ZC]; (repeat (with_reducible refine Go.Mo.sdg ?_)); exact z.h)) : @CI P b σ xc yc k :=
 OJ hc (fun s h => kt ⟨(ht s h ⟨f.h.trans (by rw [h]; rfl)⟩)⟩) (fun s h => kf ⟨(hf s h ⟨f.h.trans (by rw [h]; rfl)⟩)⟩)
theorem cKo {α : Type} {u y z : α} {b c : Bool} {xc yc : KS} (f : Me u (bif c then y else z)) (ht : jC σ -> c = true -> Me u y -> @WI P σ xc k) (hf : jC σ -> c = false -> Me u z -> @WI P σ yc k) (hc : c = b := by first | (simp [G]; done) | grind) : @CI P b σ xc yc k :=
 OJ hc (fun s h => (ht s h ⟨f.h.trans (by rw [h]; rfl)⟩)) (fun s h => (hf s h ⟨f.h.trans (by rw [h]; rfl)⟩))
theorem cRg {A : Qh} {o : OpI} {l : JT} {c : Call} {f : FuncId} {d : Nat} {own : Bool} {rows res : List (List D)} {p : Prop} (hs : Xk P f own rows res) (h : p) (wA : o.o.op = .call c := by exact rfl) (hc : c.callee = .value (.func f) := by exact rfl) (hg : o.o.guard = none := by exact rfl) (hd : o.o.dst = some d := by exact rfl) (wU : (Yg P σ c.args.toList c.argTypes.toList).2 = some rows := by simp) (wK : (Yg P σ c.args.toList c.argTypes.toList).1 := by simp) (wa : Z5 P σ c.args.toList c.argTypes.toList = true \/ Qq own res := by simp) (kk : Bx p -> @EI P (σ.put d (Kx res)) A l k := by (intro z; simp [G, Go.Vm.ZC]; (repeat (with_reducible refine Go.Mo.sdg ?_)); exact z.h)) : @SI P σ A o l k := R8 wA hc hg hd hs wU wK wa (kk ⟨h⟩)
theorem cRs {A : Qh} {o : OpI} {l : JT} {c : Call} {f : FuncId} {d : Nat} {own : Bool} {rows res : List (List D)} {p : Prop} (hs : Xk P f own rows res) (h : p) (wA : o.o.op = .call c := by exact rfl) (hc : c.callee = .value (.func f) := by exact rfl) (hg : o.o.guard = none := by exact rfl) (hd : o.o.dst = some d := by exact rfl) (wU : (Yg P σ c.args.toList c.argTypes.toList).2 = some rows := by simp) (wK : (Yg P σ c.args.toList c.argTypes.toList).1 := by simp) (wa : Z5 P σ c.args.toList c.argTypes.toList = true \/ Qq own res := by simp) (kk : Bx p -> @EI P (σ.put d (Kx res)) A l k := by (intro z; simp; (repeat (with_reducible refine Go.Mo.sd ?_)); exact z.h)) : @SI P σ A o l k := R8 wA hc hg hd hs wU wK wa (kk ⟨h⟩)
theorem cRf {A : Qh} {o : OpI} {l : JT} {c : Call} {f : FuncId} {d : Nat} {own : Bool} {rows res : List (List D)} {p q : Prop} (F : q) (hs : Xk P f own rows res) (h : p) (wA : o.o.op = .call c := by exact rfl) (hc : c.callee = .value (.func f) := by exact rfl) (hg : o.o.guard = none := by exact rfl) (hd : o.o.dst = some d := by exact rfl) (wU : (Yg P σ c.args.toList c.argTypes.toList).2 = some rows := by simp) (wK : (Yg P σ c.args.toList c.argTypes.toList).1 := by simp) (wa : Z5 P σ c.args.toList c.argTypes.toList = true \/ Qq own res := by simp) (kk : q -> Bx p -> @EI P (σ.put d (Kx res)) A l k := by (intro F z; simp [F, Go.Vm.ZC]; (repeat (with_reducible refine Go.Mo.sd ?_)); exact z.h)) : @SI P σ A o l k := R8 wA hc hg hd hs wU wK wa (kk F ⟨h⟩)
theorem cDg {A : Qh} {o : OpI} {l : JT} {c : Call} {f : FuncId} {d : Nat} {rows res : List (List D)} {p : Prop} (qs : List Bool) (hs : YD P f rows res) (h : p) (wA : o.o.op = .call c := by exact rfl) (hc : c.callee = .value (.func f) := by exact rfl) (hg : o.o.guard = none := by exact rfl) (hd : o.o.dst = some d := by exact rfl) (wU : (Yg P σ c.args.toList c.argTypes.toList).2 = some rows := by simp) (wK : (Yg P σ c.args.toList c.argTypes.toList).1 := by simp) (hq : KQ qs res.flatten := by simp [-Bool.exists_bool, -Bool.forall_bool]) (hf : σ.fresh d = true := by simp) (kk : Bx p -> @EI P (σ.new d (xZ d res) (Zs qs res.flatten)) A l k := by (intro z; simp [G, Go.Vm.ZC]; (repeat (with_reducible refine Go.Mo.sdg ?_)); exact z.h)) : @SI P σ A o l k := FZ qs wA hc hg hd hs wU wK hq hf (kk ⟨h⟩)
theorem cDs {A : Qh} {o : OpI} {l : JT} {c : Call} {f : FuncId} {d : Nat} {rows res : List (List D)} {p : Prop} (qs : List Bool) (hs : YD P f rows res) (h : p) (wA : o.o.op = .call c := by exact rfl) (hc : c.callee = .value (.func f) := by exact rfl) (hg : o.o.guard = none := by exact rfl) (hd : o.o.dst = some d := by exact rfl) (wU : (Yg P σ c.args.toList c.argTypes.toList).2 = some rows := by simp) (wK : (Yg P σ c.args.toList c.argTypes.toList).1 := by simp) (hq : KQ qs res.flatten := by simp [-Bool.exists_bool, -Bool.forall_bool]) (hf : σ.fresh d = true := by simp) (kk : Bx p -> @EI P (σ.new d (xZ d res) (Zs qs res.flatten)) A l k := by (intro z; simp; (repeat (with_reducible refine Go.Mo.sd ?_)); exact z.h)) : @SI P σ A o l k := FZ qs wA hc hg hd hs wU wK hq hf (kk ⟨h⟩)
theorem cGo {A : Qh} {o : OpI} {l : JT} {c : Call} {f : FuncId} {d : Nat} {j dj : Nat} {want g own : Bool} {rows : List (List D)} {res : List D} (hs : g = true -> Xk P f own rows [res]) (h : @EI P (σ.put d (.cnd g (Kx [res]))) A l k) (wA : o.o.op = .call c := by exact rfl) (hc : c.callee = .value (.func f) := by exact rfl) (hg : o.o.guard = some (j, want) := by exact rfl) (hd : o.o.dst = some d := by exact rfl) (ve : (A.ops[j]?).bind (·.dst) = some dj := by exact rfl) (vp : zg want (σ.get dj) = some g := by exact rfl) (wU : (Yg P σ c.args.toList c.argTypes.toList).2 = some rows := by first | (simp; done) | (simp [G]; done) | (simp [G]; omega) | (simp_all; done)) (wN : dj < σ.length := by first | (simp; done) | (simp [G]; done) | (simp [G]; omega) | (simp_all; done)) (wK : g = true -> (Yg P σ c.args.toList c.argTypes.toList).1 := by first | (simp; done) | (simp [G]; done) | (simp [G]; omega) | (simp_all; done)) (wa : Z5 P σ c.args.toList c.argTypes.toList = true \/ Qq own [res] := by first | (simp; done) | (simp [G]; done) | (simp [G]; omega) | (simp_all; done)) : @SI P σ A o l k := MH wA hc hg hd ve vp hs wU wN wK wa h
theorem cGg {A : Qh} {o : OpI} {l : JT} {c : Call} {f : FuncId} {d : Nat} {j dj : Nat} {want g own : Bool} {rows : List (List D)} {res : List D} {p : Prop} (hs : g = true -> Xk P f own rows [res]) (h : p) (wA : o.o.op = .call c := by exact rfl) (hc : c.callee = .value (.func f) := by exact rfl) (hg : o.o.guard = some (j, want) := by exact rfl) (hd : o.o.dst = some d := by exact rfl) (ve : (A.ops[j]?).bind (·.dst) = some dj := by exact rfl) (vp : zg want (σ.get dj) = some g := by exact rfl) (wU : (Yg P σ c.args.toList c.argTypes.toList).2 = some rows := by first | (simp; done) | (simp [G]; done) | (simp [G]; omega) | (simp_all; done)) (wN : dj < σ.length := by first | (simp; done) | (simp [G]; done) | (simp [G]; omega) | (simp_all; done)) (wK : g = true -> (Yg P σ c.args.toList c.argTypes.toList).1 := by first | (simp; done) | (simp [G]; done) | (simp [G]; omega) | (simp_all; done)) (wa : Z5 P σ c.args.toList c.argTypes.toList = true \/ Qq own [res] := by first | (simp; done) | (simp [G]; done) | (simp [G]; omega) | (simp_all; done)) (kk : Bx p -> @EI P (σ.put d (.cnd g (Kx [res]))) A l k := by (intro z; simp [G, Go.Vm.ZC]; (repeat (with_reducible refine Go.Mo.sdg ?_)); exact z.h)) : @SI P σ A o l k := MH wA hc hg hd ve vp hs wU wN wK wa (kk ⟨h⟩)
theorem cGs {A : Qh} {o : OpI} {l : JT} {c : Call} {f : FuncId} {d : Nat} {j dj : Nat} {want g own : Bool} {rows : List (List D)} {res : List D} {p : Prop} (hs : g = true -> Xk P f own rows [res]) (h : p) (wA : o.o.op = .call c := by exact rfl) (hc : c.callee = .value (.func f) := by exact rfl) (hg : o.o.guard = some (j, want) := by exact rfl) (hd : o.o.dst = some d := by exact rfl) (ve : (A.ops[j]?).bind (·.dst) = some dj := by exact rfl) (vp : zg want (σ.get dj) = some g := by exact rfl) (wU : (Yg P σ c.args.toList c.argTypes.toList).2 = some rows := by simp) (wN : dj < σ.length := by simp) (wK : g = true -> (Yg P σ c.args.toList c.argTypes.toList).1 := by simp) (wa : Z5 P σ c.args.toList c.argTypes.toList = true \/ Qq own [res] := by simp) (kk : Bx p -> @EI P (σ.put d (.cnd g (Kx [res]))) A l k := by (intro z; simp; (repeat (with_reducible refine Go.Mo.sd ?_)); exact z.h)) : @SI P σ A o l k := MH wA hc hg hd ve vp hs wU wN wK wa (kk ⟨h⟩)
theorem cBo {A : Qh} {o : OpI} {l : JT} {cl : Call} {f : FuncId} {d : Nat} {x0 : Operand} {xs : List Operand} {t0 : TypeId} {ts : List TypeId} {wR res : List (List D)} {row wF : List D} {dp : Bool} {t : Nat} (qs : List Bool) (hs : Xt P f dp row wR wF res) (h : @EI P (IG dp (σ.Zh t 0 (.box (wF.map .d))) d res qs) A l k) (wA : o.o.op = .call cl := by exact rfl) (hc : cl.callee = .value (.func f) := by exact rfl) (tM : o.o.guard = none := by exact rfl) (hd : o.o.dst = some d := by exact rfl) (w7 : A.bar o.o = true := by exact rfl) (ha : cl.args.toList = x0 :: xs := by exact rfl) (uR : cl.argTypes.toList = t0 :: ts := by exact rfl) (hx : gOf (look P σ t0 x0) = true /\ unc (look P σ t0 x0) = .one (.bptr t 0) := by exact ⟨rfl, rfl⟩) (ho : σ.ob t 0 = .box (row.map .d) := by simp) (wK : (Yg P σ xs ts).1 := by simp) (wU : (Yg P σ xs ts).2 = some wR := by simp) (wa : Z5 P σ xs ts = true := by simp) (vG : dp = true -> (σ.Zh t 0 (.box (wF.map .d))).fresh d = true /\ KQ qs res.flatten := by simp [-Bool.exists_bool, -Bool.forall_bool]) : @SI P σ A o l k := ET qs wA hc tM hd w7 ha uR hs hx ho wK wU wa vG h
theorem cBs {A : Qh} {o : OpI} {l : JT} {cl : Call} {f : FuncId} {d : Nat} {x0 : Operand} {xs : List Operand} {t0 : TypeId} {ts : List TypeId} {wR res : List (List D)} {row wF : List D} {dp : Bool} {t : Nat} {p : Prop} (qs : List Bool) (hs : Xt P f dp row wR wF res) (h : p) (wA : o.o.op = .call cl := by exact rfl) (hc : cl.callee = .value (.func f) := by exact rfl) (tM : o.o.guard = none := by exact rfl) (hd : o.o.dst = some d := by exact rfl) (w7 : A.bar o.o = true := by exact rfl) (ha : cl.args.toList = x0 :: xs := by exact rfl) (uR : cl.argTypes.toList = t0 :: ts := by exact rfl) (hx : gOf (look P σ t0 x0) = true /\ unc (look P σ t0 x0) = .one (.bptr t 0) := by exact ⟨rfl, rfl⟩) (ho : σ.ob t 0 = .box (row.map .d) := by simp) (wK : (Yg P σ xs ts).1 := by simp) (wU : (Yg P σ xs ts).2 = some wR := by simp) (wa : Z5 P σ xs ts = true := by simp) (vG : dp = true -> (σ.Zh t 0 (.box (wF.map .d))).fresh d = true /\ KQ qs res.flatten := by simp [-Bool.exists_bool, -Bool.forall_bool]) (kk : Bx p -> @EI P (IG dp (σ.Zh t 0 (.box (wF.map .d))) d res qs) A l k := by (intro z; simp; (repeat (with_reducible refine Go.Mo.sd ?_)); exact z.h)) : @SI P σ A o l k := ET qs wA hc tM hd w7 ha uR hs hx ho wK wU wa vG (kk ⟨h⟩)
theorem cNs {A : Qh} {o : OpI} {l : JT} {cl : Call} {f : FuncId} {d : Nat} {wR : List (List D)} {wF : List D} {p : Prop} (hs : Sr P f wR wF) (h : p) (wA : o.o.op = .call cl := by exact rfl) (hc : cl.callee = .value (.func f) := by exact rfl) (tM : o.o.guard = none := by exact rfl) (hd : o.o.dst = some d := by exact rfl) (w7 : A.bar o.o = true := by exact rfl) (wK : (Yg P σ cl.args.toList cl.argTypes.toList).1 := by simp) (wU : (Yg P σ cl.args.toList cl.argTypes.toList).2 = some wR := by simp) (wa : Z5 P σ cl.args.toList cl.argTypes.toList = true := by simp) (vG : σ.fresh d = true := by simp) (tB : Qw P o.o = false := by exact rfl) (kk : Bx p -> @EI P (σ.new d (.one (.bptr d 0)) [.box (wF.map .d)]) A l k := by (intro z; simp; (repeat (with_reducible refine Go.Mo.sd ?_)); exact z.h)) : @SI P σ A o l k := E4 wA hc tM hd w7 hs wK wU wa vG (kk ⟨h⟩) tB
theorem dIo {id : Nat} {l : List Oper} {br : Oper -> Bool} (hm : P.follows .mixedOrders = true) (h : @EI P σ ⟨⟨l⟩, fun _ => false⟩ ⟨l⟩ k) (hdr : Sx P ⟨l⟩ (fun i => i) (fun _ => false) = true := by kernel_rfl) (wk : KX ⟨l⟩ (fun i => i) σ = true := by kernel_rfl) : @DI P id σ ⟨⟨l⟩, br⟩ k := ED hm hdr wk h
theorem dIs {id : Nat} {l : List Oper} {br : Oper -> Bool} {p : Prop} (hm : P.follows .mixedOrders = true) (h : p) (hdr : Sx P ⟨l⟩ (fun i => i) (fun _ => false) = true := by kernel_rfl) (wk : KX ⟨l⟩ (fun i => i) σ = true := by kernel_rfl) (kk : Bx p -> @EI P σ ⟨⟨l⟩, fun _ => false⟩ ⟨l⟩ k := by (intro z; simp; (repeat (with_reducible refine Go.Mo.sd ?_)); exact z.h)) : @DI P id σ ⟨⟨l⟩, br⟩ k := ED hm hdr wk (kk ⟨h⟩)
theorem eIs {A : Qh} {o : OpI} {l : JT} {d : Nat} {p : Prop}  (h : p) (hp : Mu o.o = true := by exact rfl) (hg : o.o.guard = none := by exact rfl) (hd : o.o.dst = some d := by exact rfl) (kk : Bx p -> (evS P σ o.o d).1 /\ @EI P (evS P σ o.o d).2 A l k := by (intro z; simp; (repeat (with_reducible refine Go.Mo.sd ?_)); exact z.h)) : @SI P σ A o l k := evI hp hg hd (kk ⟨h⟩)
theorem sGo {A : Qh} {o : OpI} {l : JT} {j dj d : Nat} {want g : Bool}  (h : @EI P (σ.put d (.cnd false .any)) A l k) (hg : o.o.guard = some (j, want) := by exact rfl) (hd : o.o.dst = some d := by exact rfl) (ve : (A.ops[j]?).bind (·.dst) = some dj := by exact rfl) (vp : zg want (σ.get dj) = some g := by exact rfl) (wN : dj < σ.length := by simp) (nV : g = false := by simp [G]) : @SI P σ A o l k := ES hg hd ve vp wN nV h
theorem sGg {A : Qh} {o : OpI} {l : JT} {j dj d : Nat} {want g : Bool} {p : Prop}  (h : p) (hg : o.o.guard = some (j, want) := by exact rfl) (hd : o.o.dst = some d := by exact rfl) (ve : (A.ops[j]?).bind (·.dst) = some dj := by exact rfl) (vp : zg want (σ.get dj) = some g := by exact rfl) (wN : dj < σ.length := by simp) (nV : g = false := by simp [G]) (kk : Bx p -> @EI P (σ.put d (.cnd false .any)) A l k := by (intro z; simp [G, Go.Vm.ZC]; (repeat (with_reducible refine Go.Mo.sdg ?_)); exact z.h)) : @SI P σ A o l k := ES hg hd ve vp wN nV (kk ⟨h⟩)
theorem gIf {A : Qh} {o : OpI} {l : JT} {j dj d : Nat} {want g : Bool} {r1 r2 : Prop} {q : Prop} (ht : r1 -> ((evV P σ o.o.op o.o.type).1 /\ gOf (evV P σ o.o.op o.o.type).2 = true /\ (unc (evV P σ o.o.op o.o.type).2).flat = true) /\ @EI P (σ.put d (.cnd true (unc (evV P σ o.o.op o.o.type).2))) A l k) (hf : r2 -> q) (wA : OC o.o.op = false := by exact rfl) (hg : o.o.guard = some (j, want) := by exact rfl) (hd : o.o.dst = some d := by exact rfl) (ve : (A.ops[j]?).bind (·.dst) = some dj := by exact rfl) (vp : zg want (σ.get dj) = some g := by exact rfl) (wN : dj < σ.length := by simp) (k1 : g = true -> r1 := by (intro h; (try simp only [beq_true, beq_false, Bool.not_eq_true', Bool.not_eq_false', Bool.true_and, Bool.and_true] at h); exact h)) (k2 : g = false -> r2 := by (intro h; (try simp only [beq_true, beq_false, Bool.not_eq_true', Bool.not_eq_false', Bool.true_and, Bool.and_true] at h); exact h)) (kf : r2 -> Bx q -> @EI P (σ.put d (.cnd false .any)) A l k := by (intro G z; simp [G, Go.Vm.ZC]; (repeat (with_reducible refine Go.Mo.sdg ?_)); exact z.h)) : @SI P σ A o l k := MP wA hg hd ve vp wN (fun h => ht (k1 h)) (fun h => (fun G => kf G ⟨hf G⟩) (k2 h))
theorem gIo {A : Qh} {o : OpI} {l : JT} {j dj d : Nat} {want g : Bool} {r1 r2 : Prop} (ht : r1 -> ((evV P σ o.o.op o.o.type).1 /\ gOf (evV P σ o.o.op o.o.type).2 = true /\ (unc (evV P σ o.o.op o.o.type).2).flat = true) /\ @EI P (σ.put d (.cnd true (unc (evV P σ o.o.op o.o.type).2))) A l k) (hf : r2 -> @EI P (σ.put d (.cnd false .any)) A l k) (wA : OC o.o.op = false := by exact rfl) (hg : o.o.guard = some (j, want) := by exact rfl) (hd : o.o.dst = some d := by exact rfl) (ve : (A.ops[j]?).bind (·.dst) = some dj := by exact rfl) (vp : zg want (σ.get dj) = some g := by exact rfl) (wN : dj < σ.length := by simp) (k1 : g = true -> r1 := by (intro h; (try simp only [beq_true, beq_false, Bool.not_eq_true', Bool.not_eq_false', Bool.true_and, Bool.and_true] at h); exact h)) (k2 : g = false -> r2 := by (intro h; (try simp only [beq_true, beq_false, Bool.not_eq_true', Bool.not_eq_false', Bool.true_and, Bool.and_true] at h); exact h)) : @SI P σ A o l k := MP wA hg hd ve vp wN (fun h => ht (k1 h)) (fun h => hf (k2 h))
theorem gJf {A : Qh} {o : OpI} {l : JT} {j dj d : Nat} {want g : Bool} {r1 r2 s : Prop} {q : Prop} (G : s) (ht : s /\ r1 -> ((evV P σ o.o.op o.o.type).1 /\ gOf (evV P σ o.o.op o.o.type).2 = true /\ (unc (evV P σ o.o.op o.o.type).2).flat = true) /\ @EI P (σ.put d (.cnd true (unc (evV P σ o.o.op o.o.type).2))) A l k) (hf : s /\ r2 -> q) (wA : OC o.o.op = false := by exact rfl) (hg : o.o.guard = some (j, want) := by exact rfl) (hd : o.o.dst = some d := by exact rfl) (ve : (A.ops[j]?).bind (·.dst) = some dj := by exact rfl) (vp : zg want (σ.get dj) = some g := by exact rfl) (wN : dj < σ.length := by simp) (k1 : g = true -> r1 := by (intro h; (try simp only [beq_true, beq_false, Bool.not_eq_true', Bool.not_eq_false', Bool.true_and, Bool.and_true] at h); exact h)) (k2 : g = false -> r2 := by (intro h; (try simp only [beq_true, beq_false, Bool.not_eq_true', Bool.not_eq_false', Bool.true_and, Bool.and_true] at h); exact h)) (kf : s /\ r2 -> Bx q -> @EI P (σ.put d (.cnd false .any)) A l k := by (intro G z; simp [G, Go.Vm.ZC]; (repeat (with_reducible refine Go.Mo.sdg ?_)); exact z.h)) : @SI P σ A o l k := MP wA hg hd ve vp wN (fun h => ht ⟨G, k1 h⟩) (fun h => (fun G => kf G ⟨hf G⟩) ⟨G, k2 h⟩)
theorem gK {A : Qh} {o : OpI} {l : JT} {j dj d : Nat} {want g : Bool} {r1 : Prop} (ht : r1 -> ((evV P σ o.o.op o.o.type).1 /\ gOf (evV P σ o.o.op o.o.type).2 = true /\ (unc (evV P σ o.o.op o.o.type).2).flat = true) /\ @EI P (σ.put d (.cnd true (unc (evV P σ o.o.op o.o.type).2))) A l k) (wA : OC o.o.op = false := by exact rfl) (hg : o.o.guard = some (j, want) := by exact rfl) (hd : o.o.dst = some d := by exact rfl) (ve : (A.ops[j]?).bind (·.dst) = some dj := by exact rfl) (vp : zg want (σ.get dj) = some g := by exact rfl) (wN : dj < σ.length := by simp) (k1 : g = true -> r1 := by (intro h; (try simp only [beq_true, beq_false, Bool.not_eq_true', Bool.not_eq_false', Bool.true_and, Bool.and_true] at h); exact h)) (k2 : g = false -> False := by first | (intro g0; simp at g0; done) | (intro g0; simp [G] at g0; done)) : @SI P σ A o l k := MP wA hg hd ve vp wN (fun h => ht (k1 h)) (fun h => (k2 h).elim)
theorem rt {α : Type} {x y : α} {fn : Func} {res : List (List D)} (rv : List ResultVar) (f : Me x y) (hf : fn.results = rv.toArray := by exact rfl) (h : x = y -> (QN P σ rv).1 /\ yl σ (QN P σ rv).2 = some res := by (intro f; simp [f])) : L5 P fn false res .ret σ := EL hf (h f.h)
theorem rtg {α : Type} {x y : α} {fn : Func} {res : List (List D)} (rv : List ResultVar) (f : Me x y) (hf : fn.results = rv.toArray := by exact rfl) (h : x = y -> (QN P σ rv).1 /\ yl σ (QN P σ rv).2 = some res := by (intro f; simp [f, G])) : L5 P fn false res .ret σ := EL hf (h f.h)
theorem rtO {α : Type} {x y : α} {fn : Func} {res : List (List D)} (rv : List ResultVar) (f : Me x y) (hf : fn.results = rv.toArray := by exact rfl) (h : x = y -> (QN P σ rv).1 /\ jD σ (QN P σ rv).2 = some res /\ (YL (QN P σ rv).2.flatten).Nodup := by (intro f; simp [f])) : L5 P fn true res .ret σ := Ee hf (h f.h)
theorem rtD {α : Type} {x y : α} {fn : Func} {res : List (List D)} (rv : List ResultVar) (f : Me x y) (hf : fn.results = rv.toArray := by exact rfl) (h : x = y -> (QN P σ rv).1 /\ QY σ (QN P σ rv).2 = some res /\ QI σ (QN P σ rv).2 /\ (YL (QN P σ rv).2.flatten).Nodup := by (intro f; simp [f, -Bool.exists_bool, -Bool.forall_bool])) : FI P fn res .ret σ := E5 hf (h f.h)
end
class NxI where
 p : St -> Prop
def Nx (σ : St) [n : NxI] : Prop := n.p σ
section
variable {P : Program} {σ : St} {k : Fr}
theorem W7 {c : KS} {n n' : St -> Prop} (hn : ∀ σ', n σ' -> n' σ') (h : @WI P σ c (.nxt n k)) : AWP P c.c (Fr.run P (.nxt n' k)) σ :=
 Lc (fun e σ' hq => by cases e <;> first | exact hn _ hq | exact hq) (qi h)
abbrev Q1 {R : Type} {A0 : Type} (L : Nat -> A0 -> R) (S : A0 -> St) (I : Nat -> A0 -> Prop) (t : R) (b : Nat) : NxI := ⟨fun τ => ∃ a0, Me t (L b a0) /\ (1 <= b /\ I b a0) /\ Wk τ (S a0)⟩
theorem nx1 {R : Type} {A0 : Type} {L : Nat -> A0 -> R} {S : A0 -> St} {I : Nat -> A0 -> Prop} {t : R} {b : Nat} {a0 : A0} (e : Me t (L b a0)) (hI : 1 <= b /\ I b a0 := by ((try dsimp only); first | omega | (simp at *; omega))) (hw : Wk σ (S a0) := by exact QA (by simp)) : @Nx σ (Q1 L S I t b) := ⟨a0, e, hI, hw⟩
theorem ny1 {R : Type} {A0 : Type} {L : Nat -> A0 -> R} {S : A0 -> St} {I : Nat -> A0 -> Prop} {t : R} {b : Nat} {a0 : A0} {q : Prop} (F : q) (e : Me t (L b a0)) (hI : 1 <= b /\ I b a0 := by ((try dsimp only); first | omega | (simp at *; omega))) (kw : q -> Wk σ (S a0) := by (intro F; exact QA (by simp [F]))) : @Nx σ (Q1 L S I t b) := ⟨a0, e, hI, kw F⟩
theorem lp1 {c : KS} {R : Type} {A0 : Type} {L B : Nat -> A0 -> R} (hL : ∀ (a0 : A0) (n : Nat), L (Nat.succ n) a0 = B n a0) (S : A0 -> St) (I : Nat -> A0 -> Prop) (n0 : Nat) (b0 : A0) {p : Nat -> A0 -> Prop}
  (round : ∀ n (a0 : A0), Me (L n0 b0) (B n a0) -> 1 <= n + 1 /\ I (n + 1) a0 -> p n a0) (hI : 1 <= n0 /\ I n0 b0 := by first | omega | (dsimp only; omega) | simp) (h0 : Wk σ (S b0) := by exact QA (by simp)) (kk : ∀ n (a0 : A0), Bx (p n a0) -> @WI P (S a0) c (.nxt (fun σ' => @Nx σ' (Q1 L S I (L n0 b0) n)) k) := by (intro n_ oD z; simp; (repeat (with_reducible refine Go.Mo.sd ?_)); exact z.h)) : @Wi P σ c k := by
 refine xR (ι := { s : Nat × A0 // Me (L n0 b0) (L s.1 s.2) /\ (1 <= s.1 /\ I s.1 s.2) }) (fun s => S s.1.2) (fun s => s.1.1) ⟨(n0, b0), ⟨rfl⟩, hI⟩ h0 ?_
 rintro ⟨⟨n1, a0⟩, e, j⟩
 obtain ⟨n, rfl⟩ : ∃ q, n1 = q + 1 := ⟨n1 - 1, by have := j.1; (try dsimp only at this); omega⟩
 refine W7 (fun σ' hn => ?_) (kk n a0 ⟨round n a0 ⟨by have := e.h; (try dsimp only at this); rw [this, hL]⟩ j⟩)
 obtain ⟨c0, e2, j2, w2⟩ := hn
 exact ⟨⟨(n, c0), e2, j2⟩, Nat.lt_succ_self n, w2⟩
abbrev Q2 {R : Type} {A0 A1 : Type} (L : Nat -> A0 -> A1 -> R) (S : A0 -> A1 -> St) (I : Nat -> A0 -> A1 -> Prop) (t : R) (b : Nat) : NxI := ⟨fun τ => ∃ a0 a1, Me t (L b a0 a1) /\ (1 <= b /\ I b a0 a1) /\ Wk τ (S a0 a1)⟩
theorem nx2 {R : Type} {A0 A1 : Type} {L : Nat -> A0 -> A1 -> R} {S : A0 -> A1 -> St} {I : Nat -> A0 -> A1 -> Prop} {t : R} {b : Nat} {a0 : A0} {a1 : A1} (e : Me t (L b a0 a1)) (hI : 1 <= b /\ I b a0 a1 := by ((try dsimp only); first | omega | (simp at *; omega))) (hw : Wk σ (S a0 a1) := by exact QA (by simp)) : @Nx σ (Q2 L S I t b) := ⟨a0, a1, e, hI, hw⟩
theorem ny2 {R : Type} {A0 A1 : Type} {L : Nat -> A0 -> A1 -> R} {S : A0 -> A1 -> St} {I : Nat -> A0 -> A1 -> Prop} {t : R} {b : Nat} {a0 : A0} {a1 : A1} {q : Prop} (F : q) (e : Me t (L b a0 a1)) (hI : 1 <= b /\ I b a0 a1 := by ((try dsimp only); first | omega | (simp at *; omega))) (kw : q -> Wk σ (S a0 a1) := by (intro F; exact QA (by simp [F]))) : @Nx σ (Q2 L S I t b) := ⟨a0, a1, e, hI, kw F⟩
theorem lp2 {c : KS} {R : Type} {A0 A1 : Type} {L B : Nat -> A0 -> A1 -> R} (hL : ∀ (a0 : A0) (a1 : A1) (n : Nat), L (Nat.succ n) a0 a1 = B n a0 a1) (S : A0 -> A1 -> St) (I : Nat -> A0 -> A1 -> Prop) (n0 : Nat) (b0 : A0) (b1 : A1) {p : Nat -> A0 -> A1 -> Prop}
  (round : ∀ n (a0 : A0) (a1 : A1), Me (L n0 b0 b1) (B n a0 a1) -> 1 <= n + 1 /\ I (n + 1) a0 a1 -> p n a0 a1) (hI : 1 <= n0 /\ I n0 b0 b1 := by first | omega | (dsimp only; omega) | simp) (h0 : Wk σ (S b0 b1) := by exact QA (by simp)) (kk : ∀ n (a0 : A0) (a1 : A1), Bx (p n a0 a1) -> @WI P (S a0 a1) c (.nxt (fun σ' => @Nx σ' (Q2 L S I (L n0 b0 b1) n)) k) := by (intro n_ oD od z; simp; (repeat (with_reducible refine Go.Mo.sd ?_)); exact z.h)) : @Wi P σ c k := by
 refine xR (ι := { s : Nat × A0 × A1 // Me (L n0 b0 b1) (L s.1 s.2.1 s.2.2) /\ (1 <= s.1 /\ I s.1 s.2.1 s.2.2) }) (fun s => S s.1.2.1 s.1.2.2) (fun s => s.1.1) ⟨(n0, b0, b1), ⟨rfl⟩, hI⟩ h0 ?_
 rintro ⟨⟨n1, a0, a1⟩, e, j⟩
 obtain ⟨n, rfl⟩ : ∃ q, n1 = q + 1 := ⟨n1 - 1, by have := j.1; (try dsimp only at this); omega⟩
 refine W7 (fun σ' hn => ?_) (kk n a0 a1 ⟨round n a0 a1 ⟨by have := e.h; (try dsimp only at this); rw [this, hL]⟩ j⟩)
 obtain ⟨c0, c1, e2, j2, w2⟩ := hn
 exact ⟨⟨(n, c0, c1), e2, j2⟩, Nat.lt_succ_self n, w2⟩
abbrev Q3 {R : Type} {A0 A1 A2 : Type} (L : Nat -> A0 -> A1 -> A2 -> R) (S : A0 -> A1 -> A2 -> St) (I : Nat -> A0 -> A1 -> A2 -> Prop) (t : R) (b : Nat) : NxI := ⟨fun τ => ∃ a0 a1 a2, Me t (L b a0 a1 a2) /\ (1 <= b /\ I b a0 a1 a2) /\ Wk τ (S a0 a1 a2)⟩
theorem nx3 {R : Type} {A0 A1 A2 : Type} {L : Nat -> A0 -> A1 -> A2 -> R} {S : A0 -> A1 -> A2 -> St} {I : Nat -> A0 -> A1 -> A2 -> Prop} {t : R} {b : Nat} {a0 : A0} {a1 : A1} {a2 : A2} (e : Me t (L b a0 a1 a2)) (hI : 1 <= b /\ I b a0 a1 a2 := by ((try dsimp only); first | omega | (simp at *; omega))) (hw : Wk σ (S a0 a1 a2) := by exact QA (by simp)) : @Nx σ (Q3 L S I t b) := ⟨a0, a1, a2, e, hI, hw⟩
theorem lp3 {c : KS} {R : Type} {A0 A1 A2 : Type} {L B : Nat -> A0 -> A1 -> A2 -> R} (hL : ∀ (a0 : A0) (a1 : A1) (a2 : A2) (n : Nat), L (Nat.succ n) a0 a1 a2 = B n a0 a1 a2) (S : A0 -> A1 -> A2 -> St) (I : Nat -> A0 -> A1 -> A2 -> Prop) (n0 : Nat) (b0 : A0) (b1 : A1) (b2 : A2) {p : Nat -> A0 -> A1 -> A2 -> Prop}
  (round : ∀ n (a0 : A0) (a1 : A1) (a2 : A2), Me (L n0 b0 b1 b2) (B n a0 a1 a2) -> 1 <= n + 1 /\ I (n + 1) a0 a1 a2 -> p n a0 a1 a2) (hI : 1 <= n0 /\ I n0 b0 b1 b2 := by first | omega | (dsimp only; omega) | simp) (h0 : Wk σ (S b0 b1 b2) := by exact QA (by simp)) (kk : ∀ n (a0 : A0) (a1 : A1) (a2 : A2), Bx (p n a0 a1 a2) -> @WI P (S a0 a1 a2) c (.nxt (fun σ' => @Nx σ' (Q3 L S I (L n0 b0 b1 b2) n)) k) := by (intro n_ oD od nY z; simp; (repeat (with_reducible refine Go.Mo.sd ?_)); exact z.h)) : @Wi P σ c k := by
 refine xR (ι := { s : Nat × A0 × A1 × A2 // Me (L n0 b0 b1 b2) (L s.1 s.2.1 s.2.2.1 s.2.2.2) /\ (1 <= s.1 /\ I s.1 s.2.1 s.2.2.1 s.2.2.2) }) (fun s => S s.1.2.1 s.1.2.2.1 s.1.2.2.2) (fun s => s.1.1) ⟨(n0, b0, b1, b2), ⟨rfl⟩, hI⟩ h0 ?_
 rintro ⟨⟨n1, a0, a1, a2⟩, e, j⟩
 obtain ⟨n, rfl⟩ : ∃ q, n1 = q + 1 := ⟨n1 - 1, by have := j.1; (try dsimp only at this); omega⟩
 refine W7 (fun σ' hn => ?_) (kk n a0 a1 a2 ⟨round n a0 a1 a2 ⟨by have := e.h; (try dsimp only at this); rw [this, hL]⟩ j⟩)
 obtain ⟨c0, c1, c2, e2, j2, w2⟩ := hn
 exact ⟨⟨(n, c0, c1, c2), e2, j2⟩, Nat.lt_succ_self n, w2⟩
abbrev Q4 {R : Type} {A0 A1 A2 A3 : Type} (L : Nat -> A0 -> A1 -> A2 -> A3 -> R) (S : A0 -> A1 -> A2 -> A3 -> St) (I : Nat -> A0 -> A1 -> A2 -> A3 -> Prop) (t : R) (b : Nat) : NxI := ⟨fun τ => ∃ a0 a1 a2 a3, Me t (L b a0 a1 a2 a3) /\ (1 <= b /\ I b a0 a1 a2 a3) /\ Wk τ (S a0 a1 a2 a3)⟩
theorem nx4 {R : Type} {A0 A1 A2 A3 : Type} {L : Nat -> A0 -> A1 -> A2 -> A3 -> R} {S : A0 -> A1 -> A2 -> A3 -> St} {I : Nat -> A0 -> A1 -> A2 -> A3 -> Prop} {t : R} {b : Nat} {a0 : A0} {a1 : A1} {a2 : A2} {a3 : A3} (e : Me t (L b a0 a1 a2 a3)) (hI : 1 <= b /\ I b a0 a1 a2 a3 := by ((try dsimp only); first | omega | (simp at *; omega))) (hw : Wk σ (S a0 a1 a2 a3) := by exact QA (by simp)) : @Nx σ (Q4 L S I t b) := ⟨a0, a1, a2, a3, e, hI, hw⟩
theorem ny4 {R : Type} {A0 A1 A2 A3 : Type} {L : Nat -> A0 -> A1 -> A2 -> A3 -> R} {S : A0 -> A1 -> A2 -> A3 -> St} {I : Nat -> A0 -> A1 -> A2 -> A3 -> Prop} {t : R} {b : Nat} {a0 : A0} {a1 : A1} {a2 : A2} {a3 : A3} {q : Prop} (F : q) (e : Me t (L b a0 a1 a2 a3)) (hI : 1 <= b /\ I b a0 a1 a2 a3 := by ((try dsimp only); first | omega | (simp at *; omega))) (kw : q -> Wk σ (S a0 a1 a2 a3) := by (intro F; exact QA (by simp [F]))) : @Nx σ (Q4 L S I t b) := ⟨a0, a1, a2, a3, e, hI, kw F⟩
theorem lp4 {c : KS} {R : Type} {A0 A1 A2 A3 : Type} {L B : Nat -> A0 -> A1 -> A2 -> A3 -> R} (hL : ∀ (a0 : A0) (a1 : A1) (a2 : A2) (a3 : A3) (n : Nat), L (Nat.succ n) a0 a1 a2 a3 = B n a0 a1 a2 a3) (S : A0 -> A1 -> A2 -> A3 -> St) (I : Nat -> A0 -> A1 -> A2 -> A3 -> Prop) (n0 : Nat) (b0 : A0) (b1 : A1) (b2 : A2) (b3 : A3) {p : Nat -> A0 -> A1 -> A2 -> A3 -> Prop}
  (round : ∀ n (a0 : A0) (a1 : A1) (a2 : A2) (a3 : A3), Me (L n0 b0 b1 b2 b3) (B n a0 a1 a2 a3) -> 1 <= n + 1 /\ I (n + 1) a0 a1 a2 a3 -> p n a0 a1 a2 a3) (hI : 1 <= n0 /\ I n0 b0 b1 b2 b3 := by first | omega | (dsimp only; omega) | simp) (h0 : Wk σ (S b0 b1 b2 b3) := by exact QA (by simp)) (kk : ∀ n (a0 : A0) (a1 : A1) (a2 : A2) (a3 : A3), Bx (p n a0 a1 a2 a3) -> @WI P (S a0 a1 a2 a3) c (.nxt (fun σ' => @Nx σ' (Q4 L S I (L n0 b0 b1 b2 b3) n)) k) := by (intro n_ oD od nY mO z; simp; (repeat (with_reducible refine Go.Mo.sd ?_)); exact z.h)) : @Wi P σ c k := by
 refine xR (ι := { s : Nat × A0 × A1 × A2 × A3 // Me (L n0 b0 b1 b2 b3) (L s.1 s.2.1 s.2.2.1 s.2.2.2.1 s.2.2.2.2) /\ (1 <= s.1 /\ I s.1 s.2.1 s.2.2.1 s.2.2.2.1 s.2.2.2.2) }) (fun s => S s.1.2.1 s.1.2.2.1 s.1.2.2.2.1 s.1.2.2.2.2) (fun s => s.1.1) ⟨(n0, b0, b1, b2, b3), ⟨rfl⟩, hI⟩ h0 ?_
 rintro ⟨⟨n1, a0, a1, a2, a3⟩, e, j⟩
 obtain ⟨n, rfl⟩ : ∃ q, n1 = q + 1 := ⟨n1 - 1, by have := j.1; (try dsimp only at this); omega⟩
 refine W7 (fun σ' hn => ?_) (kk n a0 a1 a2 a3 ⟨round n a0 a1 a2 a3 ⟨by have := e.h; (try dsimp only at this); rw [this, hL]⟩ j⟩)
 obtain ⟨c0, c1, c2, c3, e2, j2, w2⟩ := hn
 exact ⟨⟨(n, c0, c1, c2, c3), e2, j2⟩, Nat.lt_succ_self n, w2⟩
abbrev Q5 {R : Type} {A0 A1 A2 A3 A4 : Type} (L : Nat -> A0 -> A1 -> A2 -> A3 -> A4 -> R) (S : A0 -> A1 -> A2 -> A3 -> A4 -> St) (I : Nat -> A0 -> A1 -> A2 -> A3 -> A4 -> Prop) (t : R) (b : Nat) : NxI := ⟨fun τ => ∃ a0 a1 a2 a3 a4, Me t (L b a0 a1 a2 a3 a4) /\ (1 <= b /\ I b a0 a1 a2 a3 a4) /\ Wk τ (S a0 a1 a2 a3 a4)⟩
theorem nx5 {R : Type} {A0 A1 A2 A3 A4 : Type} {L : Nat -> A0 -> A1 -> A2 -> A3 -> A4 -> R} {S : A0 -> A1 -> A2 -> A3 -> A4 -> St} {I : Nat -> A0 -> A1 -> A2 -> A3 -> A4 -> Prop} {t : R} {b : Nat} {a0 : A0} {a1 : A1} {a2 : A2} {a3 : A3} {a4 : A4} (e : Me t (L b a0 a1 a2 a3 a4)) (hI : 1 <= b /\ I b a0 a1 a2 a3 a4 := by ((try dsimp only); first | omega | (simp at *; omega))) (hw : Wk σ (S a0 a1 a2 a3 a4) := by exact QA (by simp)) : @Nx σ (Q5 L S I t b) := ⟨a0, a1, a2, a3, a4, e, hI, hw⟩
theorem ny5 {R : Type} {A0 A1 A2 A3 A4 : Type} {L : Nat -> A0 -> A1 -> A2 -> A3 -> A4 -> R} {S : A0 -> A1 -> A2 -> A3 -> A4 -> St} {I : Nat -> A0 -> A1 -> A2 -> A3 -> A4 -> Prop} {t : R} {b : Nat} {a0 : A0} {a1 : A1} {a2 : A2} {a3 : A3} {a4 : A4} {q : Prop} (F : q) (e : Me t (L b a0 a1 a2 a3 a4)) (hI : 1 <= b /\ I b a0 a1 a2 a3 a4 := by ((try dsimp only); first | omega | (simp at *; omega))) (kw : q -> Wk σ (S a0 a1 a2 a3 a4) := by (intro F; exact QA (by simp [F]))) : @Nx σ (Q5 L S I t b) := ⟨a0, a1, a2, a3, a4, e, hI, kw F⟩
theorem lp5 {c : KS} {R : Type} {A0 A1 A2 A3 A4 : Type} {L B : Nat -> A0 -> A1 -> A2 -> A3 -> A4 -> R} (hL : ∀ (a0 : A0) (a1 : A1) (a2 : A2) (a3 : A3) (a4 : A4) (n : Nat), L (Nat.succ n) a0 a1 a2 a3 a4 = B n a0 a1 a2 a3 a4) (S : A0 -> A1 -> A2 -> A3 -> A4 -> St) (I : Nat -> A0 -> A1 -> A2 -> A3 -> A4 -> Prop) (n0 : Nat) (b0 : A0) (b1 : A1) (b2 : A2) (b3 : A3) (b4 : A4) {p : Nat -> A0 -> A1 -> A2 -> A3 -> A4 -> Prop}
  (round : ∀ n (a0 : A0) (a1 : A1) (a2 : A2) (a3 : A3) (a4 : A4), Me (L n0 b0 b1 b2 b3 b4) (B n a0 a1 a2 a3 a4) -> 1 <= n + 1 /\ I (n + 1) a0 a1 a2 a3 a4 -> p n a0 a1 a2 a3 a4) (hI : 1 <= n0 /\ I n0 b0 b1 b2 b3 b4 := by first | omega | (dsimp only; omega) | simp) (h0 : Wk σ (S b0 b1 b2 b3 b4) := by exact QA (by simp)) (kk : ∀ n (a0 : A0) (a1 : A1) (a2 : A2) (a3 : A3) (a4 : A4), Bx (p n a0 a1 a2 a3 a4) -> @WI P (S a0 a1 a2 a3 a4) c (.nxt (fun σ' => @Nx σ' (Q5 L S I (L n0 b0 b1 b2 b3 b4) n)) k) := by (intro n_ oD od nY mO lM z; simp; (repeat (with_reducible refine Go.Mo.sd ?_)); exact z.h)) : @Wi P σ c k := by
 refine xR (ι := { s : Nat × A0 × A1 × A2 × A3 × A4 // Me (L n0 b0 b1 b2 b3 b4) (L s.1 s.2.1 s.2.2.1 s.2.2.2.1 s.2.2.2.2.1 s.2.2.2.2.2) /\ (1 <= s.1 /\ I s.1 s.2.1 s.2.2.1 s.2.2.2.1 s.2.2.2.2.1 s.2.2.2.2.2) }) (fun s => S s.1.2.1 s.1.2.2.1 s.1.2.2.2.1 s.1.2.2.2.2.1 s.1.2.2.2.2.2) (fun s => s.1.1) ⟨(n0, b0, b1, b2, b3, b4), ⟨rfl⟩, hI⟩ h0 ?_
 rintro ⟨⟨n1, a0, a1, a2, a3, a4⟩, e, j⟩
 obtain ⟨n, rfl⟩ : ∃ q, n1 = q + 1 := ⟨n1 - 1, by have := j.1; (try dsimp only at this); omega⟩
 refine W7 (fun σ' hn => ?_) (kk n a0 a1 a2 a3 a4 ⟨round n a0 a1 a2 a3 a4 ⟨by have := e.h; (try dsimp only at this); rw [this, hL]⟩ j⟩)
 obtain ⟨c0, c1, c2, c3, c4, e2, j2, w2⟩ := hn
 exact ⟨⟨(n, c0, c1, c2, c3, c4), e2, j2⟩, Nat.lt_succ_self n, w2⟩
abbrev Q6 {R : Type} {A0 A1 A2 A3 A4 A5 : Type} (L : Nat -> A0 -> A1 -> A2 -> A3 -> A4 -> A5 -> R) (S : A0 -> A1 -> A2 -> A3 -> A4 -> A5 -> St) (I : Nat -> A0 -> A1 -> A2 -> A3 -> A4 -> A5 -> Prop) (t : R) (b : Nat) : NxI := ⟨fun τ => ∃ a0 a1 a2 a3 a4 a5, Me t (L b a0 a1 a2 a3 a4 a5) /\ (1 <= b /\ I b a0 a1 a2 a3 a4 a5) /\ Wk τ (S a0 a1 a2 a3 a4 a5)⟩
theorem nx6 {R : Type} {A0 A1 A2 A3 A4 A5 : Type} {L : Nat -> A0 -> A1 -> A2 -> A3 -> A4 -> A5 -> R} {S : A0 -> A1 -> A2 -> A3 -> A4 -> A5 -> St} {I : Nat -> A0 -> A1 -> A2 -> A3 -> A4 -> A5 -> Prop} {t : R} {b : Nat} {a0 : A0} {a1 : A1} {a2 : A2} {a3 : A3} {a4 : A4} {a5 : A5} (e : Me t (L b a0 a1 a2 a3 a4 a5)) (hI : 1 <= b /\ I b a0 a1 a2 a3 a4 a5 := by ((try dsimp only); first | omega | (simp at *; omega))) (hw : Wk σ (S a0 a1 a2 a3 a4 a5) := by exact QA (by simp)) : @Nx σ (Q6 L S I t b) := ⟨a0, a1, a2, a3, a4, a5, e, hI, hw⟩
theorem lp6 {c : KS} {R : Type} {A0 A1 A2 A3 A4 A5 : Type} {L B : Nat -> A0 -> A1 -> A2 -> A3 -> A4 -> A5 -> R} (hL : ∀ (a0 : A0) (a1 : A1) (a2 : A2) (a3 : A3) (a4 : A4) (a5 : A5) (n : Nat), L (Nat.succ n) a0 a1 a2 a3 a4 a5 = B n a0 a1 a2 a3 a4 a5) (S : A0 -> A1 -> A2 -> A3 -> A4 -> A5 -> St) (I : Nat -> A0 -> A1 -> A2 -> A3 -> A4 -> A5 -> Prop) (n0 : Nat) (b0 : A0) (b1 : A1) (b2 : A2) (b3 : A3) (b4 : A4) (b5 : A5) {p : Nat -> A0 -> A1 -> A2 -> A3 -> A4 -> A5 -> Prop}
  (round : ∀ n (a0 : A0) (a1 : A1) (a2 : A2) (a3 : A3) (a4 : A4) (a5 : A5), Me (L n0 b0 b1 b2 b3 b4 b5) (B n a0 a1 a2 a3 a4 a5) -> 1 <= n + 1 /\ I (n + 1) a0 a1 a2 a3 a4 a5 -> p n a0 a1 a2 a3 a4 a5) (hI : 1 <= n0 /\ I n0 b0 b1 b2 b3 b4 b5 := by first | omega | (dsimp only; omega) | simp) (h0 : Wk σ (S b0 b1 b2 b3 b4 b5) := by exact QA (by simp)) (kk : ∀ n (a0 : A0) (a1 : A1) (a2 : A2) (a3 : A3) (a4 : A4) (a5 : A5), Bx (p n a0 a1 a2 a3 a4 a5) -> @WI P (S a0 a1 a2 a3 a4 a5) c (.nxt (fun σ' => @Nx σ' (Q6 L S I (L n0 b0 b1 b2 b3 b4 b5) n)) k) := by (intro n_ oD od nY mO lM iQ z; simp; (repeat (with_reducible refine Go.Mo.sd ?_)); exact z.h)) : @Wi P σ c k := by
 refine xR (ι := { s : Nat × A0 × A1 × A2 × A3 × A4 × A5 // Me (L n0 b0 b1 b2 b3 b4 b5) (L s.1 s.2.1 s.2.2.1 s.2.2.2.1 s.2.2.2.2.1 s.2.2.2.2.2.1 s.2.2.2.2.2.2) /\ (1 <= s.1 /\ I s.1 s.2.1 s.2.2.1 s.2.2.2.1 s.2.2.2.2.1 s.2.2.2.2.2.1 s.2.2.2.2.2.2) }) (fun s => S s.1.2.1 s.1.2.2.1 s.1.2.2.2.1 s.1.2.2.2.2.1 s.1.2.2.2.2.2.1 s.1.2.2.2.2.2.2) (fun s => s.1.1) ⟨(n0, b0, b1, b2, b3, b4, b5), ⟨rfl⟩, hI⟩ h0 ?_
 rintro ⟨⟨n1, a0, a1, a2, a3, a4, a5⟩, e, j⟩
 obtain ⟨n, rfl⟩ : ∃ q, n1 = q + 1 := ⟨n1 - 1, by have := j.1; (try dsimp only at this); omega⟩
 refine W7 (fun σ' hn => ?_) (kk n a0 a1 a2 a3 a4 a5 ⟨round n a0 a1 a2 a3 a4 a5 ⟨by have := e.h; (try dsimp only at this); rw [this, hL]⟩ j⟩)
 obtain ⟨c0, c1, c2, c3, c4, c5, e2, j2, w2⟩ := hn
 exact ⟨⟨(n, c0, c1, c2, c3, c4, c5), e2, j2⟩, Nat.lt_succ_self n, w2⟩
abbrev Q7 {R : Type} {A0 A1 A2 A3 A4 A5 A6 : Type} (L : Nat -> A0 -> A1 -> A2 -> A3 -> A4 -> A5 -> A6 -> R) (S : A0 -> A1 -> A2 -> A3 -> A4 -> A5 -> A6 -> St) (I : Nat -> A0 -> A1 -> A2 -> A3 -> A4 -> A5 -> A6 -> Prop) (t : R) (b : Nat) : NxI := ⟨fun τ => ∃ a0 a1 a2 a3 a4 a5 a6, Me t (L b a0 a1 a2 a3 a4 a5 a6) /\ (1 <= b /\ I b a0 a1 a2 a3 a4 a5 a6) /\ Wk τ (S a0 a1 a2 a3 a4 a5 a6)⟩
theorem nx7 {R : Type} {A0 A1 A2 A3 A4 A5 A6 : Type} {L : Nat -> A0 -> A1 -> A2 -> A3 -> A4 -> A5 -> A6 -> R} {S : A0 -> A1 -> A2 -> A3 -> A4 -> A5 -> A6 -> St} {I : Nat -> A0 -> A1 -> A2 -> A3 -> A4 -> A5 -> A6 -> Prop} {t : R} {b : Nat} {a0 : A0} {a1 : A1} {a2 : A2} {a3 : A3} {a4 : A4} {a5 : A5} {a6 : A6} (e : Me t (L b a0 a1 a2 a3 a4 a5 a6)) (hI : 1 <= b /\ I b a0 a1 a2 a3 a4 a5 a6 := by ((try dsimp only); first | omega | (simp at *; omega))) (hw : Wk σ (S a0 a1 a2 a3 a4 a5 a6) := by exact QA (by simp)) : @Nx σ (Q7 L S I t b) := ⟨a0, a1, a2, a3, a4, a5, a6, e, hI, hw⟩
theorem lp7 {c : KS} {R : Type} {A0 A1 A2 A3 A4 A5 A6 : Type} {L B : Nat -> A0 -> A1 -> A2 -> A3 -> A4 -> A5 -> A6 -> R} (hL : ∀ (a0 : A0) (a1 : A1) (a2 : A2) (a3 : A3) (a4 : A4) (a5 : A5) (a6 : A6) (n : Nat), L (Nat.succ n) a0 a1 a2 a3 a4 a5 a6 = B n a0 a1 a2 a3 a4 a5 a6) (S : A0 -> A1 -> A2 -> A3 -> A4 -> A5 -> A6 -> St) (I : Nat -> A0 -> A1 -> A2 -> A3 -> A4 -> A5 -> A6 -> Prop) (n0 : Nat) (b0 : A0) (b1 : A1) (b2 : A2) (b3 : A3) (b4 : A4) (b5 : A5) (b6 : A6) {p : Nat -> A0 -> A1 -> A2 -> A3 -> A4 -> A5 -> A6 -> Prop}
  (round : ∀ n (a0 : A0) (a1 : A1) (a2 : A2) (a3 : A3) (a4 : A4) (a5 : A5) (a6 : A6), Me (L n0 b0 b1 b2 b3 b4 b5 b6) (B n a0 a1 a2 a3 a4 a5 a6) -> 1 <= n + 1 /\ I (n + 1) a0 a1 a2 a3 a4 a5 a6 -> p n a0 a1 a2 a3 a4 a5 a6) (hI : 1 <= n0 /\ I n0 b0 b1 b2 b3 b4 b5 b6 := by first | omega | (dsimp only; omega) | simp) (h0 : Wk σ (S b0 b1 b2 b3 b4 b5 b6) := by exact QA (by simp)) (kk : ∀ n (a0 : A0) (a1 : A1) (a2 : A2) (a3 : A3) (a4 : A4) (a5 : A5) (a6 : A6), Bx (p n a0 a1 a2 a3 a4 a5 a6) -> @WI P (S a0 a1 a2 a3 a4 a5 a6) c (.nxt (fun σ' => @Nx σ' (Q7 L S I (L n0 b0 b1 b2 b3 b4 b5 b6) n)) k) := by (intro n_ oD od nY mO lM iQ gb z; simp; (repeat (with_reducible refine Go.Mo.sd ?_)); exact z.h)) : @Wi P σ c k := by
 refine xR (ι := { s : Nat × A0 × A1 × A2 × A3 × A4 × A5 × A6 // Me (L n0 b0 b1 b2 b3 b4 b5 b6) (L s.1 s.2.1 s.2.2.1 s.2.2.2.1 s.2.2.2.2.1 s.2.2.2.2.2.1 s.2.2.2.2.2.2.1 s.2.2.2.2.2.2.2) /\ (1 <= s.1 /\ I s.1 s.2.1 s.2.2.1 s.2.2.2.1 s.2.2.2.2.1 s.2.2.2.2.2.1 s.2.2.2.2.2.2.1 s.2.2.2.2.2.2.2) }) (fun s => S s.1.2.1 s.1.2.2.1 s.1.2.2.2.1 s.1.2.2.2.2.1 s.1.2.2.2.2.2.1 s.1.2.2.2.2.2.2.1 s.1.2.2.2.2.2.2.2) (fun s => s.1.1) ⟨(n0, b0, b1, b2, b3, b4, b5, b6), ⟨rfl⟩, hI⟩ h0 ?_
 rintro ⟨⟨n1, a0, a1, a2, a3, a4, a5, a6⟩, e, j⟩
 obtain ⟨n, rfl⟩ : ∃ q, n1 = q + 1 := ⟨n1 - 1, by have := j.1; (try dsimp only at this); omega⟩
 refine W7 (fun σ' hn => ?_) (kk n a0 a1 a2 a3 a4 a5 a6 ⟨round n a0 a1 a2 a3 a4 a5 a6 ⟨by have := e.h; (try dsimp only at this); rw [this, hL]⟩ j⟩)
 obtain ⟨c0, c1, c2, c3, c4, c5, c6, e2, j2, w2⟩ := hn
 exact ⟨⟨(n, c0, c1, c2, c3, c4, c5, c6), e2, j2⟩, Nat.lt_succ_self n, w2⟩
abbrev Q9 {R : Type} {A0 A1 A2 A3 A4 A5 A6 A7 A8 : Type} (L : Nat -> A0 -> A1 -> A2 -> A3 -> A4 -> A5 -> A6 -> A7 -> A8 -> R) (S : A0 -> A1 -> A2 -> A3 -> A4 -> A5 -> A6 -> A7 -> A8 -> St) (I : Nat -> A0 -> A1 -> A2 -> A3 -> A4 -> A5 -> A6 -> A7 -> A8 -> Prop) (t : R) (b : Nat) : NxI := ⟨fun τ => ∃ a0 a1 a2 a3 a4 a5 a6 a7 a8, Me t (L b a0 a1 a2 a3 a4 a5 a6 a7 a8) /\ (1 <= b /\ I b a0 a1 a2 a3 a4 a5 a6 a7 a8) /\ Wk τ (S a0 a1 a2 a3 a4 a5 a6 a7 a8)⟩
theorem ny9 {R : Type} {A0 A1 A2 A3 A4 A5 A6 A7 A8 : Type} {L : Nat -> A0 -> A1 -> A2 -> A3 -> A4 -> A5 -> A6 -> A7 -> A8 -> R} {S : A0 -> A1 -> A2 -> A3 -> A4 -> A5 -> A6 -> A7 -> A8 -> St} {I : Nat -> A0 -> A1 -> A2 -> A3 -> A4 -> A5 -> A6 -> A7 -> A8 -> Prop} {t : R} {b : Nat} {a0 : A0} {a1 : A1} {a2 : A2} {a3 : A3} {a4 : A4} {a5 : A5} {a6 : A6} {a7 : A7} {a8 : A8} {q : Prop} (F : q) (e : Me t (L b a0 a1 a2 a3 a4 a5 a6 a7 a8)) (hI : 1 <= b /\ I b a0 a1 a2 a3 a4 a5 a6 a7 a8 := by ((try dsimp only); first | omega | (simp at *; omega))) (kw : q -> Wk σ (S a0 a1 a2 a3 a4 a5 a6 a7 a8) := by (intro F; exact QA (by simp [F]))) : @Nx σ (Q9 L S I t b) := ⟨a0, a1, a2, a3, a4, a5, a6, a7, a8, e, hI, kw F⟩
theorem lp9 {c : KS} {R : Type} {A0 A1 A2 A3 A4 A5 A6 A7 A8 : Type} {L B : Nat -> A0 -> A1 -> A2 -> A3 -> A4 -> A5 -> A6 -> A7 -> A8 -> R} (hL : ∀ (a0 : A0) (a1 : A1) (a2 : A2) (a3 : A3) (a4 : A4) (a5 : A5) (a6 : A6) (a7 : A7) (a8 : A8) (n : Nat), L (Nat.succ n) a0 a1 a2 a3 a4 a5 a6 a7 a8 = B n a0 a1 a2 a3 a4 a5 a6 a7 a8) (S : A0 -> A1 -> A2 -> A3 -> A4 -> A5 -> A6 -> A7 -> A8 -> St) (I : Nat -> A0 -> A1 -> A2 -> A3 -> A4 -> A5 -> A6 -> A7 -> A8 -> Prop) (n0 : Nat) (b0 : A0) (b1 : A1) (b2 : A2) (b3 : A3) (b4 : A4) (b5 : A5) (b6 : A6) (b7 : A7) (b8 : A8) {p : Nat -> A0 -> A1 -> A2 -> A3 -> A4 -> A5 -> A6 -> A7 -> A8 -> Prop}
  (round : ∀ n (a0 : A0) (a1 : A1) (a2 : A2) (a3 : A3) (a4 : A4) (a5 : A5) (a6 : A6) (a7 : A7) (a8 : A8), Me (L n0 b0 b1 b2 b3 b4 b5 b6 b7 b8) (B n a0 a1 a2 a3 a4 a5 a6 a7 a8) -> 1 <= n + 1 /\ I (n + 1) a0 a1 a2 a3 a4 a5 a6 a7 a8 -> p n a0 a1 a2 a3 a4 a5 a6 a7 a8) (hI : 1 <= n0 /\ I n0 b0 b1 b2 b3 b4 b5 b6 b7 b8 := by first | omega | (dsimp only; omega) | simp) (h0 : Wk σ (S b0 b1 b2 b3 b4 b5 b6 b7 b8) := by exact QA (by simp)) (kk : ∀ n (a0 : A0) (a1 : A1) (a2 : A2) (a3 : A3) (a4 : A4) (a5 : A5) (a6 : A6) (a7 : A7) (a8 : A8), Bx (p n a0 a1 a2 a3 a4 a5 a6 a7 a8) -> @WI P (S a0 a1 a2 a3 a4 a5 a6 a7 a8) c (.nxt (fun σ' => @Nx σ' (Q9 L S I (L n0 b0 b1 b2 b3 b4 b5 b6 b7 b8) n)) k) := by (intro n_ oD od nY mO lM iQ gb fQ fR z; simp; (repeat (with_reducible refine Go.Mo.sd ?_)); exact z.h)) : @Wi P σ c k := by
 refine xR (ι := { s : Nat × A0 × A1 × A2 × A3 × A4 × A5 × A6 × A7 × A8 // Me (L n0 b0 b1 b2 b3 b4 b5 b6 b7 b8) (L s.1 s.2.1 s.2.2.1 s.2.2.2.1 s.2.2.2.2.1 s.2.2.2.2.2.1 s.2.2.2.2.2.2.1 s.2.2.2.2.2.2.2.1 s.2.2.2.2.2.2.2.2.1 s.2.2.2.2.2.2.2.2.2) /\ (1 <= s.1 /\ I s.1 s.2.1 s.2.2.1 s.2.2.2.1 s.2.2.2.2.1 s.2.2.2.2.2.1 s.2.2.2.2.2.2.1 s.2.2.2.2.2.2.2.1 s.2.2.2.2.2.2.2.2.1 s.2.2.2.2.2.2.2.2.2) }) (fun s => S s.1.2.1 s.1.2.2.1 s.1.2.2.2.1 s.1.2.2.2.2.1 s.1.2.2.2.2.2.1 s.1.2.2.2.2.2.2.1 s.1.2.2.2.2.2.2.2.1 s.1.2.2.2.2.2.2.2.2.1 s.1.2.2.2.2.2.2.2.2.2) (fun s => s.1.1) ⟨(n0, b0, b1, b2, b3, b4, b5, b6, b7, b8), ⟨rfl⟩, hI⟩ h0 ?_
 rintro ⟨⟨n1, a0, a1, a2, a3, a4, a5, a6, a7, a8⟩, e, j⟩
 obtain ⟨n, rfl⟩ : ∃ q, n1 = q + 1 := ⟨n1 - 1, by have := j.1; (try dsimp only at this); omega⟩
 refine W7 (fun σ' hn => ?_) (kk n a0 a1 a2 a3 a4 a5 a6 a7 a8 ⟨round n a0 a1 a2 a3 a4 a5 a6 a7 a8 ⟨by have := e.h; (try dsimp only at this); rw [this, hL]⟩ j⟩)
 obtain ⟨c0, c1, c2, c3, c4, c5, c6, c7, c8, e2, j2, w2⟩ := hn
 exact ⟨⟨(n, c0, c1, c2, c3, c4, c5, c6, c7, c8), e2, j2⟩, Nat.lt_succ_self n, w2⟩
end
section
variable {P : Program} {σ : St} {k : Fr}
theorem Vq {A : Qh} {o : OpI} {l : JT} {d : Nat} {T : TypeId} {n : Nat} {parts : Array (Nat × Operand)} (h : @EI P (σ.new d (.one (.sref d 0 0 (Qf P σ (ZD P T) (P.cellsOf (ZD P T)) parts.toList 0).2.length)) [.lit (P.cellsOf (ZD P T)) (Qf P σ (ZD P T) (P.cellsOf (ZD P T)) parts.toList 0).2]) A l k) (wA : o.o.op = .buildSlice T n parts := by exact rfl) (hg : o.o.guard = none := by exact rfl) (hd : o.o.dst = some d := by exact rfl)
  (h1 : σ.fresh d = true /\ Ya P T = true /\ XH P (ZD P T) = true /\ 0 < P.cellsOf (ZD P T) /\ parts.toList.length = n /\ n * P.cellsOf (ZD P T) <= 16777216 := by simp) (h2 : (Qf P σ (ZD P T) (P.cellsOf (ZD P T)) parts.toList 0).1 := by simp)
  (h3 : Zw d (Qf P σ (ZD P T) (P.cellsOf (ZD P T)) parts.toList 0).2.flatten = false := by simp)
  : @SI P σ A o l k := Dj wA hg hd h1 h2 h3 h
theorem UB {A : Qh} {o : OpI} {l : JT} {d : Nat} {x y : Operand} {t : TypeId} {wI news : List (List D)} {l1 l2 : List (Nat × Nat)} {size : Nat} (h : @EI P ((σ.Zq (l1 ++ l2)).new d (.one (.sref d 0 0 (wI.length + news.length))) [.arr true size (wI ++ news)]) A l k) (wA : o.o.op = .call ⟨.builtin .append, #[x, y], #[t, t]⟩ := by exact rfl) (hg : o.o.guard = none := by exact rfl) (hd : o.o.dst = some d := by exact rfl) (w7 : A.bar o.o = true := by exact rfl)
  (vK : size = P.cellsOf (ZD P t) := by simp) (h1 : gOf (look P σ t x) = true /\ gOf (look P σ t y) = true /\ Ya P t = true /\ XH P (ZD P t) = true /\ 0 < P.cellsOf (ZD P t) := by simp)
  (h2 : (qf σ (unc (look P σ t x)) size).1 /\ (qf σ (unc (look P σ t x)) size).2 = (wI, l1) := by simp) (h3 : (qN σ (unc (look P σ t y)) size).1 /\ (qN σ (unc (look P σ t y)) size).2 = (news, l2) := by simp)
  (h4 : (l1 ++ l2).Nodup /\ (σ.Zq (l1 ++ l2)).fresh d = true := by simp) (h5 : (wI.length + news.length) * P.bytesOf (ZD P t) <= 140737488355328 /\ wI.length + news.length <= 9223372036854775807 := by (simp <;> omega))
  : @SI P σ A o l k := DP wA hg hd w7 vK h1 h2 h3 h4 h5 h
end
theorem wkS {σ σ' : St} (ρ : Ren) (F : List (Nat × Nat)) (wb : qw σ' ρ ρ = true := by exact rfl) (h : Vj σ ρ F σ σ' 0 := by simp) : Wk σ σ' := Y5 ρ F wb h
theorem drJ {P : Program} {id : Nat} {σ : St} {l : List Oper} {br : Oper -> Bool} {k : Fr} (bs : List Nat) (hm : P.follows .mixedOrders = true) (h : @EI P σ ⟨⟨l⟩, TI bs⟩ ⟨l⟩ k) (hdr : Vm.Sx P ⟨l⟩ (fun i => i) (TI bs) = true := by kernel_rfl) (wk : KX ⟨l⟩ (fun i => i) σ = true := by kernel_rfl) : @DI P id σ ⟨⟨l⟩, br⟩ k := E7 bs hm hdr wk h
theorem bsD {P : Program} {σ : St} {k : Fr} {A : Qh} {o : OpI} {l : JT} {d : Nat} {T : TypeId} {n : Nat} {parts : Array (Nat × Operand)} (h : @EI P (σ.put d (.one (.d (.sl (P.cellsOf (ZD P T)) (zQ P σ (ZD P T) (P.cellsOf (ZD P T)) parts.toList 0).2)))) A l k) (wA : o.o.op = .buildSlice T n parts := by exact rfl) (hg : o.o.guard = none := by exact rfl) (hd : o.o.dst = some d := by exact rfl)
  (h1 : Ya P T = true /\ XH P (ZD P T) = true /\ 0 < P.cellsOf (ZD P T) /\ parts.toList.length = n /\ n * P.cellsOf (ZD P T) <= 16777216 := by simp) (h2 : (zQ P σ (ZD P T) (P.cellsOf (ZD P T)) parts.toList 0).1 := by simp) : @SI P σ A o l k := Dq wA hg hd h1 h2 h
theorem rpS {g p : Prop} (h : p) (kk : Bx p -> g := by (intro z; (repeat (with_reducible refine Go.Mo.sd ?_)); exact z.h)) : g := kk ⟨h⟩
theorem rpG {g p : Prop} (h : p) (kk : Bx p -> g := by (intro z; (repeat (with_reducible refine Go.Mo.sdg ?_)); exact z.h)) : g := kk ⟨h⟩
theorem xs {p q : Prop} (u : q) (h : q -> p := by (intro u; simp (maxDischargeDepth := 12) [u])) : p := h u
@[simp] abbrev rI (x : Int) : List D := [.int .i64 x]
@[simp] abbrev rB (b : Bool) : List D := [.bool b]
@[simp] abbrev rS (s : ByteArray) : List D := [.str s]
@[simp] abbrev rL {α : Type} (n : Nat) (f : α -> List D) (l : List α) : List D := [.sl n (l.map f)]
end Go.Vm
