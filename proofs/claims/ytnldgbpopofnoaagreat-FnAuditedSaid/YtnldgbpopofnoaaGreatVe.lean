/- An abstract machine OB the model of Go, by value, and that it is sound: part Ve. No condition. -/
import Derived.Test.YtnldgbpopofnoaaGreatVd
set_option linter.unusedVariables false
set_option linter.unusedSimpArgs false
namespace Go.Vm
open Go.RowKit
section
variable {P : Program} {σ : St} {k : Fr}
end
end Go.Vm
namespace Go.Vm
open Go.RowKit
def Ec (σ : St) : V -> Option Nat
 | .one (.d (.sl _ rows)) => some rows.length
 | .one (.sref t j _ len) => (match σ.ob t j with | .arr _ _ _ => some len | _ => none)
 | .fix _ (.one (.sref t j _ len)) => (match σ.ob t j with | .arr _ _ _ => some len | _ => none)
 | _ => none
def qi (σ : St) : Prop := ∀ t n, Ec σ (σ.get t) = some n -> n <= 9223372036854775807
theorem DR {T : CS} {h : Nat -> Nat -> Hd} {σ : St} {w : World} : ∀ {v : V} {val : Value} {n : Nat}, Ec σ v = some n -> Xs T h σ.ob w v val -> n <= maxLen
 | .one (.d (.sl s rows)), val, n, hn, hv => by
  simp only [Ec] at hn
  cases hn
  obtain ⟨base, cap, _, h1, h2⟩ := Gf (r := (show Rd T w val (.sl s rows) from hv))
  omega
 | .one (.sref u j lo len), val, n, hn, hv => by
  simp only [Ec] at hn
  split at hn
  ·rename_i q s rows ho
   cases hn
   have hh := (show Z7 T h σ.ob w (.sref u j lo len) val from hv).2.1 _ _ _ ho
   obtain ⟨_, _, _, base, cap, _, h1, h2, _⟩ := hh
   omega
  ·cases hn
 | .fix u0 (.one (.sref u j lo len)), val, n, hn, hv => by
  simp only [Ec] at hn
  split at hn
  ·rename_i q s rows ho
   cases hn
   have hh := (show Z7 T h σ.ob w (.sref u j lo len) val from hv.2).2.1 _ _ _ ho
   obtain ⟨_, _, _, base, cap, _, h1, h2, _⟩ := hh
   omega
  ·cases hn
theorem H9 {T0 : CS} {B : Nat -> Prop} {σ : St} {a : Act} {w : World} (r : QX T0 B σ a w) : qi σ := by
 obtain ⟨X, h, r⟩ := r
 intro t n hn
 exact DR hn (r.get t)
theorem Ih {P : Program} {c : Code} {Q : Exit -> St -> Prop} {σ : St} (h : qi σ -> AWP P c Q σ) : AWP P c Q σ := fun T0 B a w r => h (H9 r) T0 B a w r
section
variable {P : Program} {σ : St} {k : Fr}
theorem C3 {b : Bool} {x y : K0} (ht : qi σ -> b = true -> @WI P σ x k) (hf : qi σ -> b = false -> @WI P σ y k) : @CI P b σ x y k :=
 ⟨fun h => Ih fun hk => jU (ht hk h), fun h => Ih fun hk => jU (hf hk h)⟩
theorem Su {b c : Bool} {x y : K0} (hc : c = b) (ht : qi σ -> c = true -> @WI P σ x k) (hf : qi σ -> c = false -> @WI P σ y k) : @CI P b σ x y k := by
 subst hc; exact C3 ht hf
theorem okL {c : K0} (h : qi σ -> @U1 P σ c k) : @U1 P σ c k := Ih h
theorem okD {id : Nat} {A : Qy} (h : qi σ -> @DI P id σ A k) : @DI P id σ A k := Ih h
def Rx : Op -> Bool
 | .call _ => true
 | _ => false
theorem NU {A : Qy} {o : OpI} {l : JW} {j dj d : Nat} {want g : Bool} (wA : Rx o.o.op = false) (hg : o.o.guard = some (j, want)) (hd : o.o.dst = some d)
  (vo : (A.ops[j]?).bind (·.dst) = some dj) (vx : z6 want (σ.get dj) = some g) (wO : dj < σ.length)
  (ht : g = true -> ((evV P σ o.o.op o.o.type).1 /\ gOf (evV P σ o.o.op o.o.type).2 = true /\ (unc (evV P σ o.o.op o.o.type).2).flat = true) /\ @EI P (σ.put d (.cnd true (unc (evV P σ o.o.op o.o.type).2))) A l k)
  (hf : g = false -> @EI P (σ.put d (.cnd false .any)) A l k) : @SI P σ A o l k := by
 have step : ∀ v, (g = true -> (evV P σ o.o.op o.o.type).1 /\ gOf (evV P σ o.o.op o.o.type).2 = true /\ v = unc (evV P σ o.o.op o.o.type).2 /\ v.flat = true) -> Y1 P A.ops o.o σ (σ.put d (.cnd g v)) := by
  intro v hv
  unfold Y1
  simp only [hg]
  refine ⟨dj, d, g, v, vo, wO, hd, vx, fun rW => ?_, rfl⟩
  obtain ⟨h1, h2, h3, h4⟩ := hv rW
  have base : ∃ v0, YH P σ o.o.op o.o.type v0 /\ gOf v0 = true /\ v = unc v0 /\ v.flat = true := ⟨_, Gj h1, h2, h3, h4⟩
  unfold Rl
  split
  ·rename_i c hc; rw [hc] at wA; cases wA
  ·exact base
 cases g with
 | true =>
  obtain ⟨⟨h1, h2, h3⟩, h4⟩ := ht rfl
  exact ⟨_, .inl (step _ fun _ => ⟨h1, h2, rfl, h3⟩), QW h4⟩
 | false => exact ⟨_, .inl (step .any (fun h => by cases h)), QW (hf rfl)⟩
end
theorem Dy {P : Program} {σ : St} {k : Fr} {A : Qy} {o : OpI} {l : JW} {j dj d : Nat} {want g : Bool} (hg : o.o.guard = some (j, want)) (hd : o.o.dst = some d)
  (vo : (A.ops[j]?).bind (·.dst) = some dj) (vx : z6 want (σ.get dj) = some g) (wO : dj < σ.length) (nv : g = false)
  (h : @EI P (σ.put d (.cnd false .any)) A l k) : @SI P σ A o l k := by
 subst nv
 refine ⟨_, .inl ?_, QW h⟩
 unfold Y1
 simp only [hg]
 exact ⟨dj, d, false, .any, vo, wO, hd, vx, (fun h => by cases h), rfl⟩
def Uk (P : Program) : List TypeId -> List At -> List At -> Option Bool
 | [], _, _ => some true
 | f :: fs, x :: xs, y :: ys => (match EJ P f x y, Uk P fs xs ys with | some p, some q => some (p && q) | _, _ => none)
 | _, _, _ => none
theorem PS (P : Program) : ∀ (fs : List Field) (xs ys : List At), yy P fs xs ys = Uk P (fs.map (·.type)) xs ys
 | [], _, _ => by simp [yy, Uk]
 | f :: fs, [], _ => by simp [yy, Uk]
 | f :: fs, x :: xs, [] => by simp [yy, Uk]
 | f :: fs, x :: xs, y :: ys => by simp only [yy, List.map_cons, Uk, PS P fs xs ys]; rfl
def xF (P : Program) (T : TypeId) : List TypeId := (P.fieldsOf T).toList.map (·.type)
@[simp] theorem DH (P : Program) (T : TypeId) (xs ys : List At) : yy P (P.fieldsOf T).toList xs ys = Uk P (xF P T) xs ys := PS P _ _ _
attribute [simp] Uk
def nth {α : Type} [Inhabited α] (l : List α) (i : Nat) : α := l.getD i default
theorem ZC {α : Type} [Inhabited α] {f : α -> List D} {l : List α} {i : Nat} (h : i < l.length) : rowAt (l.map f) i = f (nth l i) := by
 simp [rowAt, nth, h]
theorem Xv {α : Type} {f : α -> List D} {l : List α} {i : Nat} {x : α} {r : List D} (h : r = f x) : (l.map f).set i r = (l.set i x).map f := by
 rw [h, List.map_set]
abbrev W (x : Int) : Int := IntKind.i64.wrap x
theorem YW {x : Int} (h1 : -9223372036854775808 <= x) (h2 : x <= 9223372036854775807) : IntKind.i64.wrap x = x := by
 have hr : IntKind.i64.min <= x /\ x <= IntKind.i64.max := by
  constructor
  ·show -9223372036854775808 <= x; exact h1
  ·show x <= 9223372036854775807; exact h2
 simp only [IntKind.wrap]
 first
  | (simp [IntKind.bits, IntKind.signed]; omega)
  | omega
theorem Qs (i : Nat) : ((i : Int) - 1).toNat = i - 1 := by omega
attribute [simp] St.fresh J8 V.ref V.RB Yf Ws
end Go.Vm
namespace Go.Vm
open Go.RowKit
attribute [simp] St.CY L5 Gk At.BP C0
section
variable {P : Program} {σ : St} {k : Fr}
end
end Go.Vm
namespace Go.Vm
open Go.RowKit
def At.isP (t : Nat) : At -> Bool
 | .tref u _ _ _ _ => u == t
 | .ptr u _ _ _ => u == t
 | _ => false
section
variable {P : Program} {T0 : CS} {B : Nat -> Prop} {σ : St} {a : Act} {w w' : World} {X X' : Nat -> Prop} {h : Nat -> Nat -> Hd}
theorem Rel.CZ (r : Rel T0 B σ a w X h) {t : Nat} {size : Nat} {rows : List (List At)} {news : List (List D)} {L : List (Nat × Nat)} (ho : σ.ob t 0 = .lit size rows) (v9 : Qv σ rows = some news) (we : Ql σ rows)
  (hL : Ya rows.flatten = L) (vB : L.Nodup) (pw : (t, 0) ∉ L) (hp : (σ.Z0 L).J5 (At.isP t) = false) : QX T0 B ((σ.Z0 L).Zt t 0 (.arr true size news)) a w := by
 have wV : σ.ob t 0 ≠ .none := by rw [ho]; simp
 have h0 := r.obj t 0
 rw [ho] at h0
 obtain ⟨e, xs, uT, hz, wG⟩ := h0
 obtain ⟨fC, hC, fD⟩ := zG v9
 have wJ := Uw r wG fC (Ks we) (by rw [hL]; exact vB)
 rw [hL] at wJ
 have r1 := r.Z0 L
 have wj := r.zQ L
 have uU : ∀ b', (h t 0).u b' -> JL σ h L b' -> False := by
  rintro b' uD ⟨p, rT, wE, n9⟩
  obtain ⟨q1, q2⟩ := r.inj t 0 p.1 p.2 b' wV wE uD n9
  exact pw (by rw [q1, q2]; exact rT)
 have tx : (σ.Z0 L).ob t 0 = .lit size rows := by rw [St.JM, if_neg pw, ho]
 have uA : (σ.Z0 L).ob t 0 ≠ .none := by rw [tx]; simp
 have vT : ∀ u i, ¬ (u = t /\ i = 0) -> ((σ.Z0 L).Zt t 0 (.arr true size news)).ob u i = (σ.Z0 L).ob u i := by
  intro u i wE
  rw [St.XH _ t 0 _ u i uA, if_neg wE]
 have vM : ((σ.Z0 L).Zt t 0 (.arr true size news)).ob t 0 = .arr true size news := by rw [St.XH _ t 0 _ t 0 uA]; simp
 generalize hσ : (σ.Z0 L).Zt t 0 (.arr true size news) = σ2 at *
 generalize hσ1 : σ.Z0 L = σ1 at *
 have hlen : σ2.length = σ1.length := by rw [<- hσ, St.Y3]
 have vK : ∀ u, σ2.get u = σ1.get u := fun u => by rw [<- hσ, St.Xp]
 let wR : Hd := ⟨(h t 0).v, fun k => (xs[k]?).getD undef, fun b => (h t 0).u b \/ JL σ h L b⟩
 let h' : Nat -> Nat -> Hd := fun u i => if u = t /\ i = 0 then wR else h u i
 have uj : ∀ u i, ¬ (u = t /\ i = 0) -> h' u i = h u i := fun u i wE => if_neg wE
 have mC : h' t 0 = wR := by simp [h']
 have hv : ∀ u i, (h' u i).v = (h u i).v := by
  intro u i
  by_cases hc : u = t /\ i = 0
  ·obtain ⟨rfl, rfl⟩ := hc; rw [mC]
  ·rw [uj u i hc]
 have at_ : ∀ {x : At} {v : Value}, At.isP t x = false -> Z7 (Tof T0 X) h σ1.ob w x v -> Z7 (Tof T0 X) h' σ2.ob w x v := by
  intro x v pa rx
  cases x with
  | any => exact rx
  | d x => exact rx
  | nil s => exact rx
  | sref u i lo len =>
   refine ⟨rx.1, fun q s rws hq => ?_, fun s rws hq => ?_⟩
   ·by_cases hc : u = t /\ i = 0
    ·obtain ⟨rfl, rfl⟩ := hc
     rw [vM] at hq; cases hq
     rw [hv, <- hC]; exact rx.2.2 _ _ tx
    ·rw [vT u i hc] at hq; rw [hv]; exact rx.2.1 _ _ _ hq
   ·by_cases hc : u = t /\ i = 0
    ·obtain ⟨rfl, rfl⟩ := hc
     rw [vM] at hq; cases hq
    ·rw [vT u i hc] at hq; rw [hv]; exact rx.2.2 _ _ hq
  | ptr u i k c =>
   refine ⟨rx.1, fun q s rws hq => ?_⟩
   have hc : ¬ (u = t /\ i = 0) := fun hc => by simp [At.isP, hc.1] at pa
   rw [vT u i hc] at hq; rw [hv]; exact rx.2 _ _ _ hq
  | bptr u c =>
   refine ⟨rx.1, fun cells hq => ?_⟩
   by_cases hc : u = t
   ·subst hc; rw [vM] at hq; cases hq
   ·rw [vT u 0 (fun hh => hc hh.1)] at hq; rw [hv]; exact rx.2 _ hq
  | fn f u =>
   refine ⟨rx.1, fun cells hq => ?_⟩
   by_cases hc : u = t
   ·subst hc; rw [vM] at hq; cases hq
   ·rw [vT u 0 (fun hh => hc hh.1)] at hq; rw [hv]; exact rx.2 _ hq
  | tref u i k c o =>
   refine ⟨rx.1, fun s rws hq => ?_⟩
   have hc : ¬ (u = t /\ i = 0) := fun hc => by simp [At.isP, hc.1] at pa
   rw [vT u i hc] at hq; rw [uj u i hc]; exact rx.2 _ _ hq
  | rptr rr c => exact rx
 have vU : ∀ u i, σ2.ob u i ≠ .none -> σ1.ob u i ≠ .none := by
  intro u i hn
  by_cases hc : u = t /\ i = 0
  ·obtain ⟨rfl, rfl⟩ := hc; exact uA
  ·rw [vT u i hc] at hn; exact hn
 refine ⟨X, h', by rw [r1.size, hlen], r1.defers, r1.hB, r1.hX, r1.hT, fun u hu => ?_, fun u i => ?_, fun u i b hn hb => ?_, fun u i b hn hb => ?_, fun u i u' i' b hn wz hb wU => ?_⟩
 ·rw [hlen] at hu
  rw [vK]; exact Xs.map at_ (St.RA hp u) (r1.slot u hu)
 ·by_cases hc : u = t /\ i = 0
  ·obtain ⟨rfl, rfl⟩ := hc
   rw [vM, mC]
   refine ⟨e, xs, by rw [<- hC]; exact uT, fD size hz, wJ.mono (fun b hb => ⟨.inr hb, fun uS => uU b (r.ub u 0 b wV uS) hb⟩), fun k x d hx _ _ => by simp [wR, hx]⟩
  ·rw [vT u i hc, uj u i hc]
   exact QP.map at_ (fun b k v hb hc => ⟨hc, hb⟩) (fun ho b => r1.ub u i b ho) (fun _ _ _ => rfl) (St.OV hp u i) (r1.obj u i)
 ·by_cases hc : u = t /\ i = 0
  ·obtain ⟨rfl, rfl⟩ := hc
   rw [mC] at hb ⊢; exact .inl (r.ub u 0 b wV hb)
  ·rw [uj u i hc] at hb ⊢; exact r1.ub u i b (vU u i hn) hb
 ·by_cases hc : u = t /\ i = 0
  ·obtain ⟨rfl, rfl⟩ := hc
   rw [mC] at hb
   rcases hb with hb | hb
   ·exact r.own u 0 b wV hb
   ·have := wj b hb; exact ⟨this.1, this.2.1, this.2.2.1⟩
  ·rw [uj u i hc] at hb; exact r1.own u i b (vU u i hn) hb
 ·have key : ∀ u i b, ¬ (u = t /\ i = 0) -> σ1.ob u i ≠ .none -> (h u i).u b -> (h' t 0).u b -> False := by
   intro u i b hc hn hb wU
   rw [mC] at wU
   rcases wU with wU | wU
   ·exact hc (r1.inj u i t 0 b hn uA hb wU)
   ·exact (wj b wU).2.2.2 u i hn hb
  by_cases hc : u = t /\ i = 0
  ·by_cases wv : u' = t /\ i' = 0
   ·exact ⟨hc.1.trans wv.1.symm, hc.2.trans wv.2.symm⟩
   ·obtain ⟨rfl, rfl⟩ := hc
    rw [uj u' i' wv] at wU
    exact (key u' i' b wv (vU u' i' wz) wU hb).elim
  ·rw [uj u i hc] at hb
   by_cases wv : u' = t /\ i' = 0
   ·obtain ⟨rfl, rfl⟩ := wv
    exact (key u i b hc (vU u i hn) hb wU).elim
   ·rw [uj u' i' wv] at wU
    exact r1.inj u i u' i' b (vU u i hn) (vU u' i' wz) hb wU
end
section
variable {P : Program} {σ : St} {k : Fr}
theorem FK {A : Qy} {o : OpI} {l : JW} {d : Nat} {T : TypeId} {n : Nat} {parts : Array (Nat × Operand)} {news : List (List D)} {L : List (Nat × Nat)} (wA : o.o.op = .buildSlice T n parts) (hg : o.o.guard = none) (hd : o.o.dst = some d) (wy : A.bar o.o = true)
  (h1 : (σ.fresh d = true /\ d < σ.length) /\ XC P T = true /\ Xy P (ZP P T) = true /\ 0 < P.cellsOf (ZP P T) /\ parts.toList.length = n /\ n * P.cellsOf (ZP P T) <= 16777216) (h2 : (JV P σ (ZP P T) (P.cellsOf (ZP P T)) parts.toList 0).1)
  (h3 : YG d (JV P σ (ZP P T) (P.cellsOf (ZP P T)) parts.toList 0).2.flatten = false)
  (h4 : Qv (σ.new d (.one (.sref d 0 0 (JV P σ (ZP P T) (P.cellsOf (ZP P T)) parts.toList 0).2.length)) [.lit (P.cellsOf (ZP P T)) (JV P σ (ZP P T) (P.cellsOf (ZP P T)) parts.toList 0).2]) (JV P σ (ZP P T) (P.cellsOf (ZP P T)) parts.toList 0).2 = some news /\
   Ql (σ.new d (.one (.sref d 0 0 (JV P σ (ZP P T) (P.cellsOf (ZP P T)) parts.toList 0).2.length)) [.lit (P.cellsOf (ZP P T)) (JV P σ (ZP P T) (P.cellsOf (ZP P T)) parts.toList 0).2]) (JV P σ (ZP P T) (P.cellsOf (ZP P T)) parts.toList 0).2)
  (h5 : Ya (JV P σ (ZP P T) (P.cellsOf (ZP P T)) parts.toList 0).2.flatten = L /\ L.Nodup /\ (d, 0) ∉ L)
  (h6 : ((σ.new d (.one (.sref d 0 0 (JV P σ (ZP P T) (P.cellsOf (ZP P T)) parts.toList 0).2.length)) [.lit (P.cellsOf (ZP P T)) (JV P σ (ZP P T) (P.cellsOf (ZP P T)) parts.toList 0).2]).Z0 L).J5 (At.isP d) = false)
  (h : @EI P (((σ.new d (.one (.sref d 0 0 (JV P σ (ZP P T) (P.cellsOf (ZP P T)) parts.toList 0).2.length)) [.lit (P.cellsOf (ZP P T)) (JV P σ (ZP P T) (P.cellsOf (ZP P T)) parts.toList 0).2]).Z0 L).Zt d 0 (.arr true (P.cellsOf (ZP P T)) news)) A l k) : @SI P σ A o l k := by
 refine ⟨_, .inr ⟨wy, ?_, fun d' wR hc => X5 (QD (Wz (fun e => wR (by rw [hd, e])) hc)), fun hh => by simp [V4, wA] at hh, fun hh => by first | (simp [jg, wA] at hh; done) | (unfold jg at hh; rw [wA] at hh; split at hh <;> simp_all), fun hh _ => by first | (simp [KG, wA] at hh; done) | (unfold KG at hh; rw [wA] at hh; split at hh <;> simp_all)⟩, QW h⟩
 rintro T0 B a w K Q' ⟨X, hh, r⟩ hK
 have hw : Region.wanted o.o (yielded A.ops a.tmps) = true := by simp [Region.wanted, hg]
 rw [if_pos hw]
 refine Um r wA hd h1.1.1 h1.2.1 h1.2.2.1 h1.2.2.2.1 h1.2.2.2.2.1 h1.2.2.2.2.2 (Oe h2) h3 (fun a' w' hr ny => hK a' w' ?_ ny)
 obtain ⟨X', uj, r'⟩ := hr
 exact Rel.CZ r' (by rw [St.QE, if_pos ⟨rfl, h1.1.2⟩]; rfl) h4.1 h4.2 h5.1 h5.2.1 h5.2.2 h6
end
attribute [simp] At.isP
theorem YN.own {P : Program} {f : FuncId} {args res : List (List D)} (hs : YN P f args res) : Xm P f true args res := by
 refine ⟨hs.1, fun T w wx hT ha => (hs.2 T w wx hT ha).mono ?_⟩
 rintro e w' ⟨vs, wi, he, hb, hf, hl, ⟨hlen, Sk, h1, h2, h3⟩⟩
 refine ⟨vs, wi, fun b => (w.heap.size <= b /\ b < w'.heap.size) /\ ∀ (k : Nat) (c : Value) (d : D), wi.flatten[k]? = some c -> res.flatten[k]? = some d -> d.scalar = false -> blk c ≠ some b, he, hb, fun b hb => hb.1, hf, yE hl (fun k x d hx hd => ?_), fun _ => ⟨fun i c d b hc hd vf pY => ?_, fun i j c c' d d' b hc hd wv wR vf oT pY l3 => ?_⟩⟩
 ·simp only [zf, if_true]
  have ho := h1 k x d hx hd
  cases ho with
  | int k n => exact .int _ _
  | bool b => exact .bool _
  | str s => exact .str _
  | unk v h => exact .unk _ h
  | sl v size rows S e' xs pN ho hz wU fH hk pX wR =>
   refine ⟨e', xs, ho, hz, Z2.Ku fH (fun i y dd hy uC => (hk i y dd hy uC).rd (fun b k' hb => .inr ⟨h2 k b (pX i b hb).1, fun k2 c2 d2 sY sQ pZ nz => ?_⟩))⟩
   have tY := h1 k2 c2 d2 sY sQ
   have pI : Sk k2 b := by
    cases tY with
    | int k n => cases pZ
    | bool b => cases pZ
    | str s => cases pZ
    | unk => cases pZ
    | sl v2 pz p7 S2 e2 hG hH tY mz wm pb p8 wN mG => exact wm b nz
   have := h3 k k2 b (pX i b hb).1 pI
   subst this
   rw [hx] at sY; cases sY
   exact (pX i b hb).2 nz
 ·have tY := h1 i c d hc hd
  have pI : Sk i b := by
   cases tY with
   | int k n => cases vf
   | bool b => cases vf
   | str s => cases vf
   | unk => cases vf
   | sl v2 pz p7 S2 e2 hG hH tY mz wm pb p8 wN mG => exact wm b pY
  have := h2 i b pI
  exact ⟨this.1, this.2, fun hy => hy.2 i c d hc hd vf pY⟩
 ·have pI : ∀ (i : Nat) (c : Value) (d : D), wi.flatten[i]? = some c -> res.flatten[i]? = some d -> d.scalar = false -> blk c = some b -> Sk i b := by
   intro i c d hc hd vf pY
   have tY := h1 i c d hc hd
   cases tY with
   | int k n => cases vf
   | bool b => cases vf
   | str s => cases vf
   | unk => cases vf
   | sl v2 pz p7 S2 e2 hG hH tY mz wm pb p8 wN mG => exact wm b pY
  exact h3 i j b (pI i c d hc hd vf pY) (pI j c' d' wv wR oT l3)
end Go.Vm
namespace Go.Vm
open Go.RowKit
def LF (σ : St) (F : List (Nat × Nat)) : At -> At
 | .sref t j lo len => if inF F t j then (match σ.ob t j with | .arr _ s rows => .d (.sl s (cut rows lo len)) | _ => .any) else .sref t j lo len
 | .ptr t j i c => if inF F t j then .any else .ptr t j i c
 | .tref t j i c o => if inF F t j then .any else .tref t j i c o
 | x => x
def Cu (σ : St) (F : List (Nat × Nat)) : V -> V
 | .one x => .one (LF σ F x)
 | .agg xs => .agg (xs.map (LF σ F))
 | .fix u (.one x) => .fix u (.one (LF σ F x))
 | .fix u (.agg xs) => .fix u (.agg (xs.map (LF σ F)))
 | _ => .any
def Du (σ : St) (F : List (Nat × Nat)) (t j : Nat) (o : Ob) : Ob :=
 if inF F t j then .none else match o with | .box cs => .box (cs.map (LF σ F)) | .lit _ _ => .none | o => o
def Gq (σ : St) (F : List (Nat × Nat)) (t : Nat) : List Ob -> Nat -> List Ob
 | [], _ => []
 | o :: os, j => Du σ F t j o :: Gq σ F t os (j + 1)
def SG (σ : St) (F : List (Nat × Nat)) : List Ent -> Nat -> List Ent
 | [], _ => []
 | e :: es, t => (Cu σ F e.1, Gq σ F t e.2 0) :: SG σ F es (t + 1)
def St.frz (σ : St) (F : List (Nat × Nat)) : St := SG σ F σ 0
theorem Lr {F : List (Nat × Nat)} : ∀ {σ0 : St} {es : List Ent} {t d : Nat}, Yx es d = true -> Yx (SG σ0 F es t) d = true
 | σ0, [], t, d, h => by simp [Yx] at h
 | σ0, e :: es, t, 0, h => by
  rw [zV] at h ⊢
  rcases h with h | ⟨x, h⟩
  ·left; simp only [List.getElem?_cons_zero, Option.some.injEq] at h; subst h; rfl
  ·right; simp only [List.getElem?_cons_zero, Option.some.injEq] at h; subst h; exact ⟨x, rfl⟩
 | σ0, e :: es, t, d + 1, h => by
  have : Yx es d = true := by rw [zV] at h ⊢; simpa using h
  have := Lr (F := F) (σ0 := σ0) (es := es) (t := t + 1) this
  rw [zV] at this ⊢
  simpa [SG] using this
section
variable {P : Program} {σ : St} {k : Fr}
theorem C2 {A : Qy} {o : OpI} {l : JW} {σ' : St} (wy : A.bar o.o = true) (hw : Wk σ σ') (hc : ∀ d, Yx σ d = true -> Yx σ' d = true) (sL : V4 o.o = false) (lz : jg o.o = false) (tR : KG P o.o = false \/ Ou A.bar o.o = false) (h : @SI P σ' A o l k) : @SI P σ A o l k := by
 obtain ⟨σ'', hs, hr⟩ := h
 refine ⟨σ'', .inr ⟨wy, fun T0 B a w K Q vk hK => UK hs T0 B a w K Q (hw T0 B a w vk) hK, fun d hd wq => ?_, fun hh => (by rw [sL] at hh; cases hh), fun hh => (by rw [lz] at hh; cases hh), fun hh ho => (by rcases tR with tR | tR <;> (first | (rw [tR] at hh; cases hh) | (rw [tR] at ho; cases ho)))⟩, hr⟩
 have h1 := hc d wq
 rcases hs with hs | hs
 ·exact NN hs hd h1
 ·exact hs.2.2.1 d hd h1
theorem kW {A : Qy} {o : OpI} {l : JW} (F : List (Nat × Nat)) (wy : A.bar o.o = true) (hw : V6 σ [] F σ (σ.frz F) 0) (h : @SI P (σ.frz F) A o l k) (sL : V4 o.o = false := by exact rfl) (lz : jg o.o = false := by exact rfl) (tR : KG P o.o = false \/ Ou A.bar o.o = false := by first | exact .inl rfl | exact .inr rfl) : @SI P σ A o l k :=
 C2 wy (Y5 [] F rfl hw) (fun _ hd => Lr hd) sL lz tR h
end
attribute [simp] LF Cu Du Gq SG St.frz
end Go.Vm
namespace Go.Vm
end Go.Vm
namespace Go.Vm
theorem Cv (P : Program) {σ σ' : St} {qq : Bool} (q2 : Bool) {d u j n size : Nat} {rows : List (List D)} (rW : σ.get d = .one (.sref u j 0 n)) (ho : σ.ob u j = .arr qq size rows) (hle : n <= rows.length) (mj : q2 = true -> qq = true) (w8 : (σ.Zt u j .none).fresh d = true)
  (h : Wk ((σ.Zt u j .none).new d (.one (.sref d 0 0 (rows.take n).length)) [.arr q2 size (rows.take n)]) σ') : Wk σ σ' := by
 have e : (rows.take n).length = n := by rw [List.length_take]; omega
 rw [e] at h
 rintro T0 B a w ⟨X, hh, r⟩
 refine h T0 B a w ?_
 have hv : YH P σ (Oper.mk (some d) (.move (.tmp d)) 0 "" #[] none).op 0 (.one (.sref u j 0 n)) := by
  show V.one (.sref u j 0 n) = look P σ 0 (.tmp d)
  rw [<- rW]; rfl
 have key : ∀ (K : Act -> World -> Prop) (Q : Exit -> Act -> World -> Prop), (∀ a' w', QX T0 B ((σ.Zt u j .none).new d (.one (.sref d 0 0 n)) [.arr q2 size (rows.take n)]) a' w' -> Yw B w w' -> K a' w') -> (Oper.mk (some d) (.move (.tmp d)) 0 "" #[] none).wp P a w K Q := by
  intro K Q hK
  cases qq with
  | false =>
   cases q2 with
   | false => exact Fw r rfl hv ho hle w8 hK
   | true => cases mj rfl
  | true =>
   cases q2 with
   | false => exact Fa r rfl hv ho hle w8 hK
   | true => exact F4 r rfl hv ho hle w8 hK
 have k2 := key (fun a' w' => w' = w -> QX T0 B ((σ.Zt u j .none).new d (.one (.sref d 0 0 n)) [.arr q2 size (rows.take n)]) a' w') (fun _ _ _ => True) (fun a' w' hr _ _ => hr)
 unfold Oper.wp at k2
 simp only [execOp, Sem.run_pure, Oper.upon_value] at k2
 have k3 := k2 trivial
 have e2 : a.put (some d) (a.eval (.tmp d)) = a := by
  show { a with tmps := a.tmps.setIfInBounds d (a.tmps.getD d undef) } = a
  have : a.tmps.setIfInBounds d (a.tmps.getD d undef) = a.tmps := by
   apply Array.ext
   ·simp
   ·intro i h1 h2
    rw [Array.getElem_setIfInBounds]
    split
    ·rename_i hi; subst hi; simp [Array.getD, h2]
    ·rfl
  rw [this]
 rw [e2] at k3
 exact k3
end Go.Vm
namespace Go.Vm
open Go.RowKit
abbrev ptr (b : Nat) : Value := .pointer (some ⟨b, 0, none⟩)
abbrev LC (T : CS) (w : World) (wx : List Value) (args : List (List D)) : Prop := Z2 (fun v row => ∃ cs, KC v cs /\ Z2 (Rd T w) cs row) wx args
def zP (n : Nat) (pre : List (List D)) (v : Value) (cells : List At) (vu : List Ob) (post : List (List D)) : St :=
 T5 pre ++ (.fix v (.one (.bptr pre.length 0)), .box cells :: vu) :: (T5 post ++ List.replicate (n - (pre.length + 1 + post.length)) (V.any, []))
section
variable {P : Program} {T0 : CS} {B : Nat -> Prop} {σ : St} {a : Act} {w w' : World} {X X' : Nat -> Prop} {h : Nat -> Nat -> Hd}
theorem F7 (post : List (List D)) (m t : Nat) : ∃ x, (match (T5 post ++ List.replicate m ((V.any, []) : Ent))[t]? with | some e => e | none => (V.any, [])) = (x, []) /\ (x = .any \/ ∃ r, post[t]? = some r /\ x = vOf (r.map .d)) := by
 rcases Nat.lt_or_ge t post.length with h | h
 ·rw [List.getElem?_append_left (by rw [X3]; exact h), Uu, List.getElem?_eq_getElem h]
  exact ⟨_, rfl, .inr ⟨_, rfl, rfl⟩⟩
 ·rw [List.getElem?_append_right (by rw [X3]; exact h), List.getElem?_replicate]
  refine ⟨.any, ?_, .inl rfl⟩
  split
  ·rename_i e he
   split at he
   ·cases he; rfl
   ·cases he
  ·rfl
theorem EF (n : Nat) (pre : List (List D)) (v : Value) (cells : List At) (vu : List Ob) (post : List (List D)) (t : Nat) :
  (t = pre.length /\ (zP n pre v cells vu post)[t]? = some (.fix v (.one (.bptr pre.length 0)), .box cells :: vu)) \/
  (t ≠ pre.length /\ (∀ j, (zP n pre v cells vu post).ob t j = .none) /\ ((zP n pre v cells vu post).get t = .any \/ ∃ r, (zP n pre v cells vu post).get t = vOf (r.map .d) /\ ((t < pre.length /\ pre[t]? = some r) \/ (pre.length < t /\ post[t - pre.length - 1]? = some r)))) := by
 rcases Nat.lt_trichotomy t pre.length with h | h | h
 ·refine .inr ⟨by omega, ?_⟩
  have : (zP n pre v cells vu post)[t]? = some (vOf (pre[t].map .d), []) := by
   unfold zP
   rw [List.getElem?_append_left (by rw [X3]; exact h), Uu, List.getElem?_eq_getElem h]; rfl
  refine ⟨fun j => by unfold St.ob; rw [this]; simp [YO], .inr ⟨pre[t], by unfold St.get; rw [this], .inl ⟨h, List.getElem?_eq_getElem h⟩⟩⟩
 ·refine .inl ⟨h, ?_⟩
  unfold zP
  rw [List.getElem?_append_right (by rw [X3]; omega), X3, h, Nat.sub_self]; rfl
 ·refine .inr ⟨by omega, ?_⟩
  have e1 : (zP n pre v cells vu post)[t]? = (T5 post ++ List.replicate (n - (pre.length + 1 + post.length)) ((V.any, []) : Ent))[t - pre.length - 1]? := by
   unfold zP
   rw [List.getElem?_append_right (by rw [X3]; omega), X3, show t - pre.length = (t - pre.length - 1) + 1 by omega, List.getElem?_cons_succ]; rfl
  obtain ⟨x, hx, hr⟩ := F7 post (n - (pre.length + 1 + post.length)) (t - pre.length - 1)
  rw [<- e1] at hx
  constructor
  ·intro j
   unfold St.ob
   cases hq : (zP n pre v cells vu post)[t]? with
   | none => rfl
   | some e => rw [hq] at hx; simp only at hx; rw [hx]; simp [YO]
  ·have hg : (zP n pre v cells vu post).get t = x := by
    unfold St.get
    cases hq : (zP n pre v cells vu post)[t]? with
    | none => rw [hq] at hx; simp only at hx; injection hx
    | some e => rw [hq] at hx; simp only at hx; rw [hx]
   rcases hr with rfl | ⟨r, hr, rfl⟩
   ·exact .inl hg
   ·exact .inr ⟨r, hg, .inr ⟨h, hr⟩⟩
theorem Ls {T : CS} {S : Nat -> Prop} {n b : Nat} {pre post : List (List D)} {cells : List At} {vu : List Ob} {vj vy : List Value} (hd : Nat -> Hd)
  (hT : ∀ k i, T k i -> k < w.heap.size /\ k ≠ b /\ ¬ S k) (hS : ∀ k, S k -> k < w.heap.size /\ k ≠ b) (hb : b < w.heap.size) (h0 : hd 0 = Hd.of (ptr b))
  (uQ : ∀ (h : Nat -> Nat -> Hd) (ob : Nat -> Nat -> Ob), (∀ j, h pre.length j = hd j) -> (∀ j, ob pre.length j = YO (.box cells :: vu) j) -> QP (Tof T (fun _ => False)) h ob w (hd 0) (.box cells))
  (vT : ∀ (h : Nat -> Nat -> Hd) (ob : Nat -> Nat -> Ob) (j : Nat), QP (Tof T (fun _ => False)) h ob w (hd (j + 1)) (YO vu j))
  (vR : ∀ j k, YO vu j ≠ .none -> blk (hd (j + 1)).v = some k -> (hd (j + 1)).u k) (wJ : ∀ j k, YO vu j ≠ .none -> (hd (j + 1)).u k -> S k)
  (rl : ∀ i j k, YO vu i ≠ .none -> YO vu j ≠ .none -> (hd (i + 1)).u k -> (hd (j + 1)).u k -> i = j) (iv : LC T w vj pre) (iw : LC T w vy post) :
  QX T (fun k => k < w.heap.size /\ k ≠ b /\ ¬ S k) (zP n pre (ptr b) cells vu post) { tmps := (vj ++ ptr b :: vy).toArray ++ Array.replicate (n - (vj ++ ptr b :: vy).toArray.size) undef, defers := [] } w := by
 have mD := iv.length
 have pb := iw.length
 have uh := EF n pre (ptr b) cells vu post
 have vA : ∀ j, (zP n pre (ptr b) cells vu post).ob pre.length j = YO (.box cells :: vu) j := by
  intro j
  rcases uh pre.length with ⟨_, h⟩ | ⟨h, _⟩
  ·unfold St.ob; rw [h]
  ·exact absurd rfl h
 have rn : ∀ t j, (zP n pre (ptr b) cells vu post).ob t j ≠ .none -> t = pre.length := by
  intro t j hn
  rcases uh t with ⟨h, _⟩ | ⟨_, h, _⟩
  ·exact h
  ·exact absurd (h j) hn
 have rR : ∀ b k v, T b k -> w.cell? ⟨b, k, none⟩ = some v -> w.cell? ⟨b, k, none⟩ = some v /\ Tof T (fun _ => False) b k := fun b k v hb hc => ⟨hc, .inl hb⟩
 have oZ : ∀ k, (hd 0).u k ↔ k = b := fun k => by rw [h0]; simp [Hd.of, blk, eq_comm]
 have vL : ∀ j, YO (.box cells :: vu) j ≠ .none -> (j = 0 \/ ∃ i, j = i + 1 /\ YO vu i ≠ .none) := by
  intro j hn
  cases j with
  | zero => exact .inl rfl
  | succ j => exact .inr ⟨j, rfl, by rw [xo] at hn; exact hn⟩
 have l0 : ∀ j k, YO (.box cells :: vu) j ≠ .none -> (hd j).u k -> k = b \/ S k := by
  intro j k hn hu
  rcases vL j hn with rfl | ⟨i, rfl, hi⟩
  ·exact .inl ((oZ k).1 hu)
  ·exact .inr (wJ i k hi hu)
 have py : ∀ {wx : List Value} {args : List (List D)} {t : Nat} {r : List D}, LC T w wx args -> args[t]? = some r -> ∃ v, wx[t]? = some v /\ Xs (Tof T (fun _ => False)) (fun t j => if t = pre.length then hd j else Hd.of undef) (zP n pre (ptr b) cells vu post).ob w (vOf (r.map .d)) v := by
  intro wx args t r ha hr
  obtain ⟨v, hv, cs, hf, wG⟩ := ha.get' t r hr
  exact ⟨v, hv, (Oa hf (jD (wG.imp fun _ _ => Rd.mono rR))).up⟩
 refine ⟨fun _ => False, fun t j => if t = pre.length then hd j else Hd.of undef, ?_⟩
 refine ⟨?_, rfl, (fun k hk => hk.1), (fun b hb => hb.elim), (fun k i hk => hT k i hk), fun t ht => ?_, fun t j => ?_, fun t j k hn hk => ?_, fun t j k hn hk => ?_, fun t j t' j' k hn wz hk vp => ?_⟩
 ·simp [zP, X3, mD, pb]; omega
 ·rcases uh t with ⟨rfl, h⟩ | ⟨wE, _, h⟩
  ·have uv : ((vj ++ ptr b :: vy).toArray ++ Array.replicate (n - (vj ++ ptr b :: vy).toArray.size) undef).getD pre.length undef = ptr b := by
    rw [Array.getD_eq_getD_getElem?, Array.getElem?_append_left (by simp; omega)]
    simp [<- mD]
   rw [uv]
   unfold St.get; rw [h]
   exact ⟨rfl, rfl, fun wK _ => ⟨b, by simp [h0, Hd.of], rfl⟩⟩
  ·rcases h with h | ⟨r, h, hr⟩
   ·rw [h]; trivial
   ·rw [h]
    rcases hr with ⟨wO, hr⟩ | ⟨wO, hr⟩
    ·obtain ⟨v, hv, vk⟩ := py iv hr
     have uv : ((vj ++ ptr b :: vy).toArray ++ Array.replicate (n - (vj ++ ptr b :: vy).toArray.size) undef).getD t undef = v := by
      rw [Array.getD_eq_getD_getElem?, Array.getElem?_append_left (by simp; omega)]
      simp [List.getElem?_append_left (show t < vj.length by omega), hv]
     simp only [uv]; exact vk
    ·obtain ⟨v, hv, vk⟩ := py iw hr
     have lX := (List.getElem?_eq_some_iff.1 hv).1
     have uv : ((vj ++ ptr b :: vy).toArray ++ Array.replicate (n - (vj ++ ptr b :: vy).toArray.size) undef).getD t undef = v := by
      rw [Array.getD_eq_getD_getElem?, Array.getElem?_append_left (by simp; omega)]
      simp only [List.getElem?_toArray]
      rw [List.getElem?_append_right (by omega), show t - vj.length = (t - pre.length - 1) + 1 by omega, List.getElem?_cons_succ, hv]; rfl
     simp only [uv]; exact vk
 ·by_cases hn : (zP n pre (ptr b) cells vu post).ob t j = .none
  ·rw [hn]; trivial
  ·obtain rfl := rn t j hn
   rw [vA]
   simp only [if_true]
   cases j with
   | zero => exact uQ _ _ (fun j => by simp) vA
   | succ j => rw [xo]; exact vT _ _ j
 ·obtain rfl := rn t j hn
  rw [vA] at hn
  simp only [if_true] at hk ⊢
  rcases vL j hn with rfl | ⟨i, rfl, hi⟩
  ·rw [h0] at hk ⊢; exact hk
  ·exact vR i k hi hk
 ·obtain rfl := rn t j hn
  rw [vA] at hn
  simp only [if_true] at hk
  rcases l0 j k hn hk with rfl | hs
  ·exact ⟨fun hh => hh.2.1 rfl, fun hh => hh, hb⟩
  ·exact ⟨fun hh => hh.2.2 hs, fun hh => hh, (hS k hs).1⟩
 ·obtain rfl := rn t j hn
  obtain rfl := rn t' j' wz
  rw [vA] at hn wz
  simp only [if_true] at hk vp
  refine ⟨rfl, ?_⟩
  rcases vL j hn with rfl | ⟨i, rfl, hi⟩
  ·rcases vL j' wz with rfl | ⟨i', rfl, vq⟩
   ·rfl
   ·exact absurd ((oZ k).1 hk) (hS k (wJ i' k vq vp)).2
  ·rcases vL j' wz with rfl | ⟨i', rfl, vq⟩
   ·exact absurd ((oZ k).1 vp) (hS k (wJ i k hi hk)).2
   ·rw [rl i i' k hi vq hk vp]
end
end Go.Vm
namespace Go.Vm
open Go.RowKit
def Ds (dp : Bool) (T : CS) (w : World) (b : Nat) (wF : List D) (res : List (List D)) (e : Ending) (w' : World) : Prop :=
 ∃ (vs : List Value) (wi : List (List Value)) (Y : Nat -> Prop), e = .returned (V7 vs) /\ Yw (fun k => k < w.heap.size /\ k ≠ b) w w' /\ (∀ k, Y k -> w.heap.size <= k /\ k < w'.heap.size) /\
  (∃ cs e', w'.heap[b]? = some (.cells cs e' (0, 0)) /\ Z2 (Rd (Tof T Y) w') cs.toList wF) /\ Z2 KC vs wi /\ Z2 (fun (cs : List Value) (row : List D) => cs.length = row.length) wi res /\
  (if dp then Qt w' wi.flatten res.flatten (fun k => w.heap.size <= k /\ k < w'.heap.size /\ ¬ Y k) else Z2 (fun cs row => Z2 (Rd (Tof T Y) w') cs row) wi res)
def Ka (P : Program) (f : FuncId) (dp : Bool) (row : List D) (args : List (List D)) (wF : List D) (res : List (List D)) : Prop :=
 WW P f = true /\ ∀ (T : CS) (w : World) (b : Nat) (wx : List Value), (∀ k i, T k i -> k < w.heap.size /\ k ≠ b) -> b < w.heap.size -> (∃ cs e, w.heap[b]? = some (.cells cs e (0, 0)) /\ Z2 (Rd T w) cs.toList row) ->
  LC T w wx args -> Calls P f (ptr b :: wx).toArray w (Ds dp T w b wF res)
def Cd (P : Program) (fn : Func) (v : Value) (dp : Bool) (wF : List D) (res : List (List D)) (e : Exit) (σ : St) : Prop :=
 (e = .ret \/ e = .normal) /\ (∃ vu, σ.head? = some (.fix v (.one (.bptr 0 0)), .box (wF.map .d) :: vu)) /\ ∃ vX, W5 P σ fn.results.toList vX /\
  (if dp then Qv σ vX = some res /\ Ql σ vX /\ (Ya vX.flatten).Nodup else xa σ vX = some res)
def Rp (P : Program) (f : FuncId) (args : List (List D)) (wF : List D) : Prop :=
 WW P f = true /\ ∀ (T : CS) (w : World) (wx : List Value), (∀ k i, T k i -> k < w.heap.size) -> LC T w wx args ->
  Calls P f wx.toArray w fun e w' => ∃ b Y, e = .returned (ptr b) /\ Below w.heap.size w w' /\ w.heap.size <= b /\ b < w'.heap.size /\ (∀ k, Y k -> w.heap.size <= k /\ k < w'.heap.size /\ k ≠ b) /\ ∃ cs e', w'.heap[b]? = some (.cells cs e' (0, 0)) /\ Z2 (Rd (Tof T Y) w') cs.toList wF
def CL (P : Program) (fn : Func) (wF : List D) (e : Exit) (σ : St) : Prop :=
 (e = .ret \/ e = .normal) /\ ∃ u, W5 P σ fn.results.toList [[.bptr u 0]] /\ σ.ob u 0 = .box (wF.map .d)
section
variable {P : Program} {T0 : CS} {B : Nat -> Prop} {σ : St} {a : Act} {w w' : World} {X X' : Nat -> Prop} {h : Nat -> Nat -> Hd}
theorem Un {T : CS} {ob : Nat -> Nat -> Ob} : ∀ {row : List D} {cs : List Value}, Z2 (Z7 T h ob w) (row.map .d) cs -> Z2 (Rd T w) cs row
 | [], _, wG => by cases wG; exact .nil
 | _ :: _, _, wG => by cases wG with | cons h1 h2 => exact .cons h1 (Un h2)
theorem MS {f : FuncId} {fn : Func} {c : Code} (hf : P.funcs[f]? = some fn) (hb : fn.body = some c) (we : WW P f = true) {dp : Bool} {row : List D} {args : List (List D)} {wF : List D} {res : List (List D)}
  (hw : ∀ v, AWP P c (Cd P fn v dp wF res) (zP fn.ntmps [] v (row.map .d) [] args)) : Ka P f dp row args wF res := by
 refine ⟨we, fun T w b wx hT wU ⟨l4, e0, n7, oW⟩ wI => calls_of_wp hf hb ?_⟩
 have sy := Ls (w := w) (T := T) (S := fun _ => False) (n := fn.ntmps) (b := b) (pre := []) (post := args) (cells := row.map .d) (vu := []) (vj := []) (vy := wx) (fun _ => Hd.of (ptr b))
  (fun k i hk => ⟨(hT k i hk).1, (hT k i hk).2, fun hh => hh⟩) (fun k hk => hk.elim) wU rfl
  (fun h ob _ _ => ⟨b, l4, e0, rfl, n7, jD (oW.imp fun _ _ => Rd.mono (fun b k v hb hc => ⟨hc, .inl hb⟩))⟩) (fun h ob j => by simp [YO, QP]) (fun j k hn => by simp [YO] at hn) (fun j k hn => by simp [YO] at hn) (fun i j k hn => by simp [YO] at hn) .nil wI
 simp only [List.nil_append] at sy
 refine wp_mono (hw (ptr b) T _ _ w sy) ?_
 rintro e a' w' ⟨σ', ⟨he, ⟨vu, rm⟩, vX, vr, wM⟩, ⟨X, h, r⟩, wT⟩
 obtain ⟨vs, wi, wW, wo, wG⟩ := qN r vr
 have vY : 0 < σ'.length := by
  cases σ' with
  | nil => simp at rm
  | cons e σ => simp
 have nm : σ'.get 0 = .fix (ptr b) (.one (.bptr 0 0)) := by
  cases σ' with
  | nil => simp at rm
  | cons e σ => simp at rm; simp [St.get, rm]
 have vI : σ'.ob 0 0 = .box (wF.map .d) := by
  cases σ' with
  | nil => simp at rm
  | cons e σ => simp at rm; simp [St.ob, rm, YO]
 have tz := r.slot 0 vY
 rw [nm] at tz
 obtain ⟨oX, uG⟩ := tz
 obtain ⟨b1, vW, vJ⟩ := uG.2 _ vI
 rw [oX] at vJ
 have uS : b1 = b := by injection vJ with vJ; injection vJ with vJ; injection vJ with vJ; exact vJ.symm
 subst uS
 have vL := r.obj 0 0
 rw [vI] at vL
 obtain ⟨b2, sa, e', wm, uj, tM⟩ := vL
 rw [vW] at wm
 have uS : b2 = b1 := by injection wm with wm; injection wm with wm; injection wm with wm; exact wm.symm
 subst uS
 have rp : Yw (fun k => k < w.heap.size /\ k ≠ b2) w w' := ⟨wT.os, wT.tape, wT.output, wT.size, fun k hk => wT.block k ⟨hk.1, hk.2, fun hh => hh⟩⟩
 have fG : ∀ k, X k -> k = b2 -> False := by
  rintro k hx rfl
  have vR := r.ub 0 0 k (by rw [vI]; simp) (by rw [vW]; rfl)
  exact (r.own 0 0 k (by rw [vI]; simp) vR).2.1 hx
 have l8 : ∀ k, X k -> w.heap.size <= k /\ k < w'.heap.size := by
  intro k hk
  have h1 := r.hX k hk
  refine ⟨?_, h1.2⟩
  rcases Nat.lt_or_ge k w.heap.size with wO | u9
  ·exact absurd ⟨wO, fun hh => fG k hk hh, fun hh => hh⟩ h1.1
  ·exact u9
 have goal : a'.defers = [] /\ ∃ v, (results fn a'.tmps).run P w' = .ok v w' /\ Ds dp T w b2 wF res (.returned v) w' := by
  refine ⟨r.defers, _, wW, ?_⟩
  cases dp with
  | true =>
   simp only [if_true] at wM
   obtain ⟨v9, uL, vB⟩ := wM
   refine ⟨vs, wi, X, rfl, rp, l8, ⟨sa, e', uj, Un tM⟩, wo, ?_, ?_⟩
   ·clear vB uL vr wW wo hw
    induction wG generalizing res with
    | nil => simp [Qv] at v9; subst v9; exact .nil
    | cons h1 _ ih =>
     simp only [Qv] at v9
     split at v9
     ·rename_i row rs wh uf
      cases v9
      exact .cons (by rw [<- h1.length]; exact (zt wh).1) (ih uf)
     ·cases v9
   ·simp only [if_true]
    refine (Uw r (zb wG) (zG v9).1 (Ks uL) vB).mono (fun k hk => ?_)
    have hg := r.zQ _ k hk
    refine ⟨?_, hg.2.2.1, hg.2.1⟩
    rcases Nat.lt_or_ge k w.heap.size with wO | u9
    ·refine absurd ⟨wO, ?_, fun hh => hh⟩ hg.1
     rintro rfl
     obtain ⟨p, hp, wE, hu⟩ := hk
     have vR := r.ub 0 0 k (by rw [vI]; simp) (by rw [vW]; rfl)
     obtain ⟨e1, e2⟩ := r.inj p.1 p.2 0 0 k wE (by rw [vI]; simp) hu vR
     obtain ⟨i, lo, len, hx⟩ := TC hp
     have hm := UU (Ks uL) i _ hx
     rw [e1, e2] at hm
     obtain ⟨d, hd, mA⟩ := (Z2.get (R := fun x d => mvD σ' x = some d) (Z2.Ku (zt (zG v9).1).1 (fun i a b h1 h2 => (zt (zG v9).1).2 i a b h1 h2)) i _ hx)
     rw [e1, e2] at mA
     simp [mvD, vI] at mA
    ·exact u9
  | false =>
   simp only [Bool.false_eq_true, if_false] at wM
   refine ⟨vs, wi, fun k => w.heap.size <= k /\ k < w'.heap.size, rfl, rp, fun k hk => hk, ⟨sa, e', uj, (Un tM).imp fun _ _ => Rd.mono (fun k i v hk hc => ⟨hc, ?_⟩)⟩, wo, ?_, ?_⟩
   ·rcases hk with hk | hk
    ·exact .inl hk
    ·exact .inr (l8 k hk)
   ·clear vr wW wo hw
    induction wG generalizing res with
    | nil => simp [xa] at wM; subst wM; exact .nil
    | cons h1 _ ih =>
     simp only [xa] at wM
     split at wM
     ·rename_i row rs wh uf
      cases wM
      exact .cons ((r.rowOf false wh h1 (fun hh => by cases hh)).length) (ih uf)
     ·cases wM
   ·simp only [Bool.false_eq_true, if_false]
    refine VM r (fun k i hk => ?_) wM wG
    rcases hk with hk | ⟨t, j, q, size, rows, ho, hk⟩
    ·rcases hk with hk | hk
     ·exact .inl hk
     ·exact .inr (l8 k hk)
    ·have wE : σ'.ob t j ≠ .none := by rw [ho]; simp
     have wJ := r.own t j k wE hk
     refine .inr ⟨?_, wJ.2.2⟩
     rcases Nat.lt_or_ge k w.heap.size with wO | u9
     ·refine absurd ⟨wO, ?_, fun hh => hh⟩ wJ.1
      rintro rfl
      have vR := r.ub 0 0 k (by rw [vI]; simp) (by rw [vW]; rfl)
      obtain ⟨e1, e2⟩ := r.inj t j 0 0 k wE (by rw [vI]; simp) hk vR
      rw [e1, e2, vI] at ho; cases ho
     ·exact u9
 rcases he with rfl | rfl
 ·exact goal
 ·exact goal
theorem MK {f : FuncId} {fn : Func} {c : Code} (hf : P.funcs[f]? = some fn) (hb : fn.body = some c) (we : WW P f = true) {args : List (List D)} {wF : List D}
  (hw : AWP P c (CL P fn wF) (yu fn.ntmps args)) : Rp P f args wF := by
 refine ⟨we, fun T w wx hT wI => calls_of_wp hf hb ?_⟩
 refine wp_mono (hw T (fun b => b < w.heap.size) _ w (Oy hT wI)) ?_
 rintro e a' w' ⟨σ', ⟨he, u, vr, oY⟩, ⟨X, h, r⟩, wT⟩
 have vt : Below w.heap.size w w' := ⟨wT.os, wT.tape, wT.output, wT.size, wT.block⟩
 obtain ⟨vs, wi, wW, wo, wG⟩ := qN r vr
 cases wG with
 | cons h1 wG =>
  cases wG
  cases h1 with
  | @cons _ c0 _ _ hx h1 =>
   cases h1
   cases wo with
   | @cons v0 _ _ _ hu hn =>
    cases hn
    have uD : v0 = c0 := by
     rcases hu with ⟨c', nK, rfl, _⟩ | ⟨hn, _⟩
     ·cases nK; rfl
     ·simp at hn
    subst uD
    obtain ⟨b, vW, hv⟩ := hx.2 _ oY
    have vL := r.obj u 0
    rw [oY] at vL
    obtain ⟨b2, sa, e', wm, uj, tM⟩ := vL
    rw [vW] at wm
    have uS : b2 = b := by injection wm with wm; injection wm with wm; injection wm with wm; exact wm.symm
    subst uS
    have wE : σ'.ob u 0 ≠ .none := by rw [oY]; simp
    have vR := r.ub u 0 b2 wE (by rw [vW]; rfl)
    have wJ := r.own u 0 b2 wE vR
    have goal : a'.defers = [] /\ ∃ v, (results fn a'.tmps).run P w' = .ok v w' /\ ∃ b Y, Ending.returned v = .returned (ptr b) /\ Below w.heap.size w w' /\ w.heap.size <= b /\ b < w'.heap.size /\ (∀ k, Y k -> w.heap.size <= k /\ k < w'.heap.size /\ k ≠ b) /\ ∃ cs e', w'.heap[b]? = some (.cells cs e' (0, 0)) /\ Z2 (Rd (Tof T Y) w') cs.toList wF := by
     refine ⟨r.defers, _, wW, b2, X, by rw [hv]; rfl, vt, by have := wJ.1; omega, wJ.2.2, fun k hk => ?_, sa, e', uj, Un tM⟩
     have vp := r.hX k hk
     refine ⟨by have := vp.1; omega, vp.2, ?_⟩
     rintro rfl
     exact wJ.2.1 hk
    rcases he with rfl | rfl
    ·exact goal
    ·exact goal
end
end Go.Vm
namespace Go.Vm
open Go.RowKit
section
variable {P : Program} {T0 : CS} {B : Nat -> Prop} {σ : St} {a : Act} {w w' : World} {X X' : Nat -> Prop} {h : Nat -> Nat -> Hd}
theorem FA {T : CS} {ob : Nat -> Nat -> Ob} {hd : Hd} {size : Nat} {rows : List (List D)} (hr : QP T h ob w hd (.arr true size rows)) (hf : ∀ r ∈ rows, ∀ x ∈ r, x.scalar = true) : QP T h ob w hd (.arr false size rows) := by
 obtain ⟨e, xs, ho, hz, ⟨hl, Sk, hk, _, _⟩, _⟩ := hr
 refine ⟨e, xs, ho, hz, Z2.Ku hl (fun k x d hx hd => ?_)⟩
 obtain ⟨r0, tG, hdr⟩ := List.mem_flatten.1 (List.mem_of_getElem? hd)
 have vf := hf r0 tG d hdr
 have := hk k x d hx hd
 cases this with
 | int k n => exact .int _ _
 | bool b => exact .bool _
 | str s => exact .str _
 | unk v h => exact .unk _ h
 | sl => cases vf
theorem Rel.CC (r : Rel T0 B σ a w X h) {d : Nat} (hf : σ.fresh d = true) (M : Nat -> Prop) (hM : ∀ b, M b -> ¬ B b /\ ¬ X b /\ b < w.heap.size /\ ∀ t j, σ.ob t j ≠ .none -> ¬ (h t j).u b) {vs : List Value} {wi : List (List Value)} {res : List (List D)} (qs : List Bool)
  (wo : Z2 KC vs wi) (hlen : Z2 (fun (cs : List Value) (row : List D) => cs.length = row.length) wi res) (wJ : Qt w wi.flatten res.flatten M) (hq : Ke qs res.flatten) : QX T0 B (σ.new d (yh d res) (YC qs res.flatten)) (a.put (some d) (V7 vs)) w := by
 have wO := St.JT hf
 obtain ⟨rJ, Sk, k1, k2, k3, k4⟩ := IK wJ
 have wV : ∀ j, (σ.new d (yh d res) (YC qs res.flatten)).ob d j = YO (YC qs res.flatten) j := fun j => by rw [St.QE]; simp [wO]
 have l9 := wJ.top (T := Tof T0 X)
 have uF : Z2 (fun cs row => Z2 (qA (Tof T0 X) w) cs row) wi res := yE hlen (fun k x d hx hd => by
  obtain ⟨c, hc, ht⟩ := l9.get' k d hd
  rw [hx] at hc; cases hc; exact ht)
 refine ⟨X, fun t j => if t = d then rJ j else h t j, ?_⟩
 refine r.GR hf M (Nat.le_refl _) (fun _ _ _ => rfl) (fun b hb => ⟨(hM b hb).1, (hM b hb).2.1, fun t j _ hn => (hM b hb).2.2.2 t j hn⟩) (fun b hb => hb) (fun b hb => .inl hb) (yh d res) (V7 vs) (YC qs res.flatten) rJ ?_ (fun j => ?_) (fun j b wE hb => ?_) (fun j b wE hb => ?_) (fun j j' b wE w6 hb wU => ?_)
 ·exact NV (h := fun t j => if t = d then rJ j else h t j) (ob := (σ.new d (yh d res) (YC qs res.flatten)).ob) (t := d) wo uF (fun i size rows hi => by
   obtain ⟨q, tA, _⟩ := (YV qs res.flatten i hq).1 size rows hi
   exact ⟨q, by rw [wV]; exact tA⟩) (fun i c hi => by simp only [if_true]; exact k1 i c hi)
 ·by_cases wE : YO (YC qs res.flatten) j = .none
  ·rw [wE]; trivial
  ·obtain ⟨size, rows, hj⟩ := (YV qs res.flatten j hq).2 wE
   obtain ⟨q, tA, mB⟩ := (YV qs res.flatten j hq).1 size rows hj
   rw [tA]
   have := (k4 j size rows hj).2.2 (Tof T0 X) (fun t j => if t = d then rJ j else h t j) (σ.new d (yh d res) (YC qs res.flatten)).ob
   cases q with
   | true => exact this
   | false => exact FA this (mB rfl)
 ·obtain ⟨size, rows, hj⟩ := (YV qs res.flatten j hq).2 wE
  exact (k4 j size rows hj).2.1 b hb
 ·obtain ⟨size, rows, hj⟩ := (YV qs res.flatten j hq).2 wE
  have := k2 j b ((k4 j size rows hj).1 b hb)
  exact ⟨.inr this, (hM b this).2.1, (hM b this).2.2.1⟩
 ·obtain ⟨size, rows, hj⟩ := (YV qs res.flatten j hq).2 wE
  obtain ⟨wX, wS, uu⟩ := (YV qs res.flatten j' hq).2 w6
  exact k3 j j' b ((k4 j size rows hj).1 b hb) ((k4 j' wX wS uu).1 b wU)
theorem Rel.Fc (r : Rel T0 B σ a w X h) {t b : Nat} {cells : List At} {wF : List D} (ho : σ.ob t 0 = .box cells) (hv : (h t 0).v = ptr b) (vV : w.heap.size <= w'.heap.size) (hw : ∀ k, k < w.heap.size -> k ≠ b -> w'.heap[k]? = w.heap[k]?)
  (hX : ∀ b, X b -> X' b) (sX : ∀ b, X' b -> X b \/ (w.heap.size <= b /\ b < w'.heap.size)) (tw : ∃ cs e, w'.heap[b]? = some (.cells cs e (0, 0)) /\ Z2 (Rd (Tof T0 X') w') cs.toList wF) : Rel T0 B (σ.Zt t 0 (.box (wF.map .d))) a w' X' h := by
 have wV : σ.ob t 0 ≠ .none := by rw [ho]; simp
 have wc : blk (h t 0).v = some b := by rw [hv]; rfl
 have vR := r.ub t 0 b wV wc
 have mE := r.own t 0 b wV vR
 have hT : ∀ k i v, Tof T0 X k i -> w.cell? ⟨k, i, none⟩ = some v -> w'.cell? ⟨k, i, none⟩ = some v /\ Tof T0 X' k i := by
  intro k i v hk hc
  refine ⟨?_, hk.imp id (hX k)⟩
  have wE : k ≠ b := by
   rintro rfl
   rcases hk with hk | hk
   ·exact mE.1 (r.hT _ _ hk)
   ·exact mE.2.1 hk
  rw [World.cell?_of_block (hw k (r.Tlt hk) wE)]; exact hc
 have vT : ∀ u i, ¬ (u = t /\ i = 0) -> (σ.Zt t 0 (.box (wF.map .d))).ob u i = σ.ob u i := by
  intro u i wE
  rw [St.XH σ t 0 _ u i wV, if_neg wE]
 have vM : (σ.Zt t 0 (.box (wF.map .d))).ob t 0 = .box (wF.map .d) := by rw [St.XH σ t 0 _ t 0 wV]; simp
 have iA : ∀ u i, Cpt h h σ.ob (σ.Zt t 0 (.box (wF.map .d))).ob u i := by
  intro u i
  by_cases hu : u = t /\ i = 0
  ·obtain ⟨rfl, rfl⟩ := hu
   refine ⟨fun q size rows wY => ?_, fun size rows wY => ?_, fun wK wY => ⟨rfl, cells, ho⟩⟩
   ·rw [vM] at wY; cases wY
   ·rw [vM] at wY; cases wY
  ·exact Cpt.same rfl (vT u i hu)
 have at_ : ∀ {x : At} {v : Value}, (fun _ => false : At -> Bool) x = false -> Z7 (Tof T0 X) h σ.ob w x v -> Z7 (Tof T0 X') h (σ.Zt t 0 (.box (wF.map .d))).ob w' x v := fun _ rx => Z7.Ee hT iA rx
 have vU : ∀ u i, (σ.Zt t 0 (.box (wF.map .d))).ob u i ≠ .none -> σ.ob u i ≠ .none := by
  intro u i hn
  by_cases hu : u = t /\ i = 0
  ·obtain ⟨rfl, rfl⟩ := hu; exact wV
  ·rw [vT u i hu] at hn; exact hn
 refine ⟨by rw [r.size, St.Y3], r.defers, fun b hb => Nat.lt_of_lt_of_le (r.hB b hb) vV, fun k hk => ?_, r.hT, fun u hu => ?_, fun u i => ?_, fun u i k hn => r.ub u i k (vU u i hn), fun u i k hn hk => ?_, fun u i u' i' k hn wz => r.inj u i u' i' k (vU u i hn) (vU u' i' wz)⟩
 ·rcases sX k hk with hk | hk
  ·have := r.hX k hk; exact ⟨this.1, by omega⟩
  ·exact ⟨fun uS => by have := r.hB k uS; omega, hk.2⟩
 ·rw [St.Y3] at hu
  rw [St.Xp]; exact Xs.map at_ (yR _) (r.slot u hu)
 ·by_cases hu : u = t /\ i = 0
  ·obtain ⟨rfl, rfl⟩ := hu
   rw [vM]
   obtain ⟨cs, e, hh, wG⟩ := tw
   exact ⟨b, cs, e, hv, hh, jD wG⟩
  ·rw [vT u i hu]
   exact QP.map at_ hT (fun ho b => r.ub u i b ho) (fun hn k hk => hw k (r.own u i k hn hk).2.2 (fun e => by
    rw [e] at hk
    obtain ⟨e1, e2⟩ := r.inj u i t 0 b hn wV hk vR
    exact hu ⟨e1, e2⟩)) (qt _) (r.obj u i)
 ·have := r.own u i k (vU u i hn) hk
  refine ⟨this.1, fun hx => ?_, by omega⟩
  rcases sX k hx with hx | hx
  ·exact this.2.1 hx
  ·omega
def HM (dp : Bool) (σ : St) (d : Nat) (res : List (List D)) (qs : List Bool) : St := match dp with | true => σ.new d (yh d res) (YC qs res.flatten) | false => σ.put d (zx res)
theorem Pg (r : Rel T0 B σ a w X h) {o : Oper} {cl : Call} {f : FuncId} {d : Nat} {x0 : Operand} {xs : List Operand} {t0 : TypeId} {ts : List TypeId} {wQ res : List (List D)} {row wF : List D} {dp : Bool} (qs : List Bool) (wA : o.op = .call cl) (hc : cl.callee = .value (.func f)) (hd : o.dst = some d)
  (ha : cl.args.toList = x0 :: xs) {t : Nat} (hg : gOf (look P σ t0 x0) = true) (hx : unc (look P σ t0 x0) = .one (.bptr t 0)) (ho : σ.ob t 0 = .box (row.map .d)) (wI : Xg P σ xs ts wQ) (wb : YI P σ xs ts = true) (hs : Ka P f dp row wQ wF res)
  (w8 : dp = true -> (σ.Zt t 0 (.box (wF.map .d))).fresh d = true /\ Ke qs res.flatten)
  {K : Act -> World -> Prop} {Q : Exit -> Act -> World -> Prop} (hK : ∀ a' w', QX T0 B (HM dp (σ.Zt t 0 (.box (wF.map .d))) d res qs) a' w' -> Yw B w w' -> K a' w') : o.wp P a w K Q := by
 have wV : σ.ob t 0 ≠ .none := by rw [ho]; simp
 have iB := r.arg (P := P) t0 x0 hx hg
 obtain ⟨b, vW, hv⟩ := iB.2 _ ho
 have vL := r.obj t 0
 rw [ho] at vL
 obtain ⟨b2, cs, e, wm, hh, wG⟩ := vL
 rw [vW] at wm
 have uS : b2 = b := by injection wm with wm; injection wm with wm; injection wm with wm; exact wm.symm
 subst uS
 have wc : blk (h t 0).v = some b2 := by rw [vW]; rfl
 have vR := r.ub t 0 b2 wV wc
 have wJ := r.own t 0 b2 wV vR
 have uX := r.Xg true wI (fun _ => wb)
 simp only [if_true] at uX
 unfold Oper.wp
 rw [ju wA hc hs.1, Oper.upon_enter]
 rw [show (cl.args.toList.map a.eval).toArray = (ptr b2 :: xs.map a.eval).toArray by rw [ha]; simp [hv]]
 have hT : ∀ k i, Tof T0 X k i -> k < w.heap.size /\ k ≠ b2 := by
  intro k i hk
  refine ⟨r.Tlt hk, ?_⟩
  rintro rfl
  rcases hk with hk | hk
  ·exact wJ.1 (r.hT _ _ hk)
  ·exact wJ.2.1 hk
 refine (hs.2 (Tof T0 X) w b2 _ hT wJ.2.2 ⟨cs, e, hh, Un wG⟩ uX).mono ?_
 rintro e' w' ⟨vs, wi, Y, rfl, wT, hY, ⟨sa, e2, uj, tM⟩, wo, hlen, vr⟩
 rw [hd]
 have rR : ∀ {v : Value} {x : D}, Rd (Tof (Tof T0 X) Y) w' v x -> Rd (Tof T0 (fun k => X k \/ Y k)) w' v x := fun hr => hr.mono (fun k i v hk hc => ⟨hc, by
  rcases hk with (hk | hk) | hk
  ·exact .inl hk
  ·exact .inr (.inl hk)
  ·exact .inr (.inr hk)⟩)
 have r1 := r.Fc (w' := w') (X' := fun k => X k \/ Y k) (wF := wF) ho vW wT.size (fun k hk wE => wT.block k ⟨hk, wE⟩) (fun k hk => .inl hk) (fun k hk => hk.imp id (hY k)) ⟨sa, e2, uj, tM.imp fun _ _ => rR⟩
 have mF : Yw B w w' := ⟨wT.os, wT.tape, wT.output, wT.size, fun k hk => wT.block k ⟨r.hB k hk, fun e => wJ.1 (e ▸ hk)⟩⟩
 cases dp with
 | false =>
  simp only [Bool.false_eq_true, if_false] at vr
  exact hK _ _ ⟨_, _, r1.put d _ _ (Ll wo (PC (fun _ _ _ _ _ => rR) vr))⟩ mF
 | true =>
  simp only [if_true] at vr
  obtain ⟨l7, hq⟩ := w8 rfl
  refine hK _ _ (r1.CC l7 (fun k => w.heap.size <= k /\ k < w'.heap.size /\ ¬ Y k) (fun k hk => ⟨fun hb => by have := r.hB k hb; omega, ?_, hk.2.1, fun u j hn hu => ?_⟩) qs wo hlen vr hq) mF
  ·rintro (hx | hy)
   ·have := (r.hX k hx).2; omega
   ·exact hk.2.2 hy
  ·have wz : σ.ob u j ≠ .none := by
    by_cases hc : u = t /\ j = 0
    ·obtain ⟨rfl, rfl⟩ := hc; exact wV
    ·rw [St.XH σ t 0 _ u j wV, if_neg hc] at hn; exact hn
   have := (r.own u j k wz hu).2.2; omega
theorem Hy (r : Rel T0 B σ a w X h) {o : Oper} {cl : Call} {f : FuncId} {d : Nat} {wQ : List (List D)} {wF : List D} (wA : o.op = .call cl) (hc : cl.callee = .value (.func f)) (hd : o.dst = some d) (w8 : σ.fresh d = true)
  (wI : Xg P σ cl.args.toList cl.argTypes.toList wQ) (wb : YI P σ cl.args.toList cl.argTypes.toList = true) (hs : Rp P f wQ wF)
  {K : Act -> World -> Prop} {Q : Exit -> Act -> World -> Prop} (hK : ∀ a' w', QX T0 B (σ.new d (.one (.bptr d 0)) [.box (wF.map .d)]) a' w' -> Yw B w w' -> K a' w') : o.wp P a w K Q := by
 have wO := St.JT w8
 have uX := r.Xg true wI (fun _ => wb)
 simp only [if_true] at uX
 unfold Oper.wp
 rw [ju wA hc hs.1, Oper.upon_enter]
 refine (hs.2 (Tof T0 X) w _ (fun k i hk => r.Tlt hk) uX).mono ?_
 rintro e' w' ⟨b, Y, rfl, vt, vW, wm, hY, sa, e2, uj, tM⟩
 rw [hd]
 have rR : ∀ {v : Value} {x : D}, Rd (Tof (Tof T0 X) Y) w' v x -> Rd (Tof T0 (fun k => X k \/ Y k)) w' v x := fun hr => hr.mono (fun k i v hk hc => ⟨hc, by
  rcases hk with (hk | hk) | hk
  ·exact .inl hk
  ·exact .inr (.inl hk)
  ·exact .inr (.inr hk)⟩)
 have wV : (σ.new d (.one (.bptr d 0)) [.box (wF.map .d)]).ob d 0 = .box (wF.map .d) := by rw [St.QE]; simp [wO, YO]
 refine hK _ _ ⟨fun k => X k \/ Y k, fun t j => if t = d then Hd.of (ptr b) else h t j, ?_⟩ (Yw.Sh vt r.hB)
 refine r.new w8 (Below.grownBy vt) (fun k hk => .inl hk) (fun k hk => hk.imp id (fun hy => ⟨(hY k hy).1, (hY k hy).2.1⟩)) _ _ _ (fun _ => Hd.of (ptr b)) ⟨rfl, fun cells _ => ⟨b, by simp [Hd.of], rfl⟩⟩ (fun j => ?_) (fun j k _ hk => hk) (fun j k _ hk => ?_) (fun i j k hi hj _ _ => ?_)
 ·cases j with
  | zero => exact ⟨b, sa, e2, rfl, uj, jD (tM.imp fun _ _ => rR)⟩
  | succ j => simp [YO, QP]
 ·simp [Hd.of, blk] at hk; subst hk
  refine ⟨vW, ?_, wm⟩
  rintro (hx | hy)
  ·have := (r.hX _ hx).2; omega
  ·exact (hY _ hy).2.2 rfl
 ·have hz : ∀ j, YO [Ob.box (wF.map .d)] j ≠ .none -> j = 0 := by
   intro j hj
   cases j with
   | zero => rfl
   | succ j => simp [YO] at hj
  rw [hz i hi, hz j hj]
end
section
variable {P : Program} {σ : St} {k : Fr}
theorem Np {dp : Bool} {d d' : Nat} {res : List (List D)} {qs : List Bool} (wE : d ≠ d') (wq : Yx σ d = true) : Yx (HM dp σ d' res qs) d = true := by
 cases dp with
 | false => exact Rt wE wq
 | true => exact Wz wE wq
attribute [simp] HM
theorem JY {f : FuncId} {fn : Func} {c : Code} (hf : P.funcs[f]? = some fn) (hb : fn.body = some c) (we : WW P f = true) {dp : Bool} {row : List D} {args : List (List D)} {wF : List D} {res : List (List D)}
  (hw : ∀ v, @WI P (zP fn.ntmps [] v (row.map .d) [] args) ⟨c⟩ (.fin (Cd P fn v dp wF res))) : Ka P f dp row args wF res := MS hf hb we (fun v => jU (hw v))
theorem K4 {fn : Func} {v : Value} {dp : Bool} {wF : List D} {res : List (List D)} {rv : List ResultVar} (hf : fn.results = rv.toArray) (h : (QZ P σ rv).1 /\ σ.head? = some (.fix v (.one (.bptr 0 0)), .box (wF.map .d) :: (σ.head?.map (fun e => e.2.tail)).getD []) /\
  (if dp then Qv σ (QZ P σ rv).2 = some res /\ Ql σ (QZ P σ rv).2 /\ (Ya (QZ P σ rv).2.flatten).Nodup else xa σ (QZ P σ rv).2 = some res)) : Cd P fn v dp wF res .ret σ :=
 ⟨.inl rfl, ⟨_, h.2.1⟩, _, by rw [hf]; exact Wo h.1, h.2.2⟩
theorem Fb {f : FuncId} {fn : Func} {c : Code} (hf : P.funcs[f]? = some fn) (hb : fn.body = some c) (we : WW P f = true) {args : List (List D)} {wF : List D}
  (hw : @WI P (yu fn.ntmps args) ⟨c⟩ (.fin (CL P fn wF))) : Rp P f args wF := MK hf hb we (jU hw)
theorem BM {fn : Func} {wF : List D} {rv : List ResultVar} (u : Nat) (hf : fn.results = rv.toArray) (h : (QZ P σ rv).1 /\ (QZ P σ rv).2 = [[.bptr u 0]] /\ σ.ob u 0 = .box (wF.map .d)) : CL P fn wF .ret σ :=
 ⟨.inl rfl, u, by rw [hf, <- h.2.1]; exact Wo h.1, h.2.2⟩
theorem Gi {ops : Array Oper} {o : Oper} {cl : Call} {f : FuncId} {d : Nat} {x0 : Operand} {xs : List Operand} {t0 : TypeId} {ts : List TypeId} {wQ res : List (List D)} {row wF : List D} {dp : Bool} {t : Nat} (qs : List Bool) (wA : o.op = .call cl) (hc : cl.callee = .value (.func f)) (te : o.guard = none) (hd : o.dst = some d)
  (ha : cl.args.toList = x0 :: xs) (hs : Ka P f dp row wQ wF res) (hg : gOf (look P σ t0 x0) = true) (hx : unc (look P σ t0 x0) = .one (.bptr t 0)) (ho : σ.ob t 0 = .box (row.map .d))
  (wI : Xg P σ xs ts wQ) (wb : YI P σ xs ts = true) (w8 : dp = true -> (σ.Zt t 0 (.box (wF.map .d))).fresh d = true /\ Ke qs res.flatten) : Cy P ops o σ (HM dp (σ.Zt t 0 (.box (wF.map .d))) d res qs) := by
 have hm : ∀ z ∈ x0 :: xs, z ∈ o.op.operands.toList := fun z hz => by rw [wA]; exact Jr (by rw [ha]; exact hz)
 refine ⟨d, t, row.map .d, wF.map .d, (cond dp (yh d res) (zx res)), (cond dp (some (YC qs res.flatten)) none), hd, ho, ⟨x0, xs, ⟨f, cl.argTypes, ?_⟩, t0, hx⟩, fun u => ⟨jk _, jk _⟩, fun u hu => ?_, fun hn => ?_, ?_, fun σ2 hl sJ wV l5 => ?_⟩
 ·rw [wA]
  obtain ⟨c1, c2, c3⟩ := cl
  simp only at hc ha ⊢
  rw [hc, <- ha]
 ·cases dp with
  | true =>
   have hu := hu.resolve_left (by simp)
   exact ⟨N6 hu res, fun l hl => by cases hl; exact KJ u qs _⟩
  | false => exact ⟨Lf u res, fun l hl => by cases hl⟩
 ·cases dp with
  | true => exact (w8 rfl).1
  | false => exact absurd rfl hn
 ·cases dp <;> rfl
 ·have wk : Sub P o.op.operands.toList σ σ2 := ⟨hl, sJ, wV⟩
  have hE : Sub P xs σ σ2 := ⟨hl, fun z hz => sJ z (hm z (by simp [hz])), fun z hz => wV z (hm z (by simp [hz]))⟩
  have h0 := sJ x0 (hm x0 (by simp)) t0
  have tY : σ2.ob t 0 = .box (row.map .d) := by
   rw [<- ho]
   exact wV x0 (hm x0 (by simp)) t0 t (XQ hx (by simp [At.ref])) 0 (by rw [ho]; simp)
  have e : KE t d (wF.map .d) (cond dp (yh d res) (zx res)) (cond dp (some (YC qs res.flatten)) none) σ2 = HM dp (σ2.Zt t 0 (.box (wF.map .d))) d res qs := by cases dp <;> rfl
  rw [e]
  refine ⟨?_, fun d' wR wq => Np (fun e => wR (by rw [hd, e])) (X5 wq)⟩
  rintro T0 B a w K Q' ⟨X, hh, r⟩ hK
  have hw : Region.wanted o (yielded ops a.tmps) = true := by simp [Region.wanted, te]
  rw [if_pos hw]
  refine Pg r qs wA hc hd ha (by rw [<- h0]; exact hg) (by rw [<- h0]; exact hx) tY (xu hE wI) (by rw [xl hE]; exact wb) hs (fun iy => ⟨?_, (w8 iy).2⟩) hK
  subst iy
  exact l5 (by simp)
theorem D2 {A : Qy} {o : OpI} {l : JW} {cl : Call} {f : FuncId} {d : Nat} {x0 : Operand} {xs : List Operand} {t0 : TypeId} {ts : List TypeId} {wQ res : List (List D)} {row wF : List D} {dp : Bool} {t : Nat} (qs : List Bool) (wA : o.o.op = .call cl) (hc : cl.callee = .value (.func f)) (te : o.o.guard = none) (hd : o.o.dst = some d) (wy : A.bar o.o = true)
  (ha : cl.args.toList = x0 :: xs) (gy : cl.argTypes.toList = t0 :: ts) (hs : Ka P f dp row wQ wF res) (hx : gOf (look P σ t0 x0) = true /\ unc (look P σ t0 x0) = .one (.bptr t 0)) (ho : σ.ob t 0 = .box (row.map .d))
  (wI : (Yp P σ xs ts).1) (wP : (Yp P σ xs ts).2 = some wQ) (wb : YI P σ xs ts = true) (w8 : dp = true -> (σ.Zt t 0 (.box (wF.map .d))).fresh d = true /\ Ke qs res.flatten)
  (h : @EI P (HM dp (σ.Zt t 0 (.box (wF.map .d))) d res qs) A l k) : @SI P σ A o l k := by
 refine ⟨_, .inr ⟨wy, ?_, fun d' wR wq => Np (fun e => wR (by rw [hd, e])) (X5 wq), fun hh => by simp [V4, wA] at hh, fun hh => by first | (simp [jg, wA] at hh; done) | (unfold jg at hh; rw [wA] at hh; split at hh <;> simp_all), fun _ _ => Gi qs wA hc te hd ha hs hx.1 hx.2 ho (zk wI wP) wb w8⟩, QW h⟩
 rintro T0 B a w K Q' ⟨X, hh, r⟩ hK
 have hw : Region.wanted o.o (yielded A.ops a.tmps) = true := by simp [Region.wanted, te]
 rw [if_pos hw]
 exact Pg r qs wA hc hd ha hx.1 hx.2 ho (zk wI wP) wb hs w8 hK
theorem C1 {A : Qy} {o : OpI} {l : JW} {cl : Call} {f : FuncId} {d : Nat} {wQ : List (List D)} {wF : List D} (wA : o.o.op = .call cl) (hc : cl.callee = .value (.func f)) (te : o.o.guard = none) (hd : o.o.dst = some d) (wy : A.bar o.o = true) (hs : Rp P f wQ wF)
  (wI : (Yp P σ cl.args.toList cl.argTypes.toList).1) (wP : (Yp P σ cl.args.toList cl.argTypes.toList).2 = some wQ) (wb : YI P σ cl.args.toList cl.argTypes.toList = true) (w8 : σ.fresh d = true)
  (h : @EI P (σ.new d (.one (.bptr d 0)) [.box (wF.map .d)]) A l k) (tR : KG P o.o = false := by exact rfl) : @SI P σ A o l k := by
 refine ⟨_, .inr ⟨wy, ?_, fun d' wR wq => Wz (fun e => wR (by rw [hd, e])) wq, fun hh => by simp [V4, wA] at hh, fun hh => by first | (simp [jg, wA] at hh; done) | (unfold jg at hh; rw [wA] at hh; split at hh <;> simp_all), fun hh _ => by rw [tR] at hh; cases hh⟩, QW h⟩
 rintro T0 B a w K Q' ⟨X, hh, r⟩ hK
 have hw : Region.wanted o.o (yielded A.ops a.tmps) = true := by simp [Region.wanted, te]
 rw [if_pos hw]
 exact Hy r wA hc hd w8 (zk wI wP) wb hs hK
end
end Go.Vm
namespace Go.Vm
open Go.RowKit
def Dz (w : World) (S : Nat -> Prop) (b : Nat) (wF : List D) (e : Ending) (w' : World) : Prop :=
 e = .returned (.tuple #[]) /\ Yw (fun k => k < w.heap.size /\ k ≠ b /\ ¬ S k) w w' /\ ∃ cs e', w'.heap[b]? = some (.cells cs e' (0, 0)) /\ Qt w' cs.toList wF (fun k => (S k \/ (w.heap.size <= k /\ k < w'.heap.size)) /\ k ≠ b)
def Nz (P : Program) (f : FuncId) (args : List (List D)) (row wF : List D) : Prop :=
 WW P f = true /\ ∀ (T : CS) (S : Nat -> Prop) (w : World) (b : Nat) (wx : List Value), (∀ k i, T k i -> k < w.heap.size /\ k ≠ b /\ ¬ S k) -> (∀ k, S k -> k < w.heap.size /\ k ≠ b) -> b < w.heap.size ->
  (∃ cs e, w.heap[b]? = some (.cells cs e (0, 0)) /\ Qt w cs.toList row S) -> LC T w wx args -> Calls P f (wx ++ [ptr b]).toArray w (Dz w S b wF)
def CX (P : Program) (fn : Func) (p : Nat) (v : Value) (wF : List D) (e : Exit) (σ : St) : Prop :=
 (e = .ret \/ e = .normal) /\ W5 P σ fn.results.toList [] /\ ∃ tW vu, σ[p]? = some (.fix v (.one (.bptr p 0)), .box tW :: vu) /\ QR σ tW = some wF /\ XS σ tW /\ (Ya tW).Nodup
def Cf (n : Nat) (sz : Nat) (rows : List (List D)) (args : List (List D)) : St := (.one (.sref 0 0 0 rows.length), [.arr false sz rows]) :: (T5 args ++ List.replicate (n - (args.length + 1)) (V.any, []))
def At.isO (u : Nat) : At -> Bool
 | .sref t _ _ _ => t == u
 | .ptr t _ _ _ => t == u
 | .tref t _ _ _ _ => t == u
 | _ => false
section
variable {P : Program} {T0 : CS} {B : Nat -> Prop} {σ : St} {a : Act} {w w' : World} {X X' : Nat -> Prop} {h : Nat -> Nat -> Hd}
theorem G9 {hf : Nat -> Hd} {row : List D} {qs : List Bool} (hq : Ke qs row) (k4 : ∀ j size rows, row[j]? = some (.sl size rows) -> ∀ T h ob, QP T h ob w (hf j) (.arr true size rows)) (T : CS) (ob : Nat -> Nat -> Ob) (j : Nat) : QP T h ob w (hf j) (YO (YC qs row) j) := by
 by_cases wE : YO (YC qs row) j = .none
 ·rw [wE]; trivial
 ·obtain ⟨size, rows, hj⟩ := (YV qs row j hq).2 wE
  obtain ⟨q, tA, mB⟩ := (YV qs row j hq).1 size rows hj
  rw [tA]
  have := k4 j size rows hj T h ob
  cases q with
  | true => exact this
  | false => exact FA this (mB rfl)
theorem MQ {f : FuncId} {fn : Func} {c : Code} (hf : P.funcs[f]? = some fn) (hb : fn.body = some c) (we : WW P f = true) {args : List (List D)} {row wF : List D} (qs : List Bool) (hq : Ke qs row)
  (hw : ∀ v, AWP P c (CX P fn args.length v wF) (zP fn.ntmps args v (Qz args.length 1 row) (YC qs row) [])) : Nz P f args row wF := by
 refine ⟨we, fun T S w b wx hT hS wU ⟨l4, e0, n7, px⟩ wI => calls_of_wp hf hb ?_⟩
 obtain ⟨rJ, Sk, k1, k2, k3, k4⟩ := IK px
 have sy := Ls (w := w) (T := T) (S := S) (n := fn.ntmps) (b := b) (pre := args) (post := []) (cells := Qz args.length 1 row) (vu := YC qs row) (vj := wx) (vy := []) (fun j => match j with | 0 => Hd.of (ptr b) | j + 1 => rJ j)
  hT hS wU rfl (fun h ob hh wV => ⟨b, l4, e0, rfl, n7, VZ px.top (fun i size rows hi => by
    obtain ⟨q, tA, _⟩ := (YV qs row i hq).1 size rows hi
    exact ⟨q, by rw [wV, Nat.add_comm, xo]; exact tA⟩) (fun i c hc => by rw [hh, Nat.add_comm]; exact k1 i c hc)⟩)
  (fun h ob j => G9 hq (fun j size rows hj => (k4 j size rows hj).2.2) _ _ j)
  (fun j k hn hk => by
   obtain ⟨size, rows, hj⟩ := (YV qs row j hq).2 hn
   exact (k4 j size rows hj).2.1 k hk)
  (fun j k hn hk => by
   obtain ⟨size, rows, hj⟩ := (YV qs row j hq).2 hn
   exact k2 j k ((k4 j size rows hj).1 k hk))
  (fun i j k hn wz hk vp => by
   obtain ⟨size, rows, hj⟩ := (YV qs row i hq).2 hn
   obtain ⟨wX, wS, uu⟩ := (YV qs row j hq).2 wz
   exact k3 i j k ((k4 i size rows hj).1 k hk) ((k4 j wX wS uu).1 k vp)) wI .nil
 refine wp_mono (hw (ptr b) T _ _ w sy) ?_
 rintro e a' w' ⟨σ', ⟨he, vr, tW, vu, uh, v9, uL, vB⟩, ⟨X, h, r⟩, wT⟩
 obtain ⟨vs, wi, wW, wo, wG⟩ := qN r vr
 cases wG
 cases wo
 have vY : args.length < σ'.length := (List.getElem?_eq_some_iff.1 uh).1
 have nm : σ'.get args.length = .fix (ptr b) (.one (.bptr args.length 0)) := by unfold St.get; rw [uh]
 have vI : σ'.ob args.length 0 = .box tW := by unfold St.ob; rw [uh]; rfl
 have tz := r.slot _ vY
 rw [nm] at tz
 obtain ⟨oX, uG⟩ := tz
 obtain ⟨b1, vW, vJ⟩ := uG.2 _ vI
 rw [oX] at vJ
 have uS : b1 = b := by injection vJ with vJ; injection vJ with vJ; injection vJ with vJ; exact vJ.symm
 subst uS
 have vL := r.obj args.length 0
 rw [vI] at vL
 obtain ⟨b2, sa, e', wm, uj, tM⟩ := vL
 rw [vW] at wm
 have uS : b2 = b1 := by injection wm with wm; injection wm with wm; injection wm with wm; exact wm.symm
 subst uS
 have vR := r.ub args.length 0 b2 (by rw [vI]; simp) (by rw [vW]; rfl)
 have goal : a'.defers = [] /\ ∃ v, (results fn a'.tmps).run P w' = .ok v w' /\ Dz w S b2 wF (.returned v) w' := by
  refine ⟨r.defers, _, wW, rfl, wT, sa, e', uj, (Uw r tM v9 uL vB).mono (fun k hk => ?_)⟩
  have hg := r.zQ _ k hk
  have wE : k ≠ b2 := by
   rintro rfl
   obtain ⟨p, hp, wE, hu⟩ := hk
   obtain ⟨e1, e2⟩ := r.inj p.1 p.2 args.length 0 k wE (by rw [vI]; simp) hu vR
   obtain ⟨i, lo, len, hx⟩ := TC hp
   obtain ⟨d, hd, mA⟩ := (Z2.get (R := fun x d => mvD σ' x = some d) (Z2.Ku (zt v9).1 (fun i a b h1 h2 => (zt v9).2 i a b h1 h2)) i _ hx)
   rw [e1, e2] at mA
   simp [mvD, vI] at mA
  refine ⟨?_, wE⟩
  by_cases hs : S k
  ·exact .inl hs
  ·refine .inr ⟨?_, hg.2.2.1⟩
   rcases Nat.lt_or_ge k w.heap.size with wO | u9
   ·exact absurd ⟨wO, wE, hs⟩ hg.1
   ·exact u9
 rcases he with rfl | rfl
 ·exact goal
 ·exact goal
theorem Rel.Ct (r : Rel T0 B σ a w X h) {u b : Nat} {cells : List At} {wF : List D} {qs : List Bool} (ho : σ.ob u 0 = .box cells) (hv : (h u 0).v = ptr b) (wO : u < σ.length) (M S' : Nat -> Prop) (vV : w.heap.size <= w'.heap.size) (hw : ∀ k, k < w.heap.size -> k ≠ b -> ¬ M k -> w'.heap[k]? = w.heap[k]?)
  (hm : ∀ k, M k -> ¬ B k /\ ¬ X k /\ ∀ t j, σ.ob t j ≠ .none -> ¬ (h t j).u k) (rH : (σ.Zt u 0 .none).J5 (At.isO u) = false) (hq : Ke qs wF) {sa : Array Value} {e' : TypeId} (uj : w'.heap[b]? = some (.cells sa e' (0, 0)))
  (wJ : Qt w' sa.toList wF S') (l0 : ∀ k, S' k -> (w.heap.size <= k \/ M k) /\ k < w'.heap.size /\ k ≠ b) : QX T0 B (σ.new u (σ.get u) (.box (Qz u 1 wF) :: YC qs wF)) a w' := by
 have wV : σ.ob u 0 ≠ .none := by rw [ho]; simp
 have wc : blk (h u 0).v = some b := by rw [hv]; rfl
 have vR := r.ub u 0 b wV wc
 have mE := r.own u 0 b wV vR
 obtain ⟨rJ, Sk, k1, k2, k3, k4⟩ := IK wJ
 generalize hσ : σ.new u (σ.get u) (.box (Qz u 1 wF) :: YC qs wF) = σ2
 have sb : ∀ j, σ2.ob u j = YO (.box (Qz u 1 wF) :: YC qs wF) j := fun j => by rw [<- hσ, St.QE]; simp [wO]
 have uA : ∀ t j, t ≠ u -> σ2.ob t j = σ.ob t j := fun t j wE => by rw [<- hσ, St.QE, if_neg (fun hh => wE hh.1)]
 have vK : ∀ t, σ2.get t = σ.get t := by
  intro t
  rw [<- hσ, St.kS]
  split
  ·rename_i hh; rw [hh.1]
  ·rfl
 have hlen : σ2.length = σ.length := by rw [<- hσ, St.xq]
 let wR : Nat -> Hd := fun j => match j with | 0 => h u 0 | j + 1 => rJ j
 let h' : Nat -> Nat -> Hd := fun t j => if t = u then wR j else h t j
 have hT : ∀ k i v, Tof T0 X k i -> w.cell? ⟨k, i, none⟩ = some v -> w'.cell? ⟨k, i, none⟩ = some v /\ Tof T0 X k i := by
  intro k i v hk hc
  refine ⟨?_, hk⟩
  have wE : k ≠ b := by
   rintro rfl
   rcases hk with hk | hk
   ·exact mE.1 (r.hT _ _ hk)
   ·exact mE.2.1 hk
  have iC : ¬ M k := by
   intro nH
   rcases hk with hk | hk
   ·exact (hm k nH).1 (r.hT _ _ hk)
   ·exact (hm k nH).2.1 hk
  rw [World.cell?_of_block (hw k (r.Tlt hk) wE iC)]; exact hc
 have at_ : ∀ {x : At} {v : Value}, At.isO u x = false -> Z7 (Tof T0 X) h σ.ob w x v -> Z7 (Tof T0 X) h' σ2.ob w' x v := by
  intro x v pa rx
  cases x with
  | any => exact rx
  | d x => exact Rd.mono hT rx
  | nil s => exact rx
  | sref t j lo len =>
   have wE : t ≠ u := by simpa [At.isO] using pa
   simp only [Z7, h', if_neg wE, uA t j wE]; exact rx
  | ptr t j i c =>
   have wE : t ≠ u := by simpa [At.isO] using pa
   simp only [Z7, h', if_neg wE, uA t j wE]; exact rx
  | tref t j i c o =>
   have wE : t ≠ u := by simpa [At.isO] using pa
   simp only [Z7, h', if_neg wE, uA t j wE]; exact rx
  | bptr t c =>
   by_cases hc : t = u
   ·subst hc
    refine ⟨rx.1, fun wK _ => ?_⟩
    simp only [h', if_true, wR]; exact rx.2 _ ho
   ·simp only [Z7, h', if_neg hc, uA t 0 hc]; exact rx
  | fn f t =>
   by_cases hc : t = u
   ·subst hc
    refine ⟨rx.1, fun wK _ => ?_⟩
    simp only [h', if_true, wR]; exact rx.2 _ ho
   ·simp only [Z7, h', if_neg hc, uA t 0 hc]; exact rx
  | rptr rr c =>
   obtain ⟨b, off, g, e, hk⟩ := rx
   exact ⟨b, off, g, e, fun k d hd => ⟨(hT _ _ _ (hk k d hd).2.1 (hk k d hd).1).1, (hk k d hd).2.1, Rd.mono hT (hk k d hd).2.2⟩⟩
 have vL : ∀ j, YO (.box (Qz u 1 wF) :: YC qs wF) j ≠ .none -> j = 0 \/ ∃ i size rows, j = i + 1 /\ wF[i]? = some (.sl size rows) := by
  intro j hn
  cases j with
  | zero => exact .inl rfl
  | succ j =>
   rw [xo] at hn
   obtain ⟨size, rows, hj⟩ := (YV qs wF j hq).2 hn
   exact .inr ⟨j, size, rows, rfl, hj⟩
 have oZ : ∀ k, (h u 0).u k -> k < w.heap.size /\ ¬ M k /\ ¬ B k /\ ¬ X k := fun k hk => ⟨(r.own u 0 k wV hk).2.2, fun nH => (hm k nH).2.2 u 0 wV hk, (r.own u 0 k wV hk).1, (r.own u 0 k wV hk).2.1⟩
 have my : ∀ i size rows k, wF[i]? = some (.sl size rows) -> (rJ i).u k -> (w.heap.size <= k \/ M k) /\ k < w'.heap.size /\ k ≠ b := fun i size rows k hi hk => l0 k (k2 i k ((k4 i size rows hi).1 k hk))
 have oa : ∀ t j, t ≠ u -> σ.ob t j ≠ .none -> ∀ k, (h t j).u k -> w'.heap[k]? = w.heap[k]? := by
  intro t j wE hn k hk
  refine hw k (r.own t j k hn hk).2.2 ?_ (fun nH => (hm k nH).2.2 t j hn hk)
  rintro rfl
  exact wE (r.inj t j u 0 k hn wV hk vR).1
 refine ⟨X, h', by rw [r.size, hlen], r.defers, fun k hk => Nat.lt_of_lt_of_le (r.hB k hk) vV, fun k hk => ⟨(r.hX k hk).1, Nat.lt_of_lt_of_le (r.hX k hk).2 vV⟩, r.hT, fun t ht => ?_, fun t j => ?_, fun t j k hn hk => ?_, fun t j k hn hk => ?_, fun t j t' j' k hn wz hk vp => ?_⟩
 ·rw [hlen] at ht
  rw [vK]
  have hp : (σ.get t).J5 (At.isO u) = false := by have := St.RA rH t; rwa [St.Xp] at this
  exact Xs.map at_ hp (r.slot t ht)
 ·by_cases hc : t = u
  ·subst hc
   rw [sb]
   cases j with
   | zero =>
    simp only [h', if_true, wR, Lb]
    exact ⟨b, sa, e', hv, uj, VZ wJ.top (fun i size rows hi => by
     obtain ⟨q, tA, _⟩ := (YV qs wF i hq).1 size rows hi
     exact ⟨q, by rw [sb, Nat.add_comm, xo]; exact tA⟩) (fun i c hc => by simp only [if_true, Nat.add_comm 1 i]; exact k1 i c hc)⟩
   | succ j =>
    simp only [h', if_true, wR, xo]
    exact G9 hq (fun j size rows hj => (k4 j size rows hj).2.2) _ _ j
  ·rw [uA t j hc]
   simp only [h', if_neg hc]
   by_cases hn : σ.ob t j = .none
   ·rw [hn]; trivial
   ·have hp : KX (At.isO u) [σ.ob t j] = false := by
     have := St.OV rH t j
     rwa [St.kv, if_neg (fun hh => hc hh.1)] at this
    exact QP.map at_ hT (fun ho b => r.ub t j b ho) (fun hn k hk => oa t j hc hn k hk) hp (r.obj t j)
 ·by_cases hc : t = u
  ·subst hc
   rw [sb] at hn
   rcases vL j hn with rfl | ⟨i, size, rows, rfl, hi⟩
   ·simp only [h', if_true, wR] at hk ⊢; exact r.ub t 0 k wV hk
   ·simp only [h', if_true, wR] at hk ⊢; exact (k4 i size rows hi).2.1 k hk
  ·rw [uA t j hc] at hn
   simp only [h', if_neg hc] at hk ⊢; exact r.ub t j k hn hk
 ·by_cases hc : t = u
  ·subst hc
   rw [sb] at hn
   rcases vL j hn with rfl | ⟨i, size, rows, rfl, hi⟩
   ·simp only [h', if_true, wR] at hk
    have := oZ k hk; exact ⟨this.2.2.1, this.2.2.2, by omega⟩
   ·simp only [h', if_true, wR] at hk
    have := my i size rows k hi hk
    rcases this.1 with h1 | h1
    ·exact ⟨fun hb => by have := r.hB k hb; omega, fun hx => by have := (r.hX k hx).2; omega, this.2.1⟩
    ·exact ⟨(hm k h1).1, (hm k h1).2.1, this.2.1⟩
  ·rw [uA t j hc] at hn
   simp only [h', if_neg hc] at hk
   have := r.own t j k hn hk; exact ⟨this.1, this.2.1, by omega⟩
 ·have key : ∀ t j i k, t ≠ u -> σ.ob t j ≠ .none -> (h t j).u k -> YO (.box (Qz u 1 wF) :: YC qs wF) i ≠ .none -> (wR i).u k -> False := by
   intro t j i k wE hn hk wz vp
   rcases vL i wz with rfl | ⟨i, size, rows, rfl, hi⟩
   ·exact wE (r.inj t j u 0 k hn wV hk vp).1
   ·have h1 := my i size rows k hi vp
    have h2 := r.own t j k hn hk
    rcases h1.1 with h3 | h3
    ·omega
    ·exact (hm k h3).2.2 t j hn hk
  by_cases hc : t = u
  ·by_cases wv : t' = u
   ·subst hc; subst wv
    rw [sb] at hn wz
    simp only [h', if_true] at hk vp
    refine ⟨rfl, ?_⟩
    rcases vL j hn with rfl | ⟨i, size, rows, rfl, hi⟩
    ·rcases vL j' wz with rfl | ⟨i', wX, wS, rfl, vq⟩
     ·rfl
     ·have h1 := oZ k hk
      have h2 := my i' wX wS k vq vp
      rcases h2.1 with h3 | h3
      ·omega
      ·exact absurd h3 h1.2.1
    ·rcases vL j' wz with rfl | ⟨i', wX, wS, rfl, vq⟩
     ·have h1 := oZ k vp
      have h2 := my i size rows k hi hk
      rcases h2.1 with h3 | h3
      ·omega
      ·exact absurd h3 h1.2.1
     ·rw [k3 i i' k ((k4 i size rows hi).1 k hk) ((k4 i' wX wS vq).1 k vp)]
   ·subst hc
    rw [sb] at hn
    rw [uA t' j' wv] at wz
    simp only [h', if_true, if_neg wv] at hk vp
    exact (key t' j' j k wv wz vp hn hk).elim
  ·rw [uA t j hc] at hn
   simp only [h', if_neg hc] at hk
   by_cases wv : t' = u
   ·subst wv
    rw [sb] at wz
    simp only [h', if_true] at vp
    exact (key t j j' k hc hn hk wz vp).elim
   ·rw [uA t' j' wv] at wz
    simp only [h', if_neg wv] at vp
    exact r.inj t j t' j' k hn wz hk vp
end
end Go.Vm
namespace Go.Vm
open Go.RowKit
section
variable {P : Program} {T0 : CS} {B : Nat -> Prop} {σ : St} {a : Act} {w w' : World} {X X' : Nat -> Prop} {h : Nat -> Nat -> Hd}
theorem Gb {o : Oper} {c : Call} {t : Nat} {f : FuncId} {x : Value} (wA : o.op = .call c) (hc : c.callee = .value (.tmp t)) (hv : a.tmps.getD t undef = .func (.func f) #[] #[x]) (hf : WW P f = true) :
  (execOp a.eval o).run P w = .ok (.enter f (c.args.toList.map a.eval ++ [x]).toArray) w := by
 unfold WW at hf
 split at hf
 ·rename_i fn nI
  simp only [Bool.and_eq_true, bne_iff_ne, ne_eq] at hf
  obtain ⟨cd, hb⟩ := Option.isSome_iff_exists.1 hf.1
  obtain ⟨callee, args, tW⟩ := c
  simp only at hc; subst hc
  have hm : (args.toList.map a.eval ++ [x]).toArray = args.map a.eval ++ #[x] := by apply Array.toList_inj.1; simp
  have he : a.eval (.tmp t) = .func (.func f) #[] #[x] := hv
  rw [hm]
  simp [execOp, wA, resolve, he, Deferred.ofValue, invoke, callFunc, nI, hf.2, hb]
 ·cases hf
theorem HK (r : Rel T0 B σ a w X h) {o : Oper} {cl : Call} {f : FuncId} {tf u : Nat} {wQ : List (List D)} {row wF : List D} {cells : List At} (qs : List Bool) (wA : o.op = .call cl) (hc : cl.callee = .value (.tmp tf)) (hx : σ.get tf = .one (.fn f u)) (ho : σ.ob u 0 = .box cells) (wO : u < σ.length)
  (wI : Xg P σ cl.args.toList cl.argTypes.toList wQ) (wb : YI P σ cl.args.toList cl.argTypes.toList = true) (hs : Nz P f wQ row wF) (v9 : QR σ cells = some row) (uL : XS σ cells) (vB : (Ya cells).Nodup) (mv : (u, 0) ∉ Ya cells)
  (rH : ((σ.Z0 (Ya cells)).Zt u 0 .none).J5 (At.isO u) = false) (hq : Ke qs wF)
  {K : Act -> World -> Prop} {Q : Exit -> Act -> World -> Prop} (hK : ∀ a' w', QX T0 B (match o.dst with | some d => ((σ.Z0 (Ya cells)).new u (σ.get u) (.box (Qz u 1 wF) :: YC qs wF)).put d .any | none => (σ.Z0 (Ya cells)).new u (σ.get u) (.box (Qz u 1 wF) :: YC qs wF)) a' w' -> Yw B w w' -> K a' w') : o.wp P a w K Q := by
 have wV : σ.ob u 0 ≠ .none := by rw [ho]; simp
 have nI := r.get tf
 rw [hx] at nI
 obtain ⟨b, vW, hv⟩ := nI.2 _ ho
 have vL := r.obj u 0
 rw [ho] at vL
 obtain ⟨b2, cs, e, wm, hh, wG⟩ := vL
 rw [vW] at wm
 have uS : b2 = b := by injection wm with wm; injection wm with wm; injection wm with wm; exact wm.symm
 subst uS
 have vR := r.ub u 0 b2 wV (by rw [vW]; rfl)
 have wJ := r.own u 0 b2 wV vR
 have uX := r.Xg true wI (fun _ => wb)
 simp only [if_true] at uX
 have tN : ∀ k, JL σ h (Ya cells) k -> k < w.heap.size /\ k ≠ b2 := by
  rintro k ⟨p, hp, wE, hu⟩
  refine ⟨(r.own _ _ k wE hu).2.2, ?_⟩
  rintro rfl
  obtain ⟨e1, e2⟩ := r.inj p.1 p.2 u 0 k wE wV hu vR
  exact mv (by rw [<- e1, <- e2]; exact hp)
 have wj := r.zQ (Ya cells)
 have hT : ∀ k i, Tof T0 X k i -> k < w.heap.size /\ k ≠ b2 /\ ¬ JL σ h (Ya cells) k := by
  intro k i hk
  refine ⟨r.Tlt hk, ?_, fun hg => ?_⟩
  ·rintro rfl
   rcases hk with hk | hk
   ·exact wJ.1 (r.hT _ _ hk)
   ·exact wJ.2.1 hk
  ·rcases hk with hk | hk
   ·exact (wj k hg).1 (r.hT _ _ hk)
   ·exact (wj k hg).2.1 hk
 unfold Oper.wp
 rw [Gb wA hc hv hs.1, Oper.upon_enter]
 refine (hs.2 (Tof T0 X) (JL σ h (Ya cells)) w b2 _ hT tN wJ.2.2 ⟨cs, e, hh, Uw r wG v9 uL vB⟩ uX).mono ?_
 rintro e' w' ⟨rfl, wT, sa, e2, uj, w7⟩
 have r1 := r.Z0 (Ya cells)
 have lL : (σ.Z0 (Ya cells)).ob u 0 = .box cells := by rw [St.JM, if_neg mv, ho]
 have R := r1.Ct (w' := w') (wF := wF) (qs := qs) lL vW (by rw [St.JS]; exact wO) (JL σ h (Ya cells)) _ wT.size (fun k hk wE hg => wT.block k ⟨hk, wE, hg⟩) (fun k hk => ⟨(wj k hk).1, (wj k hk).2.1, (wj k hk).2.2.2⟩) rH hq uj w7 (fun k hk => ⟨hk.1.elim .inr (fun h1 => .inl h1.1), by
  rcases hk.1 with h1 | h1
  ·have := (tN k h1).1; have := wT.size; omega
  ·exact h1.2, hk.2⟩)
 rw [St.zJ] at R
 have mF : Yw B w w' := ⟨wT.os, wT.tape, wT.output, wT.size, fun k hk => wT.block k ⟨r.hB k hk, fun e => wJ.1 (e ▸ hk), fun hg => (wj k hg).1 hk⟩⟩
 cases hd : o.dst with
 | none =>
  rw [hd] at hK
  exact hK _ _ R mF
 | some d =>
  rw [hd] at hK
  obtain ⟨X2, h2, R2⟩ := R
  exact hK _ _ ⟨X2, h2, R2.put d .any _ trivial⟩ mF
theorem GV (r : Rel T0 B σ a w X h) {o : Oper} {f : FuncId} {x : Operand} {d t : Nat} (wA : o.op = .makeFunc (.func f) #[] #[x]) (hd : o.dst = some d) (hg : gOf (look P σ 0 x) = true) (hx : unc (look P σ 0 x) = .one (.bptr t 0)) {cells : List At} (ho : σ.ob t 0 = .box cells)
  {K : Act -> World -> Prop} {Q : Exit -> Act -> World -> Prop} (hK : ∀ a' w', QX T0 B (σ.put d (.one (.fn f t))) a' w' -> Yw B w w' -> K a' w') : o.wp P a w K Q := by
 have iB := r.arg (P := P) 0 x hx hg
 obtain ⟨b, vW, hv⟩ := iB.2 _ ho
 exact kY (v := .one (.fn f t)) r hd ⟨.func (.func f) #[] #[a.eval x], by simp [execOp, wA, Instr.makeFunc], ⟨rfl, fun wK _ => ⟨b, vW, by rw [hv]⟩⟩⟩ hK
end
section
variable {P : Program} {σ : St} {k : Fr}
theorem Ce {A : Qy} {o : OpI} {l : JW} {f : FuncId} {x : Operand} {d t : Nat} {cells : List At} (wA : o.o.op = .makeFunc (.func f) #[] #[x]) (te : o.o.guard = none) (hd : o.o.dst = some d) (wy : A.bar o.o = true) (hx : gOf (look P σ 0 x) = true /\ unc (look P σ 0 x) = .one (.bptr t 0)) (ho : σ.ob t 0 = .box cells)
  (h : @EI P (σ.put d (.one (.fn f t))) A l k) : @SI P σ A o l k := by
 refine ⟨_, .inr ⟨wy, ?_, fun d' wR wq => Rt (fun e => wR (by rw [hd, e])) wq, fun hh => by simp [V4, wA] at hh, fun hh => by first | (simp [jg, wA] at hh; done) | (unfold jg at hh; rw [wA] at hh; split at hh <;> simp_all), fun hh _ => by first | (simp [KG, wA] at hh; done) | (unfold KG at hh; rw [wA] at hh; split at hh <;> simp_all)⟩, QW h⟩
 rintro T0 B a w K Q' ⟨X, hh, r⟩ hK
 have hw : Region.wanted o.o (yielded A.ops a.tmps) = true := by simp [Region.wanted, te]
 rw [if_pos hw]
 exact GV r wA hd hx.1 hx.2 ho hK
theorem F6 {f : FuncId} {fn : Func} {c : Code} (hf : P.funcs[f]? = some fn) (hb : fn.body = some c) (we : WW P f = true) {args : List (List D)} {row wF : List D} (qs : List Bool) (hq : Ke qs row)
  (hw : ∀ v, @WI P (zP fn.ntmps args v (Qz args.length 1 row) (YC qs row) []) ⟨c⟩ (.fin (CX P fn args.length v wF))) : Nz P f args row wF := MQ hf hb we qs hq (fun v => jU (hw v))
theorem Co {fn : Func} {p : Nat} {v : Value} {wF : List D} {tW : List At} (hf : fn.results = #[]) (h : σ[p]? = some (.fix v (.one (.bptr p 0)), .box tW :: ((σ[p]?).map (fun e => e.2.tail)).getD []) /\ QR σ tW = some wF /\ XS σ tW /\ (Ya tW).Nodup) {e : Exit} (he : e = .ret \/ e = .normal) : CX P fn p v wF e σ :=
 ⟨he, by rw [hf]; rfl, tW, _, h.1, h.2.1, h.2.2.1, h.2.2.2⟩
theorem MB {A : Qy} {o : OpI} {l : JW} {cl : Call} {f : FuncId} {tf u : Nat} {wQ : List (List D)} {row wF : List D} {cells : List At} (qs : List Bool) (wA : o.o.op = .call cl) (hc : cl.callee = .value (.tmp tf)) (te : o.o.guard = none) (wy : A.bar o.o = true) (hs : Nz P f wQ row wF) (hx : σ.get tf = .one (.fn f u)) (ho : σ.ob u 0 = .box cells) (wO : u < σ.length)
  (wI : (Yp P σ cl.args.toList cl.argTypes.toList).1) (wP : (Yp P σ cl.args.toList cl.argTypes.toList).2 = some wQ) (wb : YI P σ cl.args.toList cl.argTypes.toList = true) (v9 : QR σ cells = some row) (uL : XS σ cells) (vB : (Ya cells).Nodup) (mv : (u, 0) ∉ Ya cells) (wq : Yx σ u = false)
  (rH : ((σ.Z0 (Ya cells)).Zt u 0 .none).J5 (At.isO u) = false) (hq : Ke qs wF)
  (h : @EI P (match o.o.dst with | some d => ((σ.Z0 (Ya cells)).new u (σ.get u) (.box (Qz u 1 wF) :: YC qs wF)).put d .any | none => (σ.Z0 (Ya cells)).new u (σ.get u) (.box (Qz u 1 wF) :: YC qs wF)) A l k) : @SI P σ A o l k := by
 refine ⟨_, .inr ⟨wy, ?_, fun d' wR wv => ?_, fun hh => by simp [V4, wA] at hh, fun hh => by first | (simp [jg, wA] at hh; done) | (unfold jg at hh; rw [wA] at hh; split at hh <;> simp_all), fun hh _ => by first | (simp [KG, wA] at hh; done) | (unfold KG at hh; rw [wA] at hh; split at hh <;> simp_all)⟩, QW h⟩
 ·rintro T0 B a w K Q' ⟨X, hh, r⟩ hK
  have hw : Region.wanted o.o (yielded A.ops a.tmps) = true := by simp [Region.wanted, te]
  rw [if_pos hw]
  exact HK r qs wA hc hx ho wO (zk wI wP) wb hs v9 uL vB mv rH hq hK
 ·have h1 := Wz (v := σ.get u) (os := .box (Qz u 1 wF) :: YC qs wF) (fun e => by rw [e, wq] at wv; cases wv) (QD (l := Ya cells) wv)
  cases hd : o.o.dst with
  | none => exact h1
  | some d => exact Rt (fun e => wR (by rw [hd, e])) h1
end
attribute [simp] zP Cf At.isO
end Go.Vm
namespace Go.Vm
open Go.RowKit
section
variable {P : Program} {σ : St} {k : Fr}
end
end Go.Vm
namespace Go.Vm
open Go.RowKit
section
variable {P : Program} {σ : St} {k : Fr}
theorem cR {A : Qy} {o : OpI} {l : JW} {c : Call} {f : FuncId} {d : Nat} {own : Bool} {rows res : List (List D)} (hs : Xm P f own rows res) (h : @EI P (σ.put d (zx res)) A l k) (wA : o.o.op = .call c := by exact rfl) (hc : c.callee = .value (.func f) := by exact rfl) (hg : o.o.guard = none := by exact rfl) (hd : o.o.dst = some d := by exact rfl)
  (wP : (Yp P σ c.args.toList c.argTypes.toList).2 = some rows := by simp) (wI : (Yp P σ c.args.toList c.argTypes.toList).1 := by simp) (wb : YI P σ c.args.toList c.argTypes.toList = true \/ Qn own res := by simp) : @SI P σ A o l k :=
 OY wA hc hg hd hs wP wI wb h
theorem cD {A : Qy} {o : OpI} {l : JW} {c : Call} {f : FuncId} {d : Nat} {rows res : List (List D)} (qs : List Bool) (hs : YN P f rows res) (h : @EI P (σ.new d (yh d res) (YC qs res.flatten)) A l k) (wA : o.o.op = .call c := by exact rfl) (hc : c.callee = .value (.func f) := by exact rfl) (hg : o.o.guard = none := by exact rfl) (hd : o.o.dst = some d := by exact rfl)
  (wP : (Yp P σ c.args.toList c.argTypes.toList).2 = some rows := by simp) (wI : (Yp P σ c.args.toList c.argTypes.toList).1 := by simp) (hq : Ke qs res.flatten := by simp) (hf : σ.fresh d = true := by simp) : @SI P σ A o l k := IQ qs wA hc hg hd hs wP wI hq hf h
theorem cC {b : Bool} {x y : K0} (c : Bool) (ht : qi σ -> c = true -> @WI P σ x k) (hf : qi σ -> c = false -> @WI P σ y k) (hc : c = b := by simp) : @CI P b σ x y k := Su hc ht hf
end
section
variable {P : Program} {σ : St} {k : Fr}
end
@[simp] abbrev eI (t : Nat) (n : Int) : Nat × V × List Ob := (t, .one (.d (.int .i64 n)), [])
@[simp] abbrev eB (t : Nat) (b : Bool) : Nat × V × List Ob := (t, .one (.d (.bool b)), [])
@[simp] abbrev eL {α : Type} (t s : Nat) (l : List α) (f : α -> List D) : Nat × V × List Ob := (t, .one (.d (.sl s (l.map f))), [])
@[simp] abbrev eP (t u c : Nat) : Nat × V × List Ob := (t, .one (.bptr u c), [])
@[simp] abbrev eG (t : Nat) (xs : List At) : Nat × V × List Ob := (t, .agg xs, [])
@[simp] abbrev eX (t : Nat) (xs : List At) : Nat × V × List Ob := (t, .one (.bptr t 0), [.box xs])
end Go.Vm
namespace Go.Vm
open Go.RowKit
structure Me {α : Type} (x y : α) : Prop where
 h : x = y
structure Bx (p : Prop) : Prop where
 h : p
theorem me {α : Type} {x y : α} (h : x = y) : Me x y := ⟨h⟩
theorem ms {α β : Type} {x y y' : α} {l r : β} (f : Me x y) (e : Me l r) (h : l = r -> y = y' := by intro e; simp only [e]; exact rfl) : Me x y' := ⟨f.h.trans (h e.h)⟩
theorem an {p q : Prop} (h : p) (k : q) : p /\ q := ⟨h, k⟩
theorem ix {α : Type} {v : Nat} {l : List α} (h : decide ((v : Int) < (l.length : Int)) = true) : v < l.length := by simpa using h
theorem ml {α : Type} {q : Prop} (l : List α) (m : q) (h : q -> l.length <= 9223372036854775807 := by intro m; simpa using m) : l.length <= 9223372036854775807 := h m
theorem wr (n : Nat) (h : (n : Int) + 1 <= 9223372036854775807 := by first | omega | (simp only [decide_eq_true_eq, decide_eq_false_iff_not, beq_iff_eq, beq_eq_false_iff_ne, bne_iff_ne, ne_eq, Bool.or_eq_false_iff, Bool.or_eq_true, Bool.and_eq_true, Bool.not_eq_true', Bool.not_eq_false'] at *; omega)) : IntKind.i64.wrap ((n : Int) + 1) = (n : Int) + 1 := YW (by omega) (by omega)
section
variable {P : Program} {σ : St} {k : Fr}
theorem so {f : FuncId} {fn : Func} {n : Nat} {own : Bool} {args res : List (List D)} {p : Prop} (hf : P.funcs[f]? = some fn) (hn : fn.ntmps = n) (h : p) {c : Code} (hb : fn.body = some c := by exact rfl) (we : WW P f = true := by kernel_rfl)
  (kk : Bx p -> @WI P (yu n args) ⟨c⟩ (.fin (I9 P fn own res)) := by (intro z; simp; (repeat (with_reducible refine Go.Mo.sd ?_)); exact z.h)) : Xm P f own args res := DF hf hb we (by rw [hn]; exact kk ⟨h⟩)
theorem soD {f : FuncId} {fn : Func} {n : Nat} {args res : List (List D)} {p : Prop} (hf : P.funcs[f]? = some fn) (hn : fn.ntmps = n) (h : p) {c : Code} (hb : fn.body = some c := by exact rfl) (we : WW P f = true := by kernel_rfl)
  (kk : Bx p -> @WI P (yu n args) ⟨c⟩ (.fin (Fs P fn res)) := by (intro z; simp; (repeat (with_reducible refine Go.Mo.sd ?_)); exact z.h)) : YN P f args res := F5 hf hb we (by rw [hn]; exact kk ⟨h⟩)
theorem cF {α : Type} {u y z : α} {b c : Bool} {xc yc : K0} {p q : Prop} (f : Me u (bif c then y else z)) (ht : qi σ -> c = true -> Me u y -> p) (hf : qi σ -> c = false -> Me u z -> q) (hc : c = b := by simp) (kt : Bx p -> @WI P σ xc k := by (intro z; simp; (repeat (with_reducible refine Go.Mo.sd ?_)); exact z.h)) (kf : Bx q -> @WI P σ yc k := by (intro z; simp; (repeat (with_reducible refine Go.Mo.sd ?_)); exact z.h)) : @CI P b σ xc yc k :=
 Su hc (fun s h => kt ⟨(ht s h ⟨f.h.trans (by rw [h]; rfl)⟩)⟩) (fun s h => kf ⟨(hf s h ⟨f.h.trans (by rw [h]; rfl)⟩)⟩)
theorem cFt {α : Type} {u y z : α} {b c : Bool} {xc yc : K0} {p : Prop} (f : Me u (bif c then y else z)) (ht : qi σ -> c = true -> Me u y -> p) (hf : qi σ -> c = false -> Me u z -> @WI P σ yc k) (hc : c = b := by simp) (kt : Bx p -> @WI P σ xc k := by (intro z; simp; (repeat (with_reducible refine Go.Mo.sd ?_)); exact z.h)) : @CI P b σ xc yc k :=
 Su hc (fun s h => kt ⟨(ht s h ⟨f.h.trans (by rw [h]; rfl)⟩)⟩) (fun s h => (hf s h ⟨f.h.trans (by rw [h]; rfl)⟩))
theorem cFf {α : Type} {u y z : α} {b c : Bool} {xc yc : K0} {q : Prop} (f : Me u (bif c then y else z)) (ht : qi σ -> c = true -> Me u y -> @WI P σ xc k) (hf : qi σ -> c = false -> Me u z -> q) (hc : c = b := by simp) (kf : Bx q -> @WI P σ yc k := by (intro z; simp; (repeat (with_reducible refine Go.Mo.sd ?_)); exact z.h)) : @CI P b σ xc yc k :=
 Su hc (fun s h => (ht s h ⟨f.h.trans (by rw [h]; rfl)⟩)) (fun s h => kf ⟨(hf s h ⟨f.h.trans (by rw [h]; rfl)⟩)⟩)
theorem cFo {α : Type} {u y z : α} {b c : Bool} {xc yc : K0} (f : Me u (bif c then y else z)) (ht : qi σ -> c = true -> Me u y -> @WI P σ xc k) (hf : qi σ -> c = false -> Me u z -> @WI P σ yc k) (hc : c = b := by simp) : @CI P b σ xc yc k :=
 Su hc (fun s h => (ht s h ⟨f.h.trans (by rw [h]; rfl)⟩)) (fun s h => (hf s h ⟨f.h.trans (by rw [h]; rfl)⟩))
theorem cK {α : Type} {u y z : α} {b c : Bool} {xc yc : K0} {p q : Prop} (f : Me u (bif c then y else z)) (ht : qi σ -> c = true -> Me u y -> p) (hf : qi σ -> c = false -> Me u z -> q) (hc : c = b := by first | (simp [G]; done) | grind) (kt : Bx p -> @WI P σ xc k := by (intro z; simp [G, Go.Vm.ZC]; (repeat (with_reducible refine Go.Mo.sdg ?_)); exact z.h)) (kf : Bx q -> @WI P σ yc k := by (intro z; simp [G, Go.Vm.ZC]; (repeat (with_reducible refine Go.Mo.sdg ?_)); exact z.h)) : @CI P b σ xc yc k :=
 Su hc (fun s h => kt ⟨(ht s h ⟨f.h.trans (by rw [h]; rfl)⟩)⟩) (fun s h => kf ⟨(hf s h ⟨f.h.trans (by rw [h]; rfl)⟩)⟩)
theorem cKt {α : Type} {u y z : α} {b c : Bool} {xc yc : K0} {p : Prop} (f : Me u (bif c then y else z)) (ht : qi σ -> c = true -> Me u y -> p) (hf : qi σ -> c = false -> Me u z -> @WI P σ yc k) (hc : c = b := by first | (simp [G]; done) | grind) (kt : Bx p -> @WI P σ xc k := by (intro z; simp [G, Go.Vm.ZC]; (repeat (with_reducible refine Go.Mo.sdg ?_)); exact z.h)) : @CI P b σ xc yc k :=
 Su hc (fun s h => kt ⟨(ht s h ⟨f.h.trans (by rw [h]; rfl)⟩)⟩) (fun s h => (hf s h ⟨f.h.trans (by rw [h]; rfl)⟩))
theorem cKo {α : Type} {u y z : α} {b c : Bool} {xc yc : K0} (f : Me u (bif c then y else z)) (ht : qi σ -> c = true -> Me u y -> @WI P σ xc k) (hf : qi σ -> c = false -> Me u z -> @WI P σ yc k) (hc : c = b := by first | (simp [G]; done) | grind) : @CI P b σ xc yc k :=
 Su hc (fun s h => (ht s h ⟨f.h.trans (by rw [h]; rfl)⟩)) (fun s h => (hf s h ⟨f.h.trans (by rw [h]; rfl)⟩))
theorem cY {c b : Bool} {xc yc : K0} {p : Prop} (h : c = true) (kk : p) (hc : c = b := by simp) (kt : Bx p -> @WI P σ xc k := by (intro z; simp; (repeat (with_reducible refine Go.Mo.sd ?_)); exact z.h)) : @CI P b σ xc yc k := Su hc (fun _ g => kt ⟨kk⟩) (fun _ g => absurd (h.symm.trans g) (by decide))
theorem cRg {A : Qy} {o : OpI} {l : JW} {c : Call} {f : FuncId} {d : Nat} {own : Bool} {rows res : List (List D)} {p : Prop} (hs : Xm P f own rows res) (h : p) (wA : o.o.op = .call c := by exact rfl) (hc : c.callee = .value (.func f) := by exact rfl) (hg : o.o.guard = none := by exact rfl) (hd : o.o.dst = some d := by exact rfl) (wP : (Yp P σ c.args.toList c.argTypes.toList).2 = some rows := by simp) (wI : (Yp P σ c.args.toList c.argTypes.toList).1 := by simp) (wb : YI P σ c.args.toList c.argTypes.toList = true \/ Qn own res := by simp) (kk : Bx p -> @EI P (σ.put d (zx res)) A l k := by (intro z; simp [G, Go.Vm.ZC]; (repeat (with_reducible refine Go.Mo.sdg ?_)); exact z.h)) : @SI P σ A o l k := OY wA hc hg hd hs wP wI wb (kk ⟨h⟩)
theorem cRs {A : Qy} {o : OpI} {l : JW} {c : Call} {f : FuncId} {d : Nat} {own : Bool} {rows res : List (List D)} {p : Prop} (hs : Xm P f own rows res) (h : p) (wA : o.o.op = .call c := by exact rfl) (hc : c.callee = .value (.func f) := by exact rfl) (hg : o.o.guard = none := by exact rfl) (hd : o.o.dst = some d := by exact rfl) (wP : (Yp P σ c.args.toList c.argTypes.toList).2 = some rows := by simp) (wI : (Yp P σ c.args.toList c.argTypes.toList).1 := by simp) (wb : YI P σ c.args.toList c.argTypes.toList = true \/ Qn own res := by simp) (kk : Bx p -> @EI P (σ.put d (zx res)) A l k := by (intro z; simp; (repeat (with_reducible refine Go.Mo.sd ?_)); exact z.h)) : @SI P σ A o l k := OY wA hc hg hd hs wP wI wb (kk ⟨h⟩)
theorem cRf {A : Qy} {o : OpI} {l : JW} {c : Call} {f : FuncId} {d : Nat} {own : Bool} {rows res : List (List D)} {p q : Prop} (F : q) (hs : Xm P f own rows res) (h : p) (wA : o.o.op = .call c := by exact rfl) (hc : c.callee = .value (.func f) := by exact rfl) (hg : o.o.guard = none := by exact rfl) (hd : o.o.dst = some d := by exact rfl) (wP : (Yp P σ c.args.toList c.argTypes.toList).2 = some rows := by simp) (wI : (Yp P σ c.args.toList c.argTypes.toList).1 := by simp) (wb : YI P σ c.args.toList c.argTypes.toList = true \/ Qn own res := by simp) (kk : q -> Bx p -> @EI P (σ.put d (zx res)) A l k := by (intro F z; simp [F, Go.Vm.ZC]; (repeat (with_reducible refine Go.Mo.sd ?_)); exact z.h)) : @SI P σ A o l k := OY wA hc hg hd hs wP wI wb (kk F ⟨h⟩)
theorem cOs {A : Qy} {o : OpI} {l : JW} {c : Call} {f : FuncId} {d : Nat} {rows res : List (List D)} {p : Prop} (hs : Xm P f true rows res) (h : p) (wA : o.o.op = .call c := by exact rfl) (hc : c.callee = .value (.func f) := by exact rfl) (hg : o.o.guard = none := by exact rfl) (hd : o.o.dst = some d := by exact rfl) (wP : (Yp P σ c.args.toList c.argTypes.toList).2 = some rows := by simp) (wI : (Yp P σ c.args.toList c.argTypes.toList).1 := by simp) (wb : YI P σ c.args.toList c.argTypes.toList = true \/ Qn true res := by simp) (hf : σ.fresh d = true := by simp) (kk : Bx p -> @EI P (σ.new d (yh d res) (Kv res.flatten)) A l k := by (intro z; simp; (repeat (with_reducible refine Go.Mo.sd ?_)); exact z.h)) : @SI P σ A o l k := En wA hc hg hd hs wP wI wb hf (kk ⟨h⟩)
theorem cDg {A : Qy} {o : OpI} {l : JW} {c : Call} {f : FuncId} {d : Nat} {rows res : List (List D)} {p : Prop} (qs : List Bool) (hs : YN P f rows res) (h : p) (wA : o.o.op = .call c := by exact rfl) (hc : c.callee = .value (.func f) := by exact rfl) (hg : o.o.guard = none := by exact rfl) (hd : o.o.dst = some d := by exact rfl) (wP : (Yp P σ c.args.toList c.argTypes.toList).2 = some rows := by simp) (wI : (Yp P σ c.args.toList c.argTypes.toList).1 := by simp) (hq : Ke qs res.flatten := by simp [-Bool.exists_bool, -Bool.forall_bool]) (hf : σ.fresh d = true := by simp) (kk : Bx p -> @EI P (σ.new d (yh d res) (YC qs res.flatten)) A l k := by (intro z; simp [G, Go.Vm.ZC]; (repeat (with_reducible refine Go.Mo.sdg ?_)); exact z.h)) : @SI P σ A o l k := IQ qs wA hc hg hd hs wP wI hq hf (kk ⟨h⟩)
theorem cDs {A : Qy} {o : OpI} {l : JW} {c : Call} {f : FuncId} {d : Nat} {rows res : List (List D)} {p : Prop} (qs : List Bool) (hs : YN P f rows res) (h : p) (wA : o.o.op = .call c := by exact rfl) (hc : c.callee = .value (.func f) := by exact rfl) (hg : o.o.guard = none := by exact rfl) (hd : o.o.dst = some d := by exact rfl) (wP : (Yp P σ c.args.toList c.argTypes.toList).2 = some rows := by simp) (wI : (Yp P σ c.args.toList c.argTypes.toList).1 := by simp) (hq : Ke qs res.flatten := by simp [-Bool.exists_bool, -Bool.forall_bool]) (hf : σ.fresh d = true := by simp) (kk : Bx p -> @EI P (σ.new d (yh d res) (YC qs res.flatten)) A l k := by (intro z; simp; (repeat (with_reducible refine Go.Mo.sd ?_)); exact z.h)) : @SI P σ A o l k := IQ qs wA hc hg hd hs wP wI hq hf (kk ⟨h⟩)
theorem cDf {A : Qy} {o : OpI} {l : JW} {c : Call} {f : FuncId} {d : Nat} {rows res : List (List D)} {p q : Prop} (F : q) (qs : List Bool) (hs : YN P f rows res) (h : p) (wA : o.o.op = .call c := by exact rfl) (hc : c.callee = .value (.func f) := by exact rfl) (hg : o.o.guard = none := by exact rfl) (hd : o.o.dst = some d := by exact rfl) (wP : (Yp P σ c.args.toList c.argTypes.toList).2 = some rows := by simp) (wI : (Yp P σ c.args.toList c.argTypes.toList).1 := by simp) (hq : Ke qs res.flatten := by simp [-Bool.exists_bool, -Bool.forall_bool]) (hf : σ.fresh d = true := by simp) (kk : q -> Bx p -> @EI P (σ.new d (yh d res) (YC qs res.flatten)) A l k := by (intro F z; simp [F, Go.Vm.ZC]; (repeat (with_reducible refine Go.Mo.sd ?_)); exact z.h)) : @SI P σ A o l k := IQ qs wA hc hg hd hs wP wI hq hf (kk F ⟨h⟩)
theorem cGo {A : Qy} {o : OpI} {l : JW} {c : Call} {f : FuncId} {d : Nat} {j dj : Nat} {want g own : Bool} {rows : List (List D)} {res : List D} (hs : g = true -> Xm P f own rows [res]) (h : @EI P (σ.put d (.cnd g (zx [res]))) A l k) (wA : o.o.op = .call c := by exact rfl) (hc : c.callee = .value (.func f) := by exact rfl) (hg : o.o.guard = some (j, want) := by exact rfl) (hd : o.o.dst = some d := by exact rfl) (vo : (A.ops[j]?).bind (·.dst) = some dj := by exact rfl) (vx : z6 want (σ.get dj) = some g := by exact rfl) (wP : (Yp P σ c.args.toList c.argTypes.toList).2 = some rows := by first | (simp; done) | (simp [G]; done) | (simp [G]; omega) | (simp_all; done)) (wO : dj < σ.length := by first | (simp; done) | (simp [G]; done) | (simp [G]; omega) | (simp_all; done)) (wI : g = true -> (Yp P σ c.args.toList c.argTypes.toList).1 := by first | (simp; done) | (simp [G]; done) | (simp [G]; omega) | (simp_all; done)) (wb : YI P σ c.args.toList c.argTypes.toList = true \/ Qn own [res] := by first | (simp; done) | (simp [G]; done) | (simp [G]; omega) | (simp_all; done)) : @SI P σ A o l k := L7 wA hc hg hd vo vx hs wP wO wI wb h
theorem cGg {A : Qy} {o : OpI} {l : JW} {c : Call} {f : FuncId} {d : Nat} {j dj : Nat} {want g own : Bool} {rows : List (List D)} {res : List D} {p : Prop} (hs : g = true -> Xm P f own rows [res]) (h : p) (wA : o.o.op = .call c := by exact rfl) (hc : c.callee = .value (.func f) := by exact rfl) (hg : o.o.guard = some (j, want) := by exact rfl) (hd : o.o.dst = some d := by exact rfl) (vo : (A.ops[j]?).bind (·.dst) = some dj := by exact rfl) (vx : z6 want (σ.get dj) = some g := by exact rfl) (wP : (Yp P σ c.args.toList c.argTypes.toList).2 = some rows := by first | (simp; done) | (simp [G]; done) | (simp [G]; omega) | (simp_all; done)) (wO : dj < σ.length := by first | (simp; done) | (simp [G]; done) | (simp [G]; omega) | (simp_all; done)) (wI : g = true -> (Yp P σ c.args.toList c.argTypes.toList).1 := by first | (simp; done) | (simp [G]; done) | (simp [G]; omega) | (simp_all; done)) (wb : YI P σ c.args.toList c.argTypes.toList = true \/ Qn own [res] := by first | (simp; done) | (simp [G]; done) | (simp [G]; omega) | (simp_all; done)) (kk : Bx p -> @EI P (σ.put d (.cnd g (zx [res]))) A l k := by (intro z; simp [G, Go.Vm.ZC]; (repeat (with_reducible refine Go.Mo.sdg ?_)); exact z.h)) : @SI P σ A o l k := L7 wA hc hg hd vo vx hs wP wO wI wb (kk ⟨h⟩)
theorem cGs {A : Qy} {o : OpI} {l : JW} {c : Call} {f : FuncId} {d : Nat} {j dj : Nat} {want g own : Bool} {rows : List (List D)} {res : List D} {p : Prop} (hs : g = true -> Xm P f own rows [res]) (h : p) (wA : o.o.op = .call c := by exact rfl) (hc : c.callee = .value (.func f) := by exact rfl) (hg : o.o.guard = some (j, want) := by exact rfl) (hd : o.o.dst = some d := by exact rfl) (vo : (A.ops[j]?).bind (·.dst) = some dj := by exact rfl) (vx : z6 want (σ.get dj) = some g := by exact rfl) (wP : (Yp P σ c.args.toList c.argTypes.toList).2 = some rows := by simp) (wO : dj < σ.length := by simp) (wI : g = true -> (Yp P σ c.args.toList c.argTypes.toList).1 := by simp) (wb : YI P σ c.args.toList c.argTypes.toList = true \/ Qn own [res] := by simp) (kk : Bx p -> @EI P (σ.put d (.cnd g (zx [res]))) A l k := by (intro z; simp; (repeat (with_reducible refine Go.Mo.sd ?_)); exact z.h)) : @SI P σ A o l k := L7 wA hc hg hd vo vx hs wP wO wI wb (kk ⟨h⟩)
theorem cBo {A : Qy} {o : OpI} {l : JW} {cl : Call} {f : FuncId} {d : Nat} {x0 : Operand} {xs : List Operand} {t0 : TypeId} {ts : List TypeId} {wQ res : List (List D)} {row wF : List D} {dp : Bool} {t : Nat} (qs : List Bool) (hs : Ka P f dp row wQ wF res) (h : @EI P (HM dp (σ.Zt t 0 (.box (wF.map .d))) d res qs) A l k) (wA : o.o.op = .call cl := by exact rfl) (hc : cl.callee = .value (.func f) := by exact rfl) (te : o.o.guard = none := by exact rfl) (hd : o.o.dst = some d := by exact rfl) (wy : A.bar o.o = true := by exact rfl) (ha : cl.args.toList = x0 :: xs := by exact rfl) (uh : cl.argTypes.toList = t0 :: ts := by exact rfl) (hx : gOf (look P σ t0 x0) = true /\ unc (look P σ t0 x0) = .one (.bptr t 0) := by exact ⟨rfl, rfl⟩) (ho : σ.ob t 0 = .box (row.map .d) := by simp) (wI : (Yp P σ xs ts).1 := by simp) (wP : (Yp P σ xs ts).2 = some wQ := by simp) (wb : YI P σ xs ts = true := by simp) (w8 : dp = true -> (σ.Zt t 0 (.box (wF.map .d))).fresh d = true /\ Ke qs res.flatten := by simp [-Bool.exists_bool, -Bool.forall_bool]) : @SI P σ A o l k := D2 qs wA hc te hd wy ha uh hs hx ho wI wP wb w8 h
theorem cBs {A : Qy} {o : OpI} {l : JW} {cl : Call} {f : FuncId} {d : Nat} {x0 : Operand} {xs : List Operand} {t0 : TypeId} {ts : List TypeId} {wQ res : List (List D)} {row wF : List D} {dp : Bool} {t : Nat} {p : Prop} (qs : List Bool) (hs : Ka P f dp row wQ wF res) (h : p) (wA : o.o.op = .call cl := by exact rfl) (hc : cl.callee = .value (.func f) := by exact rfl) (te : o.o.guard = none := by exact rfl) (hd : o.o.dst = some d := by exact rfl) (wy : A.bar o.o = true := by exact rfl) (ha : cl.args.toList = x0 :: xs := by exact rfl) (uh : cl.argTypes.toList = t0 :: ts := by exact rfl) (hx : gOf (look P σ t0 x0) = true /\ unc (look P σ t0 x0) = .one (.bptr t 0) := by exact ⟨rfl, rfl⟩) (ho : σ.ob t 0 = .box (row.map .d) := by simp) (wI : (Yp P σ xs ts).1 := by simp) (wP : (Yp P σ xs ts).2 = some wQ := by simp) (wb : YI P σ xs ts = true := by simp) (w8 : dp = true -> (σ.Zt t 0 (.box (wF.map .d))).fresh d = true /\ Ke qs res.flatten := by simp [-Bool.exists_bool, -Bool.forall_bool]) (kk : Bx p -> @EI P (HM dp (σ.Zt t 0 (.box (wF.map .d))) d res qs) A l k := by (intro z; simp; (repeat (with_reducible refine Go.Mo.sd ?_)); exact z.h)) : @SI P σ A o l k := D2 qs wA hc te hd wy ha uh hs hx ho wI wP wb w8 (kk ⟨h⟩)
theorem cNs {A : Qy} {o : OpI} {l : JW} {cl : Call} {f : FuncId} {d : Nat} {wQ : List (List D)} {wF : List D} {p : Prop} (hs : Rp P f wQ wF) (h : p) (wA : o.o.op = .call cl := by exact rfl) (hc : cl.callee = .value (.func f) := by exact rfl) (te : o.o.guard = none := by exact rfl) (hd : o.o.dst = some d := by exact rfl) (wy : A.bar o.o = true := by exact rfl) (wI : (Yp P σ cl.args.toList cl.argTypes.toList).1 := by simp) (wP : (Yp P σ cl.args.toList cl.argTypes.toList).2 = some wQ := by simp) (wb : YI P σ cl.args.toList cl.argTypes.toList = true := by simp) (w8 : σ.fresh d = true := by simp) (tR : KG P o.o = false := by exact rfl) (kk : Bx p -> @EI P (σ.new d (.one (.bptr d 0)) [.box (wF.map .d)]) A l k := by (intro z; simp; (repeat (with_reducible refine Go.Mo.sd ?_)); exact z.h)) : @SI P σ A o l k := C1 wA hc te hd wy hs wI wP wb w8 (kk ⟨h⟩) tR
theorem dIo {id : Nat} {l : List Oper} {br : Oper -> Bool} (hm : P.follows .mixedOrders = true) (h : @EI P σ ⟨⟨l⟩, fun _ => false⟩ ⟨l⟩ k) (hdr : SO P ⟨l⟩ (fun i => i) (fun _ => false) = true := by kernel_rfl) (wq : K9 ⟨l⟩ (fun i => i) σ = true := by kernel_rfl) : @DI P id σ ⟨⟨l⟩, br⟩ k := Eg hm hdr wq h
theorem dIg {id : Nat} {l : List Oper} {br : Oper -> Bool} {p : Prop} (hm : P.follows .mixedOrders = true) (h : p) (hdr : SO P ⟨l⟩ (fun i => i) (fun _ => false) = true := by kernel_rfl) (wq : K9 ⟨l⟩ (fun i => i) σ = true := by kernel_rfl) (kk : Bx p -> @EI P σ ⟨⟨l⟩, fun _ => false⟩ ⟨l⟩ k := by (intro z; simp [G, Go.Vm.ZC]; (repeat (with_reducible refine Go.Mo.sdg ?_)); exact z.h)) : @DI P id σ ⟨⟨l⟩, br⟩ k := Eg hm hdr wq (kk ⟨h⟩)
theorem dIs {id : Nat} {l : List Oper} {br : Oper -> Bool} {p : Prop} (hm : P.follows .mixedOrders = true) (h : p) (hdr : SO P ⟨l⟩ (fun i => i) (fun _ => false) = true := by kernel_rfl) (wq : K9 ⟨l⟩ (fun i => i) σ = true := by kernel_rfl) (kk : Bx p -> @EI P σ ⟨⟨l⟩, fun _ => false⟩ ⟨l⟩ k := by (intro z; simp; (repeat (with_reducible refine Go.Mo.sd ?_)); exact z.h)) : @DI P id σ ⟨⟨l⟩, br⟩ k := Eg hm hdr wq (kk ⟨h⟩)
theorem eIs {A : Qy} {o : OpI} {l : JW} {d : Nat} {p : Prop}  (h : p) (hp : IM o.o = true := by exact rfl) (hg : o.o.guard = none := by exact rfl) (hd : o.o.dst = some d := by exact rfl) (kk : Bx p -> (evS P σ o.o d).1 /\ @EI P (evS P σ o.o d).2 A l k := by (intro z; simp; (repeat (with_reducible refine Go.Mo.sd ?_)); exact z.h)) : @SI P σ A o l k := evI hp hg hd (kk ⟨h⟩)
theorem sGo {A : Qy} {o : OpI} {l : JW} {j dj d : Nat} {want g : Bool}  (h : @EI P (σ.put d (.cnd false .any)) A l k) (hg : o.o.guard = some (j, want) := by exact rfl) (hd : o.o.dst = some d := by exact rfl) (vo : (A.ops[j]?).bind (·.dst) = some dj := by exact rfl) (vx : z6 want (σ.get dj) = some g := by exact rfl) (wO : dj < σ.length := by simp) (nv : g = false := by simp [G]) : @SI P σ A o l k := Dy hg hd vo vx wO nv h
theorem sGg {A : Qy} {o : OpI} {l : JW} {j dj d : Nat} {want g : Bool} {p : Prop}  (h : p) (hg : o.o.guard = some (j, want) := by exact rfl) (hd : o.o.dst = some d := by exact rfl) (vo : (A.ops[j]?).bind (·.dst) = some dj := by exact rfl) (vx : z6 want (σ.get dj) = some g := by exact rfl) (wO : dj < σ.length := by simp) (nv : g = false := by simp [G]) (kk : Bx p -> @EI P (σ.put d (.cnd false .any)) A l k := by (intro z; simp [G, Go.Vm.ZC]; (repeat (with_reducible refine Go.Mo.sdg ?_)); exact z.h)) : @SI P σ A o l k := Dy hg hd vo vx wO nv (kk ⟨h⟩)
theorem gIf {A : Qy} {o : OpI} {l : JW} {j dj d : Nat} {want g : Bool} {r1 r2 : Prop} {q : Prop} (ht : r1 -> ((evV P σ o.o.op o.o.type).1 /\ gOf (evV P σ o.o.op o.o.type).2 = true /\ (unc (evV P σ o.o.op o.o.type).2).flat = true) /\ @EI P (σ.put d (.cnd true (unc (evV P σ o.o.op o.o.type).2))) A l k) (hf : r2 -> q) (wA : Rx o.o.op = false := by exact rfl) (hg : o.o.guard = some (j, want) := by exact rfl) (hd : o.o.dst = some d := by exact rfl) (vo : (A.ops[j]?).bind (·.dst) = some dj := by exact rfl) (vx : z6 want (σ.get dj) = some g := by exact rfl) (wO : dj < σ.length := by simp) (k1 : g = true -> r1 := by (intro h; (try simp only [beq_true, beq_false, Bool.not_eq_true', Bool.not_eq_false', Bool.true_and, Bool.and_true] at h); exact h)) (k2 : g = false -> r2 := by (intro h; (try simp only [beq_true, beq_false, Bool.not_eq_true', Bool.not_eq_false', Bool.true_and, Bool.and_true] at h); exact h)) (kf : r2 -> Bx q -> @EI P (σ.put d (.cnd false .any)) A l k := by (intro G z; simp [G, Go.Vm.ZC]; (repeat (with_reducible refine Go.Mo.sdg ?_)); exact z.h)) : @SI P σ A o l k := NU wA hg hd vo vx wO (fun h => ht (k1 h)) (fun h => (fun G => kf G ⟨hf G⟩) (k2 h))
theorem gIo {A : Qy} {o : OpI} {l : JW} {j dj d : Nat} {want g : Bool} {r1 r2 : Prop} (ht : r1 -> ((evV P σ o.o.op o.o.type).1 /\ gOf (evV P σ o.o.op o.o.type).2 = true /\ (unc (evV P σ o.o.op o.o.type).2).flat = true) /\ @EI P (σ.put d (.cnd true (unc (evV P σ o.o.op o.o.type).2))) A l k) (hf : r2 -> @EI P (σ.put d (.cnd false .any)) A l k) (wA : Rx o.o.op = false := by exact rfl) (hg : o.o.guard = some (j, want) := by exact rfl) (hd : o.o.dst = some d := by exact rfl) (vo : (A.ops[j]?).bind (·.dst) = some dj := by exact rfl) (vx : z6 want (σ.get dj) = some g := by exact rfl) (wO : dj < σ.length := by simp) (k1 : g = true -> r1 := by (intro h; (try simp only [beq_true, beq_false, Bool.not_eq_true', Bool.not_eq_false', Bool.true_and, Bool.and_true] at h); exact h)) (k2 : g = false -> r2 := by (intro h; (try simp only [beq_true, beq_false, Bool.not_eq_true', Bool.not_eq_false', Bool.true_and, Bool.and_true] at h); exact h)) : @SI P σ A o l k := NU wA hg hd vo vx wO (fun h => ht (k1 h)) (fun h => hf (k2 h))
theorem gJf {A : Qy} {o : OpI} {l : JW} {j dj d : Nat} {want g : Bool} {r1 r2 s : Prop} {q : Prop} (G : s) (ht : s /\ r1 -> ((evV P σ o.o.op o.o.type).1 /\ gOf (evV P σ o.o.op o.o.type).2 = true /\ (unc (evV P σ o.o.op o.o.type).2).flat = true) /\ @EI P (σ.put d (.cnd true (unc (evV P σ o.o.op o.o.type).2))) A l k) (hf : s /\ r2 -> q) (wA : Rx o.o.op = false := by exact rfl) (hg : o.o.guard = some (j, want) := by exact rfl) (hd : o.o.dst = some d := by exact rfl) (vo : (A.ops[j]?).bind (·.dst) = some dj := by exact rfl) (vx : z6 want (σ.get dj) = some g := by exact rfl) (wO : dj < σ.length := by simp) (k1 : g = true -> r1 := by (intro h; (try simp only [beq_true, beq_false, Bool.not_eq_true', Bool.not_eq_false', Bool.true_and, Bool.and_true] at h); exact h)) (k2 : g = false -> r2 := by (intro h; (try simp only [beq_true, beq_false, Bool.not_eq_true', Bool.not_eq_false', Bool.true_and, Bool.and_true] at h); exact h)) (kf : s /\ r2 -> Bx q -> @EI P (σ.put d (.cnd false .any)) A l k := by (intro G z; simp [G, Go.Vm.ZC]; (repeat (with_reducible refine Go.Mo.sdg ?_)); exact z.h)) : @SI P σ A o l k := NU wA hg hd vo vx wO (fun h => ht ⟨G, k1 h⟩) (fun h => (fun G => kf G ⟨hf G⟩) ⟨G, k2 h⟩)
theorem gJo {A : Qy} {o : OpI} {l : JW} {j dj d : Nat} {want g : Bool} {r1 r2 s : Prop} (G : s) (ht : s /\ r1 -> ((evV P σ o.o.op o.o.type).1 /\ gOf (evV P σ o.o.op o.o.type).2 = true /\ (unc (evV P σ o.o.op o.o.type).2).flat = true) /\ @EI P (σ.put d (.cnd true (unc (evV P σ o.o.op o.o.type).2))) A l k) (hf : s /\ r2 -> @EI P (σ.put d (.cnd false .any)) A l k) (wA : Rx o.o.op = false := by exact rfl) (hg : o.o.guard = some (j, want) := by exact rfl) (hd : o.o.dst = some d := by exact rfl) (vo : (A.ops[j]?).bind (·.dst) = some dj := by exact rfl) (vx : z6 want (σ.get dj) = some g := by exact rfl) (wO : dj < σ.length := by simp) (k1 : g = true -> r1 := by (intro h; (try simp only [beq_true, beq_false, Bool.not_eq_true', Bool.not_eq_false', Bool.true_and, Bool.and_true] at h); exact h)) (k2 : g = false -> r2 := by (intro h; (try simp only [beq_true, beq_false, Bool.not_eq_true', Bool.not_eq_false', Bool.true_and, Bool.and_true] at h); exact h)) : @SI P σ A o l k := NU wA hg hd vo vx wO (fun h => ht ⟨G, k1 h⟩) (fun h => hf ⟨G, k2 h⟩)
theorem gK {A : Qy} {o : OpI} {l : JW} {j dj d : Nat} {want g : Bool} {r1 : Prop} (ht : r1 -> ((evV P σ o.o.op o.o.type).1 /\ gOf (evV P σ o.o.op o.o.type).2 = true /\ (unc (evV P σ o.o.op o.o.type).2).flat = true) /\ @EI P (σ.put d (.cnd true (unc (evV P σ o.o.op o.o.type).2))) A l k) (wA : Rx o.o.op = false := by exact rfl) (hg : o.o.guard = some (j, want) := by exact rfl) (hd : o.o.dst = some d := by exact rfl) (vo : (A.ops[j]?).bind (·.dst) = some dj := by exact rfl) (vx : z6 want (σ.get dj) = some g := by exact rfl) (wO : dj < σ.length := by simp) (k1 : g = true -> r1 := by (intro h; (try simp only [beq_true, beq_false, Bool.not_eq_true', Bool.not_eq_false', Bool.true_and, Bool.and_true] at h); exact h)) (k2 : g = false -> False := by first | (intro g0; simp at g0; done) | (intro g0; simp [G] at g0; done)) : @SI P σ A o l k := NU wA hg hd vo vx wO (fun h => ht (k1 h)) (fun h => (k2 h).elim)
theorem rt {α : Type} {x y : α} {fn : Func} {res : List (List D)} (rv : List ResultVar) (f : Me x y) (hf : fn.results = rv.toArray := by exact rfl) (h : x = y -> (QZ P σ rv).1 /\ xa σ (QZ P σ rv).2 = some res := by (intro f; simp [f])) : I9 P fn false res .ret σ := D4 hf (h f.h)
theorem rtg {α : Type} {x y : α} {fn : Func} {res : List (List D)} (rv : List ResultVar) (f : Me x y) (hf : fn.results = rv.toArray := by exact rfl) (h : x = y -> (QZ P σ rv).1 /\ xa σ (QZ P σ rv).2 = some res := by (intro f; simp [f, G])) : I9 P fn false res .ret σ := D4 hf (h f.h)
theorem rtO {α : Type} {x y : α} {fn : Func} {res : List (List D)} (rv : List ResultVar) (f : Me x y) (hf : fn.results = rv.toArray := by exact rfl) (h : x = y -> (QZ P σ rv).1 /\ kK σ (QZ P σ rv).2 = some res /\ (Ya (QZ P σ rv).2.flatten).Nodup := by (intro f; simp [f])) : I9 P fn true res .ret σ := CE hf (h f.h)
theorem rtD {α : Type} {x y : α} {fn : Func} {res : List (List D)} (rv : List ResultVar) (f : Me x y) (hf : fn.results = rv.toArray := by exact rfl) (h : x = y -> (QZ P σ rv).1 /\ Qv σ (QZ P σ rv).2 = some res /\ Ql σ (QZ P σ rv).2 /\ (Ya (QZ P σ rv).2.flatten).Nodup := by (intro f; simp [f, -Bool.exists_bool, -Bool.forall_bool])) : Fs P fn res .ret σ := IF hf (h f.h)
theorem Jf {α : Type} {x y : α} {fn : Func} {res : List (List D)} (rv : List ResultVar) (f : Me x y) (hf : fn.results = rv.toArray := by exact rfl) (h : x = y -> (QZ P σ rv).1 /\ Qv σ (QZ P σ rv).2 = some res /\ Ql σ (QZ P σ rv).2 /\ (Ya (QZ P σ rv).2.flatten).Nodup := by (intro f; simp [f, G, -Bool.exists_bool, -Bool.forall_bool])) : Fs P fn res .ret σ := IF hf (h f.h)
end
class NxI where
 p : St -> Prop
def Nx (σ : St) [n : NxI] : Prop := n.p σ
section
variable {P : Program} {σ : St} {k : Fr}
theorem Tn {c : K0} {n n' : St -> Prop} (hn : ∀ σ', n σ' -> n' σ') (h : @WI P σ c (.nxt n k)) : AWP P c.c (Fr.run P (.nxt n' k)) σ :=
 H8 (fun e σ' hq => by cases e <;> first | exact hn _ hq | exact hq) (jU h)
abbrev Q1 {R : Type} {A0 : Type} (L : Nat -> A0 -> R) (S : A0 -> St) (I : Nat -> A0 -> Prop) (t : R) (b : Nat) : NxI := ⟨fun τ => ∃ a0, Me t (L b a0) /\ (1 <= b /\ I b a0) /\ Wk τ (S a0)⟩
theorem nx1 {R : Type} {A0 : Type} {L : Nat -> A0 -> R} {S : A0 -> St} {I : Nat -> A0 -> Prop} {t : R} {b : Nat} {a0 : A0} (e : Me t (L b a0)) (hI : 1 <= b /\ I b a0 := by ((try dsimp only); first | omega | (simp at *; omega))) (hw : Wk σ (S a0) := by exact Qx (by simp)) : @Nx σ (Q1 L S I t b) := ⟨a0, e, hI, hw⟩
theorem ny1 {R : Type} {A0 : Type} {L : Nat -> A0 -> R} {S : A0 -> St} {I : Nat -> A0 -> Prop} {t : R} {b : Nat} {a0 : A0} {q : Prop} (F : q) (e : Me t (L b a0)) (hI : 1 <= b /\ I b a0 := by ((try dsimp only); first | omega | (simp at *; omega))) (kw : q -> Wk σ (S a0) := by (intro F; exact Qx (by simp [F]))) : @Nx σ (Q1 L S I t b) := ⟨a0, e, hI, kw F⟩
theorem lp1 {c : K0} {R : Type} {A0 : Type} {L B : Nat -> A0 -> R} (hL : ∀ (a0 : A0) (n : Nat), L (Nat.succ n) a0 = B n a0) (S : A0 -> St) (I : Nat -> A0 -> Prop) (n0 : Nat) (b0 : A0) {p : Nat -> A0 -> Prop}
  (round : ∀ n (a0 : A0), Me (L n0 b0) (B n a0) -> 1 <= n + 1 /\ I (n + 1) a0 -> p n a0) (hI : 1 <= n0 /\ I n0 b0 := by first | omega | (dsimp only; omega) | simp) (h0 : Wk σ (S b0) := by exact Qx (by simp)) (kk : ∀ n (a0 : A0), Bx (p n a0) -> @WI P (S a0) c (.nxt (fun σ' => @Nx σ' (Q1 L S I (L n0 b0) n)) k) := by (intro n_ nJ z; simp; (repeat (with_reducible refine Go.Mo.sd ?_)); exact z.h)) : @U1 P σ c k := by
 refine jo (ι := { s : Nat × A0 // Me (L n0 b0) (L s.1 s.2) /\ (1 <= s.1 /\ I s.1 s.2) }) (fun s => S s.1.2) (fun s => s.1.1) ⟨(n0, b0), ⟨rfl⟩, hI⟩ h0 ?_
 rintro ⟨⟨n1, a0⟩, e, j⟩
 obtain ⟨n, rfl⟩ : ∃ q, n1 = q + 1 := ⟨n1 - 1, by have := j.1; (try dsimp only at this); omega⟩
 refine Tn (fun σ' hn => ?_) (kk n a0 ⟨round n a0 ⟨by have := e.h; (try dsimp only at this); rw [this, hL]⟩ j⟩)
 obtain ⟨c0, e2, j2, w2⟩ := hn
 exact ⟨⟨(n, c0), e2, j2⟩, Nat.lt_succ_self n, w2⟩
abbrev Q2 {R : Type} {A0 A1 : Type} (L : Nat -> A0 -> A1 -> R) (S : A0 -> A1 -> St) (I : Nat -> A0 -> A1 -> Prop) (t : R) (b : Nat) : NxI := ⟨fun τ => ∃ a0 a1, Me t (L b a0 a1) /\ (1 <= b /\ I b a0 a1) /\ Wk τ (S a0 a1)⟩
theorem nx2 {R : Type} {A0 A1 : Type} {L : Nat -> A0 -> A1 -> R} {S : A0 -> A1 -> St} {I : Nat -> A0 -> A1 -> Prop} {t : R} {b : Nat} {a0 : A0} {a1 : A1} (e : Me t (L b a0 a1)) (hI : 1 <= b /\ I b a0 a1 := by ((try dsimp only); first | omega | (simp at *; omega))) (hw : Wk σ (S a0 a1) := by exact Qx (by simp)) : @Nx σ (Q2 L S I t b) := ⟨a0, a1, e, hI, hw⟩
theorem ny2 {R : Type} {A0 A1 : Type} {L : Nat -> A0 -> A1 -> R} {S : A0 -> A1 -> St} {I : Nat -> A0 -> A1 -> Prop} {t : R} {b : Nat} {a0 : A0} {a1 : A1} {q : Prop} (F : q) (e : Me t (L b a0 a1)) (hI : 1 <= b /\ I b a0 a1 := by ((try dsimp only); first | omega | (simp at *; omega))) (kw : q -> Wk σ (S a0 a1) := by (intro F; exact Qx (by simp [F]))) : @Nx σ (Q2 L S I t b) := ⟨a0, a1, e, hI, kw F⟩
theorem lp2 {c : K0} {R : Type} {A0 A1 : Type} {L B : Nat -> A0 -> A1 -> R} (hL : ∀ (a0 : A0) (a1 : A1) (n : Nat), L (Nat.succ n) a0 a1 = B n a0 a1) (S : A0 -> A1 -> St) (I : Nat -> A0 -> A1 -> Prop) (n0 : Nat) (b0 : A0) (b1 : A1) {p : Nat -> A0 -> A1 -> Prop}
  (round : ∀ n (a0 : A0) (a1 : A1), Me (L n0 b0 b1) (B n a0 a1) -> 1 <= n + 1 /\ I (n + 1) a0 a1 -> p n a0 a1) (hI : 1 <= n0 /\ I n0 b0 b1 := by first | omega | (dsimp only; omega) | simp) (h0 : Wk σ (S b0 b1) := by exact Qx (by simp)) (kk : ∀ n (a0 : A0) (a1 : A1), Bx (p n a0 a1) -> @WI P (S a0 a1) c (.nxt (fun σ' => @Nx σ' (Q2 L S I (L n0 b0 b1) n)) k) := by (intro n_ nJ n8 z; simp; (repeat (with_reducible refine Go.Mo.sd ?_)); exact z.h)) : @U1 P σ c k := by
 refine jo (ι := { s : Nat × A0 × A1 // Me (L n0 b0 b1) (L s.1 s.2.1 s.2.2) /\ (1 <= s.1 /\ I s.1 s.2.1 s.2.2) }) (fun s => S s.1.2.1 s.1.2.2) (fun s => s.1.1) ⟨(n0, b0, b1), ⟨rfl⟩, hI⟩ h0 ?_
 rintro ⟨⟨n1, a0, a1⟩, e, j⟩
 obtain ⟨n, rfl⟩ : ∃ q, n1 = q + 1 := ⟨n1 - 1, by have := j.1; (try dsimp only at this); omega⟩
 refine Tn (fun σ' hn => ?_) (kk n a0 a1 ⟨round n a0 a1 ⟨by have := e.h; (try dsimp only at this); rw [this, hL]⟩ j⟩)
 obtain ⟨c0, c1, e2, j2, w2⟩ := hn
 exact ⟨⟨(n, c0, c1), e2, j2⟩, Nat.lt_succ_self n, w2⟩
abbrev Q3 {R : Type} {A0 A1 A2 : Type} (L : Nat -> A0 -> A1 -> A2 -> R) (S : A0 -> A1 -> A2 -> St) (I : Nat -> A0 -> A1 -> A2 -> Prop) (t : R) (b : Nat) : NxI := ⟨fun τ => ∃ a0 a1 a2, Me t (L b a0 a1 a2) /\ (1 <= b /\ I b a0 a1 a2) /\ Wk τ (S a0 a1 a2)⟩
theorem nx3 {R : Type} {A0 A1 A2 : Type} {L : Nat -> A0 -> A1 -> A2 -> R} {S : A0 -> A1 -> A2 -> St} {I : Nat -> A0 -> A1 -> A2 -> Prop} {t : R} {b : Nat} {a0 : A0} {a1 : A1} {a2 : A2} (e : Me t (L b a0 a1 a2)) (hI : 1 <= b /\ I b a0 a1 a2 := by ((try dsimp only); first | omega | (simp at *; omega))) (hw : Wk σ (S a0 a1 a2) := by exact Qx (by simp)) : @Nx σ (Q3 L S I t b) := ⟨a0, a1, a2, e, hI, hw⟩
theorem ny3 {R : Type} {A0 A1 A2 : Type} {L : Nat -> A0 -> A1 -> A2 -> R} {S : A0 -> A1 -> A2 -> St} {I : Nat -> A0 -> A1 -> A2 -> Prop} {t : R} {b : Nat} {a0 : A0} {a1 : A1} {a2 : A2} {q : Prop} (F : q) (e : Me t (L b a0 a1 a2)) (hI : 1 <= b /\ I b a0 a1 a2 := by ((try dsimp only); first | omega | (simp at *; omega))) (kw : q -> Wk σ (S a0 a1 a2) := by (intro F; exact Qx (by simp [F]))) : @Nx σ (Q3 L S I t b) := ⟨a0, a1, a2, e, hI, kw F⟩
theorem lp3 {c : K0} {R : Type} {A0 A1 A2 : Type} {L B : Nat -> A0 -> A1 -> A2 -> R} (hL : ∀ (a0 : A0) (a1 : A1) (a2 : A2) (n : Nat), L (Nat.succ n) a0 a1 a2 = B n a0 a1 a2) (S : A0 -> A1 -> A2 -> St) (I : Nat -> A0 -> A1 -> A2 -> Prop) (n0 : Nat) (b0 : A0) (b1 : A1) (b2 : A2) {p : Nat -> A0 -> A1 -> A2 -> Prop}
  (round : ∀ n (a0 : A0) (a1 : A1) (a2 : A2), Me (L n0 b0 b1 b2) (B n a0 a1 a2) -> 1 <= n + 1 /\ I (n + 1) a0 a1 a2 -> p n a0 a1 a2) (hI : 1 <= n0 /\ I n0 b0 b1 b2 := by first | omega | (dsimp only; omega) | simp) (h0 : Wk σ (S b0 b1 b2) := by exact Qx (by simp)) (kk : ∀ n (a0 : A0) (a1 : A1) (a2 : A2), Bx (p n a0 a1 a2) -> @WI P (S a0 a1 a2) c (.nxt (fun σ' => @Nx σ' (Q3 L S I (L n0 b0 b1 b2) n)) k) := by (intro n_ nJ n8 mw z; simp; (repeat (with_reducible refine Go.Mo.sd ?_)); exact z.h)) : @U1 P σ c k := by
 refine jo (ι := { s : Nat × A0 × A1 × A2 // Me (L n0 b0 b1 b2) (L s.1 s.2.1 s.2.2.1 s.2.2.2) /\ (1 <= s.1 /\ I s.1 s.2.1 s.2.2.1 s.2.2.2) }) (fun s => S s.1.2.1 s.1.2.2.1 s.1.2.2.2) (fun s => s.1.1) ⟨(n0, b0, b1, b2), ⟨rfl⟩, hI⟩ h0 ?_
 rintro ⟨⟨n1, a0, a1, a2⟩, e, j⟩
 obtain ⟨n, rfl⟩ : ∃ q, n1 = q + 1 := ⟨n1 - 1, by have := j.1; (try dsimp only at this); omega⟩
 refine Tn (fun σ' hn => ?_) (kk n a0 a1 a2 ⟨round n a0 a1 a2 ⟨by have := e.h; (try dsimp only at this); rw [this, hL]⟩ j⟩)
 obtain ⟨c0, c1, c2, e2, j2, w2⟩ := hn
 exact ⟨⟨(n, c0, c1, c2), e2, j2⟩, Nat.lt_succ_self n, w2⟩
abbrev Q4 {R : Type} {A0 A1 A2 A3 : Type} (L : Nat -> A0 -> A1 -> A2 -> A3 -> R) (S : A0 -> A1 -> A2 -> A3 -> St) (I : Nat -> A0 -> A1 -> A2 -> A3 -> Prop) (t : R) (b : Nat) : NxI := ⟨fun τ => ∃ a0 a1 a2 a3, Me t (L b a0 a1 a2 a3) /\ (1 <= b /\ I b a0 a1 a2 a3) /\ Wk τ (S a0 a1 a2 a3)⟩
theorem nx4 {R : Type} {A0 A1 A2 A3 : Type} {L : Nat -> A0 -> A1 -> A2 -> A3 -> R} {S : A0 -> A1 -> A2 -> A3 -> St} {I : Nat -> A0 -> A1 -> A2 -> A3 -> Prop} {t : R} {b : Nat} {a0 : A0} {a1 : A1} {a2 : A2} {a3 : A3} (e : Me t (L b a0 a1 a2 a3)) (hI : 1 <= b /\ I b a0 a1 a2 a3 := by ((try dsimp only); first | omega | (simp at *; omega))) (hw : Wk σ (S a0 a1 a2 a3) := by exact Qx (by simp)) : @Nx σ (Q4 L S I t b) := ⟨a0, a1, a2, a3, e, hI, hw⟩
theorem ny4 {R : Type} {A0 A1 A2 A3 : Type} {L : Nat -> A0 -> A1 -> A2 -> A3 -> R} {S : A0 -> A1 -> A2 -> A3 -> St} {I : Nat -> A0 -> A1 -> A2 -> A3 -> Prop} {t : R} {b : Nat} {a0 : A0} {a1 : A1} {a2 : A2} {a3 : A3} {q : Prop} (F : q) (e : Me t (L b a0 a1 a2 a3)) (hI : 1 <= b /\ I b a0 a1 a2 a3 := by ((try dsimp only); first | omega | (simp at *; omega))) (kw : q -> Wk σ (S a0 a1 a2 a3) := by (intro F; exact Qx (by simp [F]))) : @Nx σ (Q4 L S I t b) := ⟨a0, a1, a2, a3, e, hI, kw F⟩
theorem lp4 {c : K0} {R : Type} {A0 A1 A2 A3 : Type} {L B : Nat -> A0 -> A1 -> A2 -> A3 -> R} (hL : ∀ (a0 : A0) (a1 : A1) (a2 : A2) (a3 : A3) (n : Nat), L (Nat.succ n) a0 a1 a2 a3 = B n a0 a1 a2 a3) (S : A0 -> A1 -> A2 -> A3 -> St) (I : Nat -> A0 -> A1 -> A2 -> A3 -> Prop) (n0 : Nat) (b0 : A0) (b1 : A1) (b2 : A2) (b3 : A3) {p : Nat -> A0 -> A1 -> A2 -> A3 -> Prop}
  (round : ∀ n (a0 : A0) (a1 : A1) (a2 : A2) (a3 : A3), Me (L n0 b0 b1 b2 b3) (B n a0 a1 a2 a3) -> 1 <= n + 1 /\ I (n + 1) a0 a1 a2 a3 -> p n a0 a1 a2 a3) (hI : 1 <= n0 /\ I n0 b0 b1 b2 b3 := by first | omega | (dsimp only; omega) | simp) (h0 : Wk σ (S b0 b1 b2 b3) := by exact Qx (by simp)) (kk : ∀ n (a0 : A0) (a1 : A1) (a2 : A2) (a3 : A3), Bx (p n a0 a1 a2 a3) -> @WI P (S a0 a1 a2 a3) c (.nxt (fun σ' => @Nx σ' (Q4 L S I (L n0 b0 b1 b2 b3) n)) k) := by (intro n_ nJ n8 mw l6 z; simp; (repeat (with_reducible refine Go.Mo.sd ?_)); exact z.h)) : @U1 P σ c k := by
 refine jo (ι := { s : Nat × A0 × A1 × A2 × A3 // Me (L n0 b0 b1 b2 b3) (L s.1 s.2.1 s.2.2.1 s.2.2.2.1 s.2.2.2.2) /\ (1 <= s.1 /\ I s.1 s.2.1 s.2.2.1 s.2.2.2.1 s.2.2.2.2) }) (fun s => S s.1.2.1 s.1.2.2.1 s.1.2.2.2.1 s.1.2.2.2.2) (fun s => s.1.1) ⟨(n0, b0, b1, b2, b3), ⟨rfl⟩, hI⟩ h0 ?_
 rintro ⟨⟨n1, a0, a1, a2, a3⟩, e, j⟩
 obtain ⟨n, rfl⟩ : ∃ q, n1 = q + 1 := ⟨n1 - 1, by have := j.1; (try dsimp only at this); omega⟩
 refine Tn (fun σ' hn => ?_) (kk n a0 a1 a2 a3 ⟨round n a0 a1 a2 a3 ⟨by have := e.h; (try dsimp only at this); rw [this, hL]⟩ j⟩)
 obtain ⟨c0, c1, c2, c3, e2, j2, w2⟩ := hn
 exact ⟨⟨(n, c0, c1, c2, c3), e2, j2⟩, Nat.lt_succ_self n, w2⟩
abbrev Q5 {R : Type} {A0 A1 A2 A3 A4 : Type} (L : Nat -> A0 -> A1 -> A2 -> A3 -> A4 -> R) (S : A0 -> A1 -> A2 -> A3 -> A4 -> St) (I : Nat -> A0 -> A1 -> A2 -> A3 -> A4 -> Prop) (t : R) (b : Nat) : NxI := ⟨fun τ => ∃ a0 a1 a2 a3 a4, Me t (L b a0 a1 a2 a3 a4) /\ (1 <= b /\ I b a0 a1 a2 a3 a4) /\ Wk τ (S a0 a1 a2 a3 a4)⟩
theorem nx5 {R : Type} {A0 A1 A2 A3 A4 : Type} {L : Nat -> A0 -> A1 -> A2 -> A3 -> A4 -> R} {S : A0 -> A1 -> A2 -> A3 -> A4 -> St} {I : Nat -> A0 -> A1 -> A2 -> A3 -> A4 -> Prop} {t : R} {b : Nat} {a0 : A0} {a1 : A1} {a2 : A2} {a3 : A3} {a4 : A4} (e : Me t (L b a0 a1 a2 a3 a4)) (hI : 1 <= b /\ I b a0 a1 a2 a3 a4 := by ((try dsimp only); first | omega | (simp at *; omega))) (hw : Wk σ (S a0 a1 a2 a3 a4) := by exact Qx (by simp)) : @Nx σ (Q5 L S I t b) := ⟨a0, a1, a2, a3, a4, e, hI, hw⟩
theorem lp5 {c : K0} {R : Type} {A0 A1 A2 A3 A4 : Type} {L B : Nat -> A0 -> A1 -> A2 -> A3 -> A4 -> R} (hL : ∀ (a0 : A0) (a1 : A1) (a2 : A2) (a3 : A3) (a4 : A4) (n : Nat), L (Nat.succ n) a0 a1 a2 a3 a4 = B n a0 a1 a2 a3 a4) (S : A0 -> A1 -> A2 -> A3 -> A4 -> St) (I : Nat -> A0 -> A1 -> A2 -> A3 -> A4 -> Prop) (n0 : Nat) (b0 : A0) (b1 : A1) (b2 : A2) (b3 : A3) (b4 : A4) {p : Nat -> A0 -> A1 -> A2 -> A3 -> A4 -> Prop}
  (round : ∀ n (a0 : A0) (a1 : A1) (a2 : A2) (a3 : A3) (a4 : A4), Me (L n0 b0 b1 b2 b3 b4) (B n a0 a1 a2 a3 a4) -> 1 <= n + 1 /\ I (n + 1) a0 a1 a2 a3 a4 -> p n a0 a1 a2 a3 a4) (hI : 1 <= n0 /\ I n0 b0 b1 b2 b3 b4 := by first | omega | (dsimp only; omega) | simp) (h0 : Wk σ (S b0 b1 b2 b3 b4) := by exact Qx (by simp)) (kk : ∀ n (a0 : A0) (a1 : A1) (a2 : A2) (a3 : A3) (a4 : A4), Bx (p n a0 a1 a2 a3 a4) -> @WI P (S a0 a1 a2 a3 a4) c (.nxt (fun σ' => @Nx σ' (Q5 L S I (L n0 b0 b1 b2 b3 b4) n)) k) := by (intro n_ nJ n8 mw l6 iz z; simp; (repeat (with_reducible refine Go.Mo.sd ?_)); exact z.h)) : @U1 P σ c k := by
 refine jo (ι := { s : Nat × A0 × A1 × A2 × A3 × A4 // Me (L n0 b0 b1 b2 b3 b4) (L s.1 s.2.1 s.2.2.1 s.2.2.2.1 s.2.2.2.2.1 s.2.2.2.2.2) /\ (1 <= s.1 /\ I s.1 s.2.1 s.2.2.1 s.2.2.2.1 s.2.2.2.2.1 s.2.2.2.2.2) }) (fun s => S s.1.2.1 s.1.2.2.1 s.1.2.2.2.1 s.1.2.2.2.2.1 s.1.2.2.2.2.2) (fun s => s.1.1) ⟨(n0, b0, b1, b2, b3, b4), ⟨rfl⟩, hI⟩ h0 ?_
 rintro ⟨⟨n1, a0, a1, a2, a3, a4⟩, e, j⟩
 obtain ⟨n, rfl⟩ : ∃ q, n1 = q + 1 := ⟨n1 - 1, by have := j.1; (try dsimp only at this); omega⟩
 refine Tn (fun σ' hn => ?_) (kk n a0 a1 a2 a3 a4 ⟨round n a0 a1 a2 a3 a4 ⟨by have := e.h; (try dsimp only at this); rw [this, hL]⟩ j⟩)
 obtain ⟨c0, c1, c2, c3, c4, e2, j2, w2⟩ := hn
 exact ⟨⟨(n, c0, c1, c2, c3, c4), e2, j2⟩, Nat.lt_succ_self n, w2⟩
abbrev Q9 {R : Type} {A0 A1 A2 A3 A4 A5 A6 A7 A8 : Type} (L : Nat -> A0 -> A1 -> A2 -> A3 -> A4 -> A5 -> A6 -> A7 -> A8 -> R) (S : A0 -> A1 -> A2 -> A3 -> A4 -> A5 -> A6 -> A7 -> A8 -> St) (I : Nat -> A0 -> A1 -> A2 -> A3 -> A4 -> A5 -> A6 -> A7 -> A8 -> Prop) (t : R) (b : Nat) : NxI := ⟨fun τ => ∃ a0 a1 a2 a3 a4 a5 a6 a7 a8, Me t (L b a0 a1 a2 a3 a4 a5 a6 a7 a8) /\ (1 <= b /\ I b a0 a1 a2 a3 a4 a5 a6 a7 a8) /\ Wk τ (S a0 a1 a2 a3 a4 a5 a6 a7 a8)⟩
theorem ny9 {R : Type} {A0 A1 A2 A3 A4 A5 A6 A7 A8 : Type} {L : Nat -> A0 -> A1 -> A2 -> A3 -> A4 -> A5 -> A6 -> A7 -> A8 -> R} {S : A0 -> A1 -> A2 -> A3 -> A4 -> A5 -> A6 -> A7 -> A8 -> St} {I : Nat -> A0 -> A1 -> A2 -> A3 -> A4 -> A5 -> A6 -> A7 -> A8 -> Prop} {t : R} {b : Nat} {a0 : A0} {a1 : A1} {a2 : A2} {a3 : A3} {a4 : A4} {a5 : A5} {a6 : A6} {a7 : A7} {a8 : A8} {q : Prop} (F : q) (e : Me t (L b a0 a1 a2 a3 a4 a5 a6 a7 a8)) (hI : 1 <= b /\ I b a0 a1 a2 a3 a4 a5 a6 a7 a8 := by ((try dsimp only); first | omega | (simp at *; omega))) (kw : q -> Wk σ (S a0 a1 a2 a3 a4 a5 a6 a7 a8) := by (intro F; exact Qx (by simp [F]))) : @Nx σ (Q9 L S I t b) := ⟨a0, a1, a2, a3, a4, a5, a6, a7, a8, e, hI, kw F⟩
theorem lp9 {c : K0} {R : Type} {A0 A1 A2 A3 A4 A5 A6 A7 A8 : Type} {L B : Nat -> A0 -> A1 -> A2 -> A3 -> A4 -> A5 -> A6 -> A7 -> A8 -> R} (hL : ∀ (a0 : A0) (a1 : A1) (a2 : A2) (a3 : A3) (a4 : A4) (a5 : A5) (a6 : A6) (a7 : A7) (a8 : A8) (n : Nat), L (Nat.succ n) a0 a1 a2 a3 a4 a5 a6 a7 a8 = B n a0 a1 a2 a3 a4 a5 a6 a7 a8) (S : A0 -> A1 -> A2 -> A3 -> A4 -> A5 -> A6 -> A7 -> A8 -> St) (I : Nat -> A0 -> A1 -> A2 -> A3 -> A4 -> A5 -> A6 -> A7 -> A8 -> Prop) (n0 : Nat) (b0 : A0) (b1 : A1) (b2 : A2) (b3 : A3) (b4 : A4) (b5 : A5) (b6 : A6) (b7 : A7) (b8 : A8) {p : Nat -> A0 -> A1 -> A2 -> A3 -> A4 -> A5 -> A6 -> A7 -> A8 -> Prop}
  (round : ∀ n (a0 : A0) (a1 : A1) (a2 : A2) (a3 : A3) (a4 : A4) (a5 : A5) (a6 : A6) (a7 : A7) (a8 : A8), Me (L n0 b0 b1 b2 b3 b4 b5 b6 b7 b8) (B n a0 a1 a2 a3 a4 a5 a6 a7 a8) -> 1 <= n + 1 /\ I (n + 1) a0 a1 a2 a3 a4 a5 a6 a7 a8 -> p n a0 a1 a2 a3 a4 a5 a6 a7 a8) (hI : 1 <= n0 /\ I n0 b0 b1 b2 b3 b4 b5 b6 b7 b8 := by first | omega | (dsimp only; omega) | simp) (h0 : Wk σ (S b0 b1 b2 b3 b4 b5 b6 b7 b8) := by exact Qx (by simp)) (kk : ∀ n (a0 : A0) (a1 : A1) (a2 : A2) (a3 : A3) (a4 : A4) (a5 : A5) (a6 : A6) (a7 : A7) (a8 : A8), Bx (p n a0 a1 a2 a3 a4 a5 a6 a7 a8) -> @WI P (S a0 a1 a2 a3 a4 a5 a6 a7 a8) c (.nxt (fun σ' => @Nx σ' (Q9 L S I (L n0 b0 b1 b2 b3 b4 b5 b6 b7 b8) n)) k) := by (intro n_ nJ n8 mw l6 iz gz g6 g7 g8 z; simp; (repeat (with_reducible refine Go.Mo.sd ?_)); exact z.h)) : @U1 P σ c k := by
 refine jo (ι := { s : Nat × A0 × A1 × A2 × A3 × A4 × A5 × A6 × A7 × A8 // Me (L n0 b0 b1 b2 b3 b4 b5 b6 b7 b8) (L s.1 s.2.1 s.2.2.1 s.2.2.2.1 s.2.2.2.2.1 s.2.2.2.2.2.1 s.2.2.2.2.2.2.1 s.2.2.2.2.2.2.2.1 s.2.2.2.2.2.2.2.2.1 s.2.2.2.2.2.2.2.2.2) /\ (1 <= s.1 /\ I s.1 s.2.1 s.2.2.1 s.2.2.2.1 s.2.2.2.2.1 s.2.2.2.2.2.1 s.2.2.2.2.2.2.1 s.2.2.2.2.2.2.2.1 s.2.2.2.2.2.2.2.2.1 s.2.2.2.2.2.2.2.2.2) }) (fun s => S s.1.2.1 s.1.2.2.1 s.1.2.2.2.1 s.1.2.2.2.2.1 s.1.2.2.2.2.2.1 s.1.2.2.2.2.2.2.1 s.1.2.2.2.2.2.2.2.1 s.1.2.2.2.2.2.2.2.2.1 s.1.2.2.2.2.2.2.2.2.2) (fun s => s.1.1) ⟨(n0, b0, b1, b2, b3, b4, b5, b6, b7, b8), ⟨rfl⟩, hI⟩ h0 ?_
 rintro ⟨⟨n1, a0, a1, a2, a3, a4, a5, a6, a7, a8⟩, e, j⟩
 obtain ⟨n, rfl⟩ : ∃ q, n1 = q + 1 := ⟨n1 - 1, by have := j.1; (try dsimp only at this); omega⟩
 refine Tn (fun σ' hn => ?_) (kk n a0 a1 a2 a3 a4 a5 a6 a7 a8 ⟨round n a0 a1 a2 a3 a4 a5 a6 a7 a8 ⟨by have := e.h; (try dsimp only at this); rw [this, hL]⟩ j⟩)
 obtain ⟨c0, c1, c2, c3, c4, c5, c6, c7, c8, e2, j2, w2⟩ := hn
 exact ⟨⟨(n, c0, c1, c2, c3, c4, c5, c6, c7, c8), e2, j2⟩, Nat.lt_succ_self n, w2⟩
abbrev Q13 {R : Type} {A0 A1 A2 A3 A4 A5 A6 A7 A8 A9 tg th tj : Type} (L : Nat -> A0 -> A1 -> A2 -> A3 -> A4 -> A5 -> A6 -> A7 -> A8 -> A9 -> tg -> th -> tj -> R) (S : A0 -> A1 -> A2 -> A3 -> A4 -> A5 -> A6 -> A7 -> A8 -> A9 -> tg -> th -> tj -> St) (I : Nat -> A0 -> A1 -> A2 -> A3 -> A4 -> A5 -> A6 -> A7 -> A8 -> A9 -> tg -> th -> tj -> Prop) (t : R) (b : Nat) : NxI := ⟨fun τ => ∃ a0 a1 a2 a3 a4 a5 a6 a7 a8 a9 tJ tK tL, Me t (L b a0 a1 a2 a3 a4 a5 a6 a7 a8 a9 tJ tK tL) /\ (1 <= b /\ I b a0 a1 a2 a3 a4 a5 a6 a7 a8 a9 tJ tK tL) /\ Wk τ (S a0 a1 a2 a3 a4 a5 a6 a7 a8 a9 tJ tK tL)⟩
theorem BV {R : Type} {A0 A1 A2 A3 A4 A5 A6 A7 A8 A9 tg th tj : Type} {L : Nat -> A0 -> A1 -> A2 -> A3 -> A4 -> A5 -> A6 -> A7 -> A8 -> A9 -> tg -> th -> tj -> R} {S : A0 -> A1 -> A2 -> A3 -> A4 -> A5 -> A6 -> A7 -> A8 -> A9 -> tg -> th -> tj -> St} {I : Nat -> A0 -> A1 -> A2 -> A3 -> A4 -> A5 -> A6 -> A7 -> A8 -> A9 -> tg -> th -> tj -> Prop} {t : R} {b : Nat} {a0 : A0} {a1 : A1} {a2 : A2} {a3 : A3} {a4 : A4} {a5 : A5} {a6 : A6} {a7 : A7} {a8 : A8} {a9 : A9} {tJ : tg} {tK : th} {tL : tj} {q : Prop} (F : q) (e : Me t (L b a0 a1 a2 a3 a4 a5 a6 a7 a8 a9 tJ tK tL)) (hI : 1 <= b /\ I b a0 a1 a2 a3 a4 a5 a6 a7 a8 a9 tJ tK tL := by ((try dsimp only); first | omega | (simp at *; omega))) (kw : q -> Wk σ (S a0 a1 a2 a3 a4 a5 a6 a7 a8 a9 tJ tK tL) := by (intro F; exact Qx (by simp [F]))) : @Nx σ (Q13 L S I t b) := ⟨a0, a1, a2, a3, a4, a5, a6, a7, a8, a9, tJ, tK, tL, e, hI, kw F⟩
theorem BU {c : K0} {R : Type} {A0 A1 A2 A3 A4 A5 A6 A7 A8 A9 tg th tj : Type} {L B : Nat -> A0 -> A1 -> A2 -> A3 -> A4 -> A5 -> A6 -> A7 -> A8 -> A9 -> tg -> th -> tj -> R} (hL : ∀ (a0 : A0) (a1 : A1) (a2 : A2) (a3 : A3) (a4 : A4) (a5 : A5) (a6 : A6) (a7 : A7) (a8 : A8) (a9 : A9) (tJ : tg) (tK : th) (tL : tj) (n : Nat), L (Nat.succ n) a0 a1 a2 a3 a4 a5 a6 a7 a8 a9 tJ tK tL = B n a0 a1 a2 a3 a4 a5 a6 a7 a8 a9 tJ tK tL) (S : A0 -> A1 -> A2 -> A3 -> A4 -> A5 -> A6 -> A7 -> A8 -> A9 -> tg -> th -> tj -> St) (I : Nat -> A0 -> A1 -> A2 -> A3 -> A4 -> A5 -> A6 -> A7 -> A8 -> A9 -> tg -> th -> tj -> Prop) (n0 : Nat) (b0 : A0) (b1 : A1) (b2 : A2) (b3 : A3) (b4 : A4) (b5 : A5) (b6 : A6) (b7 : A7) (b8 : A8) (b9 : A9) (nE : tg) (nF : th) (nG : tj) {p : Nat -> A0 -> A1 -> A2 -> A3 -> A4 -> A5 -> A6 -> A7 -> A8 -> A9 -> tg -> th -> tj -> Prop}
  (round : ∀ n (a0 : A0) (a1 : A1) (a2 : A2) (a3 : A3) (a4 : A4) (a5 : A5) (a6 : A6) (a7 : A7) (a8 : A8) (a9 : A9) (tJ : tg) (tK : th) (tL : tj), Me (L n0 b0 b1 b2 b3 b4 b5 b6 b7 b8 b9 nE nF nG) (B n a0 a1 a2 a3 a4 a5 a6 a7 a8 a9 tJ tK tL) -> 1 <= n + 1 /\ I (n + 1) a0 a1 a2 a3 a4 a5 a6 a7 a8 a9 tJ tK tL -> p n a0 a1 a2 a3 a4 a5 a6 a7 a8 a9 tJ tK tL) (hI : 1 <= n0 /\ I n0 b0 b1 b2 b3 b4 b5 b6 b7 b8 b9 nE nF nG := by first | omega | (dsimp only; omega) | simp) (h0 : Wk σ (S b0 b1 b2 b3 b4 b5 b6 b7 b8 b9 nE nF nG) := by exact Qx (by simp)) (kk : ∀ n (a0 : A0) (a1 : A1) (a2 : A2) (a3 : A3) (a4 : A4) (a5 : A5) (a6 : A6) (a7 : A7) (a8 : A8) (a9 : A9) (tJ : tg) (tK : th) (tL : tj), Bx (p n a0 a1 a2 a3 a4 a5 a6 a7 a8 a9 tJ tK tL) -> @WI P (S a0 a1 a2 a3 a4 a5 a6 a7 a8 a9 tJ tK tL) c (.nxt (fun σ' => @Nx σ' (Q13 L S I (L n0 b0 b1 b2 b3 b4 b5 b6 b7 b8 b9 nE nF nG) n)) k) := by (intro n_ nJ n8 mw l6 iz gz g6 g7 g8 eW g9 fA fB z; simp; (repeat (with_reducible refine Go.Mo.sd ?_)); exact z.h)) : @U1 P σ c k := by
 refine jo (ι := { s : Nat × A0 × A1 × A2 × A3 × A4 × A5 × A6 × A7 × A8 × A9 × tg × th × tj // Me (L n0 b0 b1 b2 b3 b4 b5 b6 b7 b8 b9 nE nF nG) (L s.1 s.2.1 s.2.2.1 s.2.2.2.1 s.2.2.2.2.1 s.2.2.2.2.2.1 s.2.2.2.2.2.2.1 s.2.2.2.2.2.2.2.1 s.2.2.2.2.2.2.2.2.1 s.2.2.2.2.2.2.2.2.2.1 s.2.2.2.2.2.2.2.2.2.2.1 s.2.2.2.2.2.2.2.2.2.2.2.1 s.2.2.2.2.2.2.2.2.2.2.2.2.1 s.2.2.2.2.2.2.2.2.2.2.2.2.2) /\ (1 <= s.1 /\ I s.1 s.2.1 s.2.2.1 s.2.2.2.1 s.2.2.2.2.1 s.2.2.2.2.2.1 s.2.2.2.2.2.2.1 s.2.2.2.2.2.2.2.1 s.2.2.2.2.2.2.2.2.1 s.2.2.2.2.2.2.2.2.2.1 s.2.2.2.2.2.2.2.2.2.2.1 s.2.2.2.2.2.2.2.2.2.2.2.1 s.2.2.2.2.2.2.2.2.2.2.2.2.1 s.2.2.2.2.2.2.2.2.2.2.2.2.2) }) (fun s => S s.1.2.1 s.1.2.2.1 s.1.2.2.2.1 s.1.2.2.2.2.1 s.1.2.2.2.2.2.1 s.1.2.2.2.2.2.2.1 s.1.2.2.2.2.2.2.2.1 s.1.2.2.2.2.2.2.2.2.1 s.1.2.2.2.2.2.2.2.2.2.1 s.1.2.2.2.2.2.2.2.2.2.2.1 s.1.2.2.2.2.2.2.2.2.2.2.2.1 s.1.2.2.2.2.2.2.2.2.2.2.2.2.1 s.1.2.2.2.2.2.2.2.2.2.2.2.2.2) (fun s => s.1.1) ⟨(n0, b0, b1, b2, b3, b4, b5, b6, b7, b8, b9, nE, nF, nG), ⟨rfl⟩, hI⟩ h0 ?_
 rintro ⟨⟨n1, a0, a1, a2, a3, a4, a5, a6, a7, a8, a9, tJ, tK, tL⟩, e, j⟩
 obtain ⟨n, rfl⟩ : ∃ q, n1 = q + 1 := ⟨n1 - 1, by have := j.1; (try dsimp only at this); omega⟩
 refine Tn (fun σ' hn => ?_) (kk n a0 a1 a2 a3 a4 a5 a6 a7 a8 a9 tJ tK tL ⟨round n a0 a1 a2 a3 a4 a5 a6 a7 a8 a9 tJ tK tL ⟨by have := e.h; (try dsimp only at this); rw [this, hL]⟩ j⟩)
 obtain ⟨c0, c1, c2, c3, c4, c5, c6, c7, c8, c9, hD, fE, fF, e2, j2, w2⟩ := hn
 exact ⟨⟨(n, c0, c1, c2, c3, c4, c5, c6, c7, c8, c9, hD, fE, fF), e2, j2⟩, Nat.lt_succ_self n, w2⟩
end
section
variable {P : Program} {σ : St} {k : Fr}
theorem Wc {A : Qy} {o : OpI} {l : JW} {d : Nat} {T : TypeId} {n : Nat} {parts : Array (Nat × Operand)} (h : @EI P (σ.new d (.one (.sref d 0 0 (JV P σ (ZP P T) (P.cellsOf (ZP P T)) parts.toList 0).2.length)) [.lit (P.cellsOf (ZP P T)) (JV P σ (ZP P T) (P.cellsOf (ZP P T)) parts.toList 0).2]) A l k) (wA : o.o.op = .buildSlice T n parts := by exact rfl) (hg : o.o.guard = none := by exact rfl) (hd : o.o.dst = some d := by exact rfl)
  (h1 : σ.fresh d = true /\ XC P T = true /\ Xy P (ZP P T) = true /\ 0 < P.cellsOf (ZP P T) /\ parts.toList.length = n /\ n * P.cellsOf (ZP P T) <= 16777216 := by simp) (h2 : (JV P σ (ZP P T) (P.cellsOf (ZP P T)) parts.toList 0).1 := by simp)
  (h3 : YG d (JV P σ (ZP P T) (P.cellsOf (ZP P T)) parts.toList 0).2.flatten = false := by simp)
  : @SI P σ A o l k := BN wA hg hd h1 h2 h3 h
theorem VV {A : Qy} {o : OpI} {l : JW} {d : Nat} {x y : Operand} {t : TypeId} {wH news : List (List D)} {l1 l2 : List (Nat × Nat)} {size : Nat} (h : @EI P ((σ.Z0 (l1 ++ l2)).new d (.one (.sref d 0 0 (wH.length + news.length))) [.arr true size (wH ++ news)]) A l k) (wA : o.o.op = .call ⟨.builtin .append, #[x, y], #[t, t]⟩ := by exact rfl) (hg : o.o.guard = none := by exact rfl) (hd : o.o.dst = some d := by exact rfl) (wy : A.bar o.o = true := by exact rfl)
  (vV : size = P.cellsOf (ZP P t) := by simp) (h1 : gOf (look P σ t x) = true /\ gOf (look P σ t y) = true /\ XC P t = true /\ Xy P (ZP P t) = true /\ 0 < P.cellsOf (ZP P t) := by simp)
  (h2 : (ja σ (unc (look P σ t x)) size).1 /\ (ja σ (unc (look P σ t x)) size).2 = (wH, l1) := by simp) (h3 : (j0 σ (unc (look P σ t y)) size).1 /\ (j0 σ (unc (look P σ t y)) size).2 = (news, l2) := by simp)
  (h4 : (l1 ++ l2).Nodup /\ (σ.Z0 (l1 ++ l2)).fresh d = true := by simp) (h5 : (wH.length + news.length) * P.bytesOf (ZP P t) <= 140737488355328 /\ wH.length + news.length <= 9223372036854775807 := by (simp <;> omega))
  : @SI P σ A o l k := C5 wA hg hd wy vV h1 h2 h3 h4 h5 h
theorem V3 {A : Qy} {o : OpI} {l : JW} {T : TypeId} {x y : Operand} {t j i size : Nat} {rows : List (List D)} {ds : List D} {L : List (Nat × Nat)} (h : @EI P ((σ.Z0 L).Zt t j (.arr true size (rows.set i ds))) A l k) (wA : o.o.op = .store T x y := by exact rfl) (hg : o.o.guard = none := by exact rfl) (hd : o.o.dst = none := by exact rfl) (wy : A.bar o.o = true := by exact rfl)
  (hx : unc (look P σ 0 x) = .one (.ptr t j i 0) := by simp) (ho : σ.ob t j = .arr true size rows := by simp) (hi : i < rows.length := by (simp; try omega)) (h1 : zz P T = true /\ gOf (look P σ 0 x) = true /\ gOf (look P σ T y) = true /\ (unc (look P σ T y)).flat = true := by simp)
  (h2 : QR σ (unc (look P σ T y)).cells = some ds := by simp) (h3 : XS σ (unc (look P σ T y)).cells := by simp) (h4 : Ya (unc (look P σ T y)).cells = L := by simp) (h5 : L.Nodup /\ (t, j) ∉ L /\ (σ.Z0 L).J5 (At.isT t) = false := by simp) (h6 : ds.length = P.cellsOf T /\ P.cellsOf T = size := by simp)
  : @SI P σ A o l k := BT wA hg hd wy hx ho hi h1 h2 h3 h4 h5 h6 h
end
theorem wkS {σ σ' : St} (ρ : Ren) (F : List (Nat × Nat)) (we : jV σ' ρ ρ = true := by exact rfl) (h : V6 σ ρ F σ σ' 0 := by simp) : Wk σ σ' := Y5 ρ F we h
theorem drJ {P : Program} {id : Nat} {σ : St} {l : List Oper} {br : Oper -> Bool} {k : Fr} (bs : List Nat) (hm : P.follows .mixedOrders = true) (h : @EI P σ ⟨⟨l⟩, G6 bs⟩ ⟨l⟩ k) (hdr : Vm.SO P ⟨l⟩ (fun i => i) (G6 bs) = true := by kernel_rfl) (wq : K9 ⟨l⟩ (fun i => i) σ = true := by kernel_rfl) : @DI P id σ ⟨⟨l⟩, br⟩ k := Cg bs hm hdr wq h
theorem rpS {g p : Prop} (h : p) (kk : Bx p -> g := by (intro z; (repeat (with_reducible refine Go.Mo.sd ?_)); exact z.h)) : g := kk ⟨h⟩
theorem rpG {g p : Prop} (h : p) (kk : Bx p -> g := by (intro z; (repeat (with_reducible refine Go.Mo.sdg ?_)); exact z.h)) : g := kk ⟨h⟩
theorem xs {p q : Prop} (u : q) (h : q -> p := by (intro u; simp (maxDischargeDepth := 12) [u])) : p := h u
@[simp] abbrev rI (x : Int) : List D := [.int .i64 x]
@[simp] abbrev rB (b : Bool) : List D := [.bool b]
@[simp] abbrev rS (s : ByteArray) : List D := [.str s]
@[simp] abbrev rL {α : Type} (n : Nat) (f : α -> List D) (l : List α) : List D := [.sl n (l.map f)]
end Go.Vm
