/- An abstract machine NL the model of Go, by value, and that it is sound: part Ve. No condition. -/
import Derived.Test.YthjkhlcbpfnobaaGreatVd
set_option linter.unusedVariables false
set_option linter.unusedSimpArgs false
namespace Go.Vm
open Go.RowKit
section
variable {P : Program} {σ : St} {k : Fr}
end
end Go.Vm
namespace Go.Vm
open Go.RowKit
def CD (σ : St) : V -> Option Nat
 | .one (.d (.sl _ rows)) => some rows.length
 | .one (.sref t j _ len) => (match σ.ob t j with | .arr _ _ _ => some len | _ => none)
 | .fix _ (.one (.sref t j _ len)) => (match σ.ob t j with | .arr _ _ _ => some len | _ => none)
 | _ => none
def WH (σ : St) : Prop := ∀ t n, CD σ (σ.get t) = some n -> n <= 9223372036854775807
theorem Br {T : CS} {h : Nat -> Nat -> Hd} {σ : St} {w : World} : ∀ {v : V} {val : Value} {n : Nat}, CD σ v = some n -> QK T h σ.ob w v val -> n <= maxLen
 | .one (.d (.sl s rows)), val, n, hn, hv => by
  simp only [CD] at hn
  cases hn
  obtain ⟨base, cap, _, h1, h2⟩ := Ec (r := (show Rd T w val (.sl s rows) from hv))
  omega
 | .one (.sref u j lo len), val, n, hn, hv => by
  simp only [CD] at hn
  split at hn
  ·rename_i q s rows ho
   cases hn
   have hh := (show YH T h σ.ob w (.sref u j lo len) val from hv).2.1 _ _ _ ho
   obtain ⟨_, _, _, base, cap, _, h1, h2, _⟩ := hh
   omega
  ·cases hn
 | .fix u0 (.one (.sref u j lo len)), val, n, hn, hv => by
  simp only [CD] at hn
  split at hn
  ·rename_i q s rows ho
   cases hn
   have hh := (show YH T h σ.ob w (.sref u j lo len) val from hv.2).2.1 _ _ _ ho
   obtain ⟨_, _, _, base, cap, _, h1, h2, _⟩ := hh
   omega
  ·cases hn
theorem Gb {T0 : CS} {B : Nat -> Prop} {σ : St} {a : Act} {w : World} (r : Q0 T0 B σ a w) : WH σ := by
 obtain ⟨X, h, r⟩ := r
 intro t n hn
 exact Br hn (r.get t)
theorem Hf {P : Program} {c : Code} {Q : Exit -> St -> Prop} {σ : St} (h : WH σ -> AWP P c Q σ) : AWP P c Q σ := fun T0 B a w r => h (Gb r) T0 B a w r
section
variable {P : Program} {σ : St} {k : Fr}
theorem wU {b : Bool} {x y : yo} (ht : WH σ -> b = true -> @WI P σ x k) (hf : WH σ -> b = false -> @WI P σ y k) : @CI P b σ x y k :=
 ⟨fun h => Hf fun hk => VL (ht hk h), fun h => Hf fun hk => VL (hf hk h)⟩
theorem OU {b c : Bool} {x y : yo} (hc : c = b) (ht : WH σ -> c = true -> @WI P σ x k) (hf : WH σ -> c = false -> @WI P σ y k) : @CI P b σ x y k := by
 subst hc; exact wU ht hf
theorem okL {c : yo} (h : WH σ -> @SC P σ c k) : @SC P σ c k := Hf h
theorem okD {id : Nat} {A : Jj} (h : WH σ -> @DI P id σ A k) : @DI P id σ A k := Hf h
def Px : Op -> Bool
 | .call _ => true
 | _ => false
theorem MM {A : Jj} {o : OpI} {l : KH} {j dj d : Nat} {want g : Bool} (uE : Px o.o.op = false) (hg : o.o.guard = some (j, want)) (hd : o.o.dst = some d)
  (sD : (A.ops[j]?).bind (·.dst) = some dj) (sK : xZ want (σ.get dj) = some g) (uQ : dj < σ.length)
  (ht : g = true -> ((evV P σ o.o.op o.o.type).1 /\ gOf (evV P σ o.o.op o.o.type).2 = true /\ (unc (evV P σ o.o.op o.o.type).2).flat = true) /\ @EI P (σ.put d (.cnd true (unc (evV P σ o.o.op o.o.type).2))) A l k)
  (hf : g = false -> @EI P (σ.put d (.cnd false .any)) A l k) : @SI P σ A o l k := by
 have step : ∀ v, (g = true -> (evV P σ o.o.op o.o.type).1 /\ gOf (evV P σ o.o.op o.o.type).2 = true /\ v = unc (evV P σ o.o.op o.o.type).2 /\ v.flat = true) -> Y6 P A.ops o.o σ (σ.put d (.cnd g v)) := by
  intro v hv
  unfold Y6
  simp only [hg]
  refine ⟨dj, d, g, v, sD, uQ, hd, sK, fun oy => ?_, rfl⟩
  obtain ⟨h1, h2, h3, h4⟩ := hv oy
  have base : ∃ v0, YQ P σ o.o.op o.o.type v0 /\ gOf v0 = true /\ v = unc v0 /\ v.flat = true := ⟨_, EW h1, h2, h3, h4⟩
  unfold Pm
  split
  ·rename_i c hc; rw [hc] at uE; cases uE
  ·exact base
 cases g with
 | true =>
  obtain ⟨⟨h1, h2, h3⟩, h4⟩ := ht rfl
  exact ⟨_, .inl (step _ fun _ => ⟨h1, h2, rfl, h3⟩), Qr h4⟩
 | false => exact ⟨_, .inl (step .any (fun h => by cases h)), Qr (hf rfl)⟩
end
theorem AE {P : Program} {σ : St} {k : Fr} {A : Jj} {o : OpI} {l : KH} {j dj d : Nat} {want g : Bool} (hg : o.o.guard = some (j, want)) (hd : o.o.dst = some d)
  (sD : (A.ops[j]?).bind (·.dst) = some dj) (sK : xZ want (σ.get dj) = some g) (uQ : dj < σ.length) (hQ : g = false)
  (h : @EI P (σ.put d (.cnd false .any)) A l k) : @SI P σ A o l k := by
 subst hQ
 refine ⟨_, .inl ?_, Qr h⟩
 unfold Y6
 simp only [hg]
 exact ⟨dj, d, false, .any, sD, uQ, hd, sK, (fun h => by cases h), rfl⟩
def nth {α : Type} [Inhabited α] (l : List α) (i : Nat) : α := l.getD i default
theorem ZD {α : Type} [Inhabited α] {f : α -> List D} {l : List α} {i : Nat} (h : i < l.length) : rowAt (l.map f) i = f (nth l i) := by
 simp [rowAt, nth, h]
theorem Y4 {α : Type} {f : α -> List D} {l : List α} {i : Nat} {x : α} {r : List D} (h : r = f x) : (l.map f).set i r = (l.set i x).map f := by
 rw [h, List.map_set]
abbrev W (x : Int) : Int := IntKind.i64.wrap x
theorem Yg {x : Int} (h1 : -9223372036854775808 <= x) (h2 : x <= 9223372036854775807) : IntKind.i64.wrap x = x := by
 have hr : IntKind.i64.min <= x /\ x <= IntKind.i64.max := by
  constructor
  ·show -9223372036854775808 <= x; exact h1
  ·show x <= 9223372036854775807; exact h2
 simp only [IntKind.wrap]
 first
  | (simp [IntKind.bits, IntKind.signed]; omega)
  | omega
theorem KY (i : Nat) : ((i : Int) - 1).toNat = i - 1 := by omega
attribute [simp] St.fresh Ko V.ref V.Rc Yl VQ
end Go.Vm
namespace Go.Vm
open Go.RowKit
attribute [simp] St.Am HX Fy At.wv wV
section
variable {P : Program} {σ : St} {k : Fr}
end
end Go.Vm
namespace Go.Vm
open Go.RowKit
def At.isP (t : Nat) : At -> Bool
 | .tref u _ _ _ _ => u == t
 | .ptr u _ _ _ => u == t
 | _ => false
section
variable {P : Program} {T0 : CS} {B : Nat -> Prop} {σ : St} {a : Act} {w w' : World} {X X' : Nat -> Prop} {h : Nat -> Nat -> Hd}
theorem Rel.Ao (r : Rel T0 B σ a w X h) {t : Nat} {size : Nat} {rows : List (List At)} {news : List (List D)} {L : List (Nat × Nat)} (ho : σ.ob t 0 = .lit size rows) (s7 : JS σ rows = some news) (uj : JD σ rows)
  (hL : XE rows.flatten = L) (tN : L.Nodup) (mO : (t, 0) ∉ L) (hp : (σ.Zz L).zb (At.isP t) = false) : Q0 T0 B ((σ.Zz L).Zs t 0 (.arr true size news)) a w := by
 have ua : σ.ob t 0 ≠ .none := by rw [ho]; simp
 have h0 := r.obj t 0
 rw [ho] at h0
 obtain ⟨e, xs, sX, hz, uJ⟩ := h0
 obtain ⟨ff, lL, cv⟩ := yA s7
 have uK := P5 r uJ ff (zV uj) (by rw [hL]; exact tN)
 rw [hL] at uK
 have r1 := r.Zz L
 have ui := r.yI L
 have sN : ∀ b', (h t 0).u b' -> Qg σ h L b' -> False := by
  rintro b' sJ ⟨p, og, uH, iv⟩
  obtain ⟨q1, q2⟩ := r.inj t 0 p.1 p.2 b' ua uH sJ iv
  exact mO (by rw [q1, q2]; exact og)
 have rC : (σ.Zz L).ob t 0 = .lit size rows := by rw [St.Js, if_neg mO, ho]
 have mB : (σ.Zz L).ob t 0 ≠ .none := by rw [rC]; simp
 have tW : ∀ u i, ¬ (u = t /\ i = 0) -> ((σ.Zz L).Zs t 0 (.arr true size news)).ob u i = (σ.Zz L).ob u i := by
  intro u i uH
  rw [St.XK _ t 0 _ u i mB, if_neg uH]
 have tP : ((σ.Zz L).Zs t 0 (.arr true size news)).ob t 0 = .arr true size news := by rw [St.XK _ t 0 _ t 0 mB]; simp
 generalize hσ : (σ.Zz L).Zs t 0 (.arr true size news) = σ2 at *
 generalize hσ1 : σ.Zz L = σ1 at *
 have hlen : σ2.length = σ1.length := by rw [<- hσ, St.Y0]
 have tT : ∀ u, σ2.get u = σ1.get u := fun u => by rw [<- hσ, St.Xj]
 let uU : Hd := ⟨(h t 0).v, fun k => (xs[k]?).getD undef, fun b => (h t 0).u b \/ Qg σ h L b⟩
 let h' : Nat -> Nat -> Hd := fun u i => if u = t /\ i = 0 then uU else h u i
 have pK : ∀ u i, ¬ (u = t /\ i = 0) -> h' u i = h u i := fun u i uH => if_neg uH
 have gA : h' t 0 = uU := by simp [h']
 have hv : ∀ u i, (h' u i).v = (h u i).v := by
  intro u i
  by_cases hc : u = t /\ i = 0
  ·obtain ⟨rfl, rfl⟩ := hc; rw [gA]
  ·rw [pK u i hc]
 have at_ : ∀ {x : At} {v : Value}, At.isP t x = false -> YH (Tof T0 X) h σ1.ob w x v -> YH (Tof T0 X) h' σ2.ob w x v := by
  intro x v im rx
  cases x with
  | any => exact rx
  | d x => exact rx
  | nil s => exact rx
  | sref u i lo len =>
   refine ⟨rx.1, fun q s rws hq => ?_, fun s rws hq => ?_⟩
   ·by_cases hc : u = t /\ i = 0
    ·obtain ⟨rfl, rfl⟩ := hc
     rw [tP] at hq; cases hq
     rw [hv, <- lL]; exact rx.2.2 _ _ rC
    ·rw [tW u i hc] at hq; rw [hv]; exact rx.2.1 _ _ _ hq
   ·by_cases hc : u = t /\ i = 0
    ·obtain ⟨rfl, rfl⟩ := hc
     rw [tP] at hq; cases hq
    ·rw [tW u i hc] at hq; rw [hv]; exact rx.2.2 _ _ hq
  | ptr u i k c =>
   refine ⟨rx.1, fun q s rws hq => ?_⟩
   have hc : ¬ (u = t /\ i = 0) := fun hc => by simp [At.isP, hc.1] at im
   rw [tW u i hc] at hq; rw [hv]; exact rx.2 _ _ _ hq
  | bptr u c =>
   refine ⟨rx.1, fun cells hq => ?_⟩
   by_cases hc : u = t
   ·subst hc; rw [tP] at hq; cases hq
   ·rw [tW u 0 (fun hh => hc hh.1)] at hq; rw [hv]; exact rx.2 _ hq
  | fn f u =>
   refine ⟨rx.1, fun cells hq => ?_⟩
   by_cases hc : u = t
   ·subst hc; rw [tP] at hq; cases hq
   ·rw [tW u 0 (fun hh => hc hh.1)] at hq; rw [hv]; exact rx.2 _ hq
  | tref u i k c o =>
   refine ⟨rx.1, fun s rws hq => ?_⟩
   have hc : ¬ (u = t /\ i = 0) := fun hc => by simp [At.isP, hc.1] at im
   rw [tW u i hc] at hq; rw [pK u i hc]; exact rx.2 _ _ hq
  | rptr rr c => exact rx
 have tX : ∀ u i, σ2.ob u i ≠ .none -> σ1.ob u i ≠ .none := by
  intro u i hn
  by_cases hc : u = t /\ i = 0
  ·obtain ⟨rfl, rfl⟩ := hc; exact mB
  ·rw [tW u i hc] at hn; exact hn
 refine ⟨X, h', by rw [r1.size, hlen], r1.defers, r1.hB, r1.hX, r1.hT, fun u hu => ?_, fun u i => ?_, fun u i b hn hb => ?_, fun u i b hn hb => ?_, fun u i u' i' b hn tE hb uP => ?_⟩
 ·rw [hlen] at hu
  rw [tT]; exact QK.map at_ (St.N2 hp u) (r1.slot u hu)
 ·by_cases hc : u = t /\ i = 0
  ·obtain ⟨rfl, rfl⟩ := hc
   rw [tP, gA]
   refine ⟨e, xs, by rw [<- lL]; exact sX, cv size hz, uK.mono (fun b hb => ⟨.inr hb, fun rZ => sN b (r.ub u 0 b ua rZ) hb⟩), fun k x d hx _ _ => by simp [uU, hx]⟩
  ·rw [tW u i hc, pK u i hc]
   exact Qs.map at_ (fun b k v hb hc => ⟨hc, hb⟩) (fun ho b => r1.ub u i b ho) (fun _ _ _ => rfl) (St.H3 hp u i) (r1.obj u i)
 ·by_cases hc : u = t /\ i = 0
  ·obtain ⟨rfl, rfl⟩ := hc
   rw [gA] at hb ⊢; exact .inl (r.ub u 0 b ua hb)
  ·rw [pK u i hc] at hb ⊢; exact r1.ub u i b (tX u i hn) hb
 ·by_cases hc : u = t /\ i = 0
  ·obtain ⟨rfl, rfl⟩ := hc
   rw [gA] at hb
   rcases hb with hb | hb
   ·exact r.own u 0 b ua hb
   ·have := ui b hb; exact ⟨this.1, this.2.1, this.2.2.1⟩
  ·rw [pK u i hc] at hb; exact r1.own u i b (tX u i hn) hb
 ·have key : ∀ u i b, ¬ (u = t /\ i = 0) -> σ1.ob u i ≠ .none -> (h u i).u b -> (h' t 0).u b -> False := by
   intro u i b hc hn hb uP
   rw [gA] at uP
   rcases uP with uP | uP
   ·exact hc (r1.inj u i t 0 b hn mB hb uP)
   ·exact (ui b uP).2.2.2 u i hn hb
  by_cases hc : u = t /\ i = 0
  ·by_cases tB : u' = t /\ i' = 0
   ·exact ⟨hc.1.trans tB.1.symm, hc.2.trans tB.2.symm⟩
   ·obtain ⟨rfl, rfl⟩ := hc
    rw [pK u' i' tB] at uP
    exact (key u' i' b tB (tX u' i' tE) uP hb).elim
  ·rw [pK u i hc] at hb
   by_cases tB : u' = t /\ i' = 0
   ·obtain ⟨rfl, rfl⟩ := tB
    exact (key u i b hc (tX u i hn) hb uP).elim
   ·rw [pK u' i' tB] at uP
    exact r1.inj u i u' i' b (tX u i hn) (tX u' i' tE) hb uP
end
section
variable {P : Program} {σ : St} {k : Fr}
theorem Cc {A : Jj} {o : OpI} {l : KH} {d : Nat} {T : TypeId} {n : Nat} {parts : Array (Nat × Operand)} {news : List (List D)} {L : List (Nat × Nat)} (uE : o.o.op = .buildSlice T n parts) (hg : o.o.guard = none) (hd : o.o.dst = some d) (uy : A.bar o.o = true)
  (h1 : (σ.fresh d = true /\ d < σ.length) /\ Y2 P T = true /\ Xn P (ZR P T) = true /\ 0 < P.cellsOf (ZR P T) /\ parts.toList.length = n /\ n * P.cellsOf (ZR P T) <= 16777216) (h2 : (Jv P σ (ZR P T) (P.cellsOf (ZR P T)) parts.toList 0).1)
  (h3 : YN d (Jv P σ (ZR P T) (P.cellsOf (ZR P T)) parts.toList 0).2.flatten = false)
  (h4 : JS (σ.new d (.one (.sref d 0 0 (Jv P σ (ZR P T) (P.cellsOf (ZR P T)) parts.toList 0).2.length)) [.lit (P.cellsOf (ZR P T)) (Jv P σ (ZR P T) (P.cellsOf (ZR P T)) parts.toList 0).2]) (Jv P σ (ZR P T) (P.cellsOf (ZR P T)) parts.toList 0).2 = some news /\
   JD (σ.new d (.one (.sref d 0 0 (Jv P σ (ZR P T) (P.cellsOf (ZR P T)) parts.toList 0).2.length)) [.lit (P.cellsOf (ZR P T)) (Jv P σ (ZR P T) (P.cellsOf (ZR P T)) parts.toList 0).2]) (Jv P σ (ZR P T) (P.cellsOf (ZR P T)) parts.toList 0).2)
  (h5 : XE (Jv P σ (ZR P T) (P.cellsOf (ZR P T)) parts.toList 0).2.flatten = L /\ L.Nodup /\ (d, 0) ∉ L)
  (h6 : ((σ.new d (.one (.sref d 0 0 (Jv P σ (ZR P T) (P.cellsOf (ZR P T)) parts.toList 0).2.length)) [.lit (P.cellsOf (ZR P T)) (Jv P σ (ZR P T) (P.cellsOf (ZR P T)) parts.toList 0).2]).Zz L).zb (At.isP d) = false)
  (h : @EI P (((σ.new d (.one (.sref d 0 0 (Jv P σ (ZR P T) (P.cellsOf (ZR P T)) parts.toList 0).2.length)) [.lit (P.cellsOf (ZR P T)) (Jv P σ (ZR P T) (P.cellsOf (ZR P T)) parts.toList 0).2]).Zz L).Zs d 0 (.arr true (P.cellsOf (ZR P T)) news)) A l k) : @SI P σ A o l k := by
 refine ⟨_, .inr ⟨uy, ?_, fun d' uU hc => Xp (Qb (kI (fun e => uU (by rw [hd, e])) hc)), fun hh => by simp [W0, uE] at hh, fun hh => by first | (simp [jk, uE] at hh; done) | (unfold jk at hh; rw [uE] at hh; split at hh <;> simp_all), fun hh _ => by first | (simp [Jq, uE] at hh; done) | (unfold Jq at hh; rw [uE] at hh; split at hh <;> simp_all)⟩, Qr h⟩
 rintro T0 B a w K Q' ⟨X, hh, r⟩ hK
 have hw : Region.wanted o.o (yielded A.ops a.tmps) = true := by simp [Region.wanted, hg]
 rw [if_pos hw]
 refine TC r uE hd h1.1.1 h1.2.1 h1.2.2.1 h1.2.2.2.1 h1.2.2.2.2.1 h1.2.2.2.2.2 (LD h2) h3 (fun a' w' hr hR => hK a' w' ?_ hR)
 obtain ⟨X', pK, r'⟩ := hr
 exact Rel.Ao r' (by rw [St.Qj, if_pos ⟨rfl, h1.1.2⟩]; rfl) h4.1 h4.2 h5.1 h5.2.1 h5.2.2 h6
end
attribute [simp] At.isP
theorem YR.own {P : Program} {f : FuncId} {args res : List (List D)} (hs : YR P f args res) : QH P f true args res := by
 refine ⟨hs.1, fun T w u6 hT ha => (hs.2 T w u6 hT ha).mono ?_⟩
 rintro e w' ⟨vs, uq, he, hb, hf, hl, ⟨hlen, Sk, h1, h2, h3⟩⟩
 refine ⟨vs, uq, fun b => (w.heap.size <= b /\ b < w'.heap.size) /\ ∀ (k : Nat) (c : Value) (d : D), uq.flatten[k]? = some c -> res.flatten[k]? = some d -> d.scalar = false -> blk c ≠ some b, he, hb, fun b hb => hb.1, hf, yy hl (fun k x d hx hd => ?_), fun _ => ⟨fun i c d b hc hd tL n8 => ?_, fun i j c c' d d' b hc hd tB uU tL mY n8 fu => ?_⟩⟩
 ·simp only [yO, if_true]
  have ho := h1 k x d hx hd
  cases ho with
  | int k n => exact .int _ _
  | bool b => exact .bool _
  | str s => exact .str _
  | unk v h => exact .unk _ h
  | sl v size rows S e' xs nZ ho hz uP bB hk nn uU =>
   refine ⟨e', xs, ho, hz, Z5.zq bB (fun i y dd hy sP => (hk i y dd hy sP).rd (fun b k' hb => .inr ⟨h2 k b (nn i b hb).1, fun k2 c2 d2 pk ph mA hU => ?_⟩))⟩
   have sZ := h1 k2 c2 d2 pk ph
   have na : Sk k2 b := by
    cases sZ with
    | int k n => cases mA
    | bool b => cases mA
    | str s => cases mA
    | unk => cases mA
    | sl v2 mV mW S2 e2 er et sZ lC tA n7 ou uO gB => exact tA b hU
   have := h3 k k2 b (nn i b hb).1 na
   subst this
   rw [hx] at pk; cases pk
   exact (nn i b hb).2 hU
 ·have sZ := h1 i c d hc hd
  have na : Sk i b := by
   cases sZ with
   | int k n => cases tL
   | bool b => cases tL
   | str s => cases tL
   | unk => cases tL
   | sl v2 mV mW S2 e2 er et sZ lC tA n7 ou uO gB => exact tA b n8
  have := h2 i b na
  exact ⟨this.1, this.2, fun hy => hy.2 i c d hc hd tL n8⟩
 ·have na : ∀ (i : Nat) (c : Value) (d : D), uq.flatten[i]? = some c -> res.flatten[i]? = some d -> d.scalar = false -> blk c = some b -> Sk i b := by
   intro i c d hc hd tL n8
   have sZ := h1 i c d hc hd
   cases sZ with
   | int k n => cases tL
   | bool b => cases tL
   | str s => cases tL
   | unk => cases tL
   | sl v2 mV mW S2 e2 er et sZ lC tA n7 ou uO gB => exact tA b n8
  exact h3 i j b (na i c d hc hd tL n8) (na j c' d' tB uU mY fu)
end Go.Vm
namespace Go.Vm
open Go.RowKit
def I6 (σ : St) (F : List (Nat × Nat)) : At -> At
 | .sref t j lo len => if inF F t j then (match σ.ob t j with | .arr _ s rows => .d (.sl s (cut rows lo len)) | _ => .any) else .sref t j lo len
 | .ptr t j i c => if inF F t j then .any else .ptr t j i c
 | .tref t j i c o => if inF F t j then .any else .tref t j i c o
 | x => x
def wO (σ : St) (F : List (Nat × Nat)) : V -> V
 | .one x => .one (I6 σ F x)
 | .agg xs => .agg (xs.map (I6 σ F))
 | .fix u (.one x) => .fix u (.one (I6 σ F x))
 | .fix u (.agg xs) => .fix u (.agg (xs.map (I6 σ F)))
 | _ => .any
def B7 (σ : St) (F : List (Nat × Nat)) (t j : Nat) (o : Ob) : Ob :=
 if inF F t j then .none else match o with | .box cs => .box (cs.map (I6 σ F)) | .lit _ _ => .none | o => o
def F5 (σ : St) (F : List (Nat × Nat)) (t : Nat) : List Ob -> Nat -> List Ob
 | [], _ => []
 | o :: os, j => B7 σ F t j o :: F5 σ F t os (j + 1)
def RP (σ : St) (F : List (Nat × Nat)) : List Ent -> Nat -> List Ent
 | [], _ => []
 | e :: es, t => (wO σ F e.1, F5 σ F t e.2 0) :: RP σ F es (t + 1)
def St.frz (σ : St) (F : List (Nat × Nat)) : St := RP σ F σ 0
theorem Ir {F : List (Nat × Nat)} : ∀ {σ0 : St} {es : List Ent} {t d : Nat}, Xd es d = true -> Xd (RP σ0 F es t) d = true
 | σ0, [], t, d, h => by simp [Xd] at h
 | σ0, e :: es, t, 0, h => by
  rw [yP] at h ⊢
  rcases h with h | ⟨x, h⟩
  ·left; simp only [List.getElem?_cons_zero, Option.some.injEq] at h; subst h; rfl
  ·right; simp only [List.getElem?_cons_zero, Option.some.injEq] at h; subst h; exact ⟨x, rfl⟩
 | σ0, e :: es, t, d + 1, h => by
  have : Xd es d = true := by rw [yP] at h ⊢; simpa using h
  have := Ir (F := F) (σ0 := σ0) (es := es) (t := t + 1) this
  rw [yP] at this ⊢
  simpa [RP] using this
section
variable {P : Program} {σ : St} {k : Fr}
theorem wG {A : Jj} {o : OpI} {l : KH} {σ' : St} (uy : A.bar o.o = true) (hw : Wk σ σ') (hc : ∀ d, Xd σ d = true -> Xd σ' d = true) (pc : W0 o.o = false) (ft : jk o.o = false) (r8 : Jq P o.o = false \/ SA A.bar o.o = false) (h : @SI P σ' A o l k) : @SI P σ A o l k := by
 obtain ⟨σ'', hs, hr⟩ := h
 refine ⟨σ'', .inr ⟨uy, fun T0 B a w K Q tw hK => TX hs T0 B a w K Q (hw T0 B a w tw) hK, fun d hd uu => ?_, fun hh => (by rw [pc] at hh; cases hh), fun hh => (by rw [ft] at hh; cases hh), fun hh ho => (by rcases r8 with r8 | r8 <;> (first | (rw [r8] at hh; cases hh) | (rw [r8] at ho; cases ho)))⟩, hr⟩
 have h1 := hc d uu
 rcases hs with hs | hs
 ·exact Mr hs hd h1
 ·exact hs.2.2.1 d hd h1
theorem jh {A : Jj} {o : OpI} {l : KH} (F : List (Nat × Nat)) (uy : A.bar o.o = true) (hw : Uo σ [] F σ (σ.frz F) 0) (h : @SI P (σ.frz F) A o l k) (pc : W0 o.o = false := by exact rfl) (ft : jk o.o = false := by exact rfl) (r8 : Jq P o.o = false \/ SA A.bar o.o = false := by first | exact .inl rfl | exact .inr rfl) : @SI P σ A o l k :=
 wG uy (XA [] F rfl hw) (fun _ hd => Ir hd) pc ft r8 h
end
attribute [simp] I6 wO B7 F5 RP St.frz
end Go.Vm
namespace Go.Vm
end Go.Vm
namespace Go.Vm
theorem wJ (P : Program) {σ σ' : St} {qq : Bool} (q2 : Bool) {d u j n size : Nat} {rows : List (List D)} (oy : σ.get d = .one (.sref u j 0 n)) (ho : σ.ob u j = .arr qq size rows) (hle : n <= rows.length) (gG : q2 = true -> qq = true) (tD : (σ.Zs u j .none).fresh d = true)
  (h : Wk ((σ.Zs u j .none).new d (.one (.sref d 0 0 (rows.take n).length)) [.arr q2 size (rows.take n)]) σ') : Wk σ σ' := by
 have e : (rows.take n).length = n := by rw [List.length_take]; omega
 rw [e] at h
 rintro T0 B a w ⟨X, hh, r⟩
 refine h T0 B a w ?_
 have hv : YQ P σ (Oper.mk (some d) (.move (.tmp d)) 0 "" #[] none).op 0 (.one (.sref u j 0 n)) := by
  show V.one (.sref u j 0 n) = look P σ 0 (.tmp d)
  rw [<- oy]; rfl
 have key : ∀ (K : Act -> World -> Prop) (Q : Exit -> Act -> World -> Prop), (∀ a' w', Q0 T0 B ((σ.Zs u j .none).new d (.one (.sref d 0 0 n)) [.arr q2 size (rows.take n)]) a' w' -> Yr B w w' -> K a' w') -> (Oper.mk (some d) (.move (.tmp d)) 0 "" #[] none).wp P a w K Q := by
  intro K Q hK
  cases qq with
  | false =>
   cases q2 with
   | false => exact Dl r rfl hv ho hle tD hK
   | true => cases gG rfl
  | true =>
   cases q2 with
   | false => exact Dv r rfl hv ho hle tD hK
   | true => exact Dy r rfl hv ho hle tD hK
 have k2 := key (fun a' w' => w' = w -> Q0 T0 B ((σ.Zs u j .none).new d (.one (.sref d 0 0 n)) [.arr q2 size (rows.take n)]) a' w') (fun _ _ _ => True) (fun a' w' hr _ _ => hr)
 unfold Oper.wp at k2
 simp only [execOp, Sem.run_pure, Oper.upon_value] at k2
 have k3 := k2 trivial
 have e2 : a.put (some d) (a.eval (.tmp d)) = a := by
  show { a with tmps := a.tmps.setIfInBounds d (a.tmps.getD d undef) } = a
  have : a.tmps.setIfInBounds d (a.tmps.getD d undef) = a.tmps := by
   apply Array.ext
   ·simp
   ·intro i h1 h2
    rw [Array.getElem_setIfInBounds]
    split
    ·rename_i hi; subst hi; simp [Array.getD, h2]
    ·rfl
  rw [this]
 rw [e2] at k3
 exact k3
end Go.Vm
namespace Go.Vm
open Go.RowKit
abbrev ptr (b : Nat) : Value := .pointer (some ⟨b, 0, none⟩)
abbrev G5 (T : CS) (w : World) (u6 : List Value) (args : List (List D)) : Prop := Z5 (fun v row => ∃ cs, Kk v cs /\ Z5 (Rd T w) cs row) u6 args
def yr (n : Nat) (pre : List (List D)) (v : Value) (cells : List At) (sO : List Ob) (post : List (List D)) : St :=
 Sx pre ++ (.fix v (.one (.bptr pre.length 0)), .box cells :: sO) :: (Sx post ++ List.replicate (n - (pre.length + 1 + post.length)) (V.any, []))
section
variable {P : Program} {T0 : CS} {B : Nat -> Prop} {σ : St} {a : Act} {w w' : World} {X X' : Nat -> Prop} {h : Nat -> Nat -> Hd}
theorem DJ (post : List (List D)) (m t : Nat) : ∃ x, (match (Sx post ++ List.replicate m ((V.any, []) : Ent))[t]? with | some e => e | none => (V.any, [])) = (x, []) /\ (x = .any \/ ∃ r, post[t]? = some r /\ x = vOf (r.map .d)) := by
 rcases Nat.lt_or_ge t post.length with h | h
 ·rw [List.getElem?_append_left (by rw [QR]; exact h), TN, List.getElem?_eq_getElem h]
  exact ⟨_, rfl, .inr ⟨_, rfl, rfl⟩⟩
 ·rw [List.getElem?_append_right (by rw [QR]; exact h), List.getElem?_replicate]
  refine ⟨.any, ?_, .inl rfl⟩
  split
  ·rename_i e he
   split at he
   ·cases he; rfl
   ·cases he
  ·rfl
theorem CV (n : Nat) (pre : List (List D)) (v : Value) (cells : List At) (sO : List Ob) (post : List (List D)) (t : Nat) :
  (t = pre.length /\ (yr n pre v cells sO post)[t]? = some (.fix v (.one (.bptr pre.length 0)), .box cells :: sO)) \/
  (t ≠ pre.length /\ (∀ j, (yr n pre v cells sO post).ob t j = .none) /\ ((yr n pre v cells sO post).get t = .any \/ ∃ r, (yr n pre v cells sO post).get t = vOf (r.map .d) /\ ((t < pre.length /\ pre[t]? = some r) \/ (pre.length < t /\ post[t - pre.length - 1]? = some r)))) := by
 rcases Nat.lt_trichotomy t pre.length with h | h | h
 ·refine .inr ⟨by omega, ?_⟩
  have : (yr n pre v cells sO post)[t]? = some (vOf (pre[t].map .d), []) := by
   unfold yr
   rw [List.getElem?_append_left (by rw [QR]; exact h), TN, List.getElem?_eq_getElem h]; rfl
  refine ⟨fun j => by unfold St.ob; rw [this]; simp [YU], .inr ⟨pre[t], by unfold St.get; rw [this], .inl ⟨h, List.getElem?_eq_getElem h⟩⟩⟩
 ·refine .inl ⟨h, ?_⟩
  unfold yr
  rw [List.getElem?_append_right (by rw [QR]; omega), QR, h, Nat.sub_self]; rfl
 ·refine .inr ⟨by omega, ?_⟩
  have e1 : (yr n pre v cells sO post)[t]? = (Sx post ++ List.replicate (n - (pre.length + 1 + post.length)) ((V.any, []) : Ent))[t - pre.length - 1]? := by
   unfold yr
   rw [List.getElem?_append_right (by rw [QR]; omega), QR, show t - pre.length = (t - pre.length - 1) + 1 by omega, List.getElem?_cons_succ]; rfl
  obtain ⟨x, hx, hr⟩ := DJ post (n - (pre.length + 1 + post.length)) (t - pre.length - 1)
  rw [<- e1] at hx
  constructor
  ·intro j
   unfold St.ob
   cases hq : (yr n pre v cells sO post)[t]? with
   | none => rfl
   | some e => rw [hq] at hx; simp only at hx; rw [hx]; simp [YU]
  ·have hg : (yr n pre v cells sO post).get t = x := by
    unfold St.get
    cases hq : (yr n pre v cells sO post)[t]? with
    | none => rw [hq] at hx; simp only at hx; injection hx
    | some e => rw [hq] at hx; simp only at hx; rw [hx]
   rcases hr with rfl | ⟨r, hr, rfl⟩
   ·exact .inl hg
   ·exact .inr ⟨r, hg, .inr ⟨h, hr⟩⟩
theorem DC {T : CS} {S : Nat -> Prop} {n b : Nat} {pre post : List (List D)} {cells : List At} {sO : List Ob} {sA sT : List Value} (hd : Nat -> Hd)
  (hT : ∀ k i, T k i -> k < w.heap.size /\ k ≠ b /\ ¬ S k) (hS : ∀ k, S k -> k < w.heap.size /\ k ≠ b) (hb : b < w.heap.size) (h0 : hd 0 = Hd.of (ptr b))
  (sk : ∀ (h : Nat -> Nat -> Hd) (ob : Nat -> Nat -> Ob), (∀ j, h pre.length j = hd j) -> (∀ j, ob pre.length j = YU (.box cells :: sO) j) -> Qs (Tof T (fun _ => False)) h ob w (hd 0) (.box cells))
  (tW : ∀ (h : Nat -> Nat -> Hd) (ob : Nat -> Nat -> Ob) (j : Nat), Qs (Tof T (fun _ => False)) h ob w (hd (j + 1)) (YU sO j))
  (th : ∀ j k, YU sO j ≠ .none -> blk (hd (j + 1)).v = some k -> (hd (j + 1)).u k) (uK : ∀ j k, YU sO j ≠ .none -> (hd (j + 1)).u k -> S k)
  (nL : ∀ i j k, YU sO i ≠ .none -> YU sO j ≠ .none -> (hd (i + 1)).u k -> (hd (j + 1)).u k -> i = j) (ib : G5 T w sA pre) (eg : G5 T w sT post) :
  Q0 T (fun k => k < w.heap.size /\ k ≠ b /\ ¬ S k) (yr n pre (ptr b) cells sO post) { tmps := (sA ++ ptr b :: sT).toArray ++ Array.replicate (n - (sA ++ ptr b :: sT).toArray.size) undef, defers := [] } w := by
 have ia := ib.length
 have n7 := eg.length
 have ru := CV n pre (ptr b) cells sO post
 have tC : ∀ j, (yr n pre (ptr b) cells sO post).ob pre.length j = YU (.box cells :: sO) j := by
  intro j
  rcases ru pre.length with ⟨_, h⟩ | ⟨h, _⟩
  ·unfold St.ob; rw [h]
  ·exact absurd rfl h
 have nX : ∀ t j, (yr n pre (ptr b) cells sO post).ob t j ≠ .none -> t = pre.length := by
  intro t j hn
  rcases ru t with ⟨h, _⟩ | ⟨_, h, _⟩
  ·exact h
  ·exact absurd (h j) hn
 have oo : ∀ b k v, T b k -> w.cell? ⟨b, k, none⟩ = some v -> w.cell? ⟨b, k, none⟩ = some v /\ Tof T (fun _ => False) b k := fun b k v hb hc => ⟨hc, .inl hb⟩
 have eA : ∀ k, (hd 0).u k ↔ k = b := fun k => by rw [h0]; simp [Hd.of, blk, eq_comm]
 have sf : ∀ j, YU (.box cells :: sO) j ≠ .none -> (j = 0 \/ ∃ i, j = i + 1 /\ YU sO i ≠ .none) := by
  intro j hn
  cases j with
  | zero => exact .inl rfl
  | succ j => exact .inr ⟨j, rfl, by rw [Po] at hn; exact hn⟩
 have cy : ∀ j k, YU (.box cells :: sO) j ≠ .none -> (hd j).u k -> k = b \/ S k := by
  intro j k hn hu
  rcases sf j hn with rfl | ⟨i, rfl, hi⟩
  ·exact .inl ((eA k).1 hu)
  ·exact .inr (uK i k hi hu)
 have mS : ∀ {u6 : List Value} {args : List (List D)} {t : Nat} {r : List D}, G5 T w u6 args -> args[t]? = some r -> ∃ v, u6[t]? = some v /\ QK (Tof T (fun _ => False)) (fun t j => if t = pre.length then hd j else Hd.of undef) (yr n pre (ptr b) cells sO post).ob w (vOf (r.map .d)) v := by
  intro u6 args t r ha hr
  obtain ⟨v, hv, cs, hf, uJ⟩ := ha.get' t r hr
  exact ⟨v, hv, (Nl hf (kD (uJ.imp fun _ _ => Rd.mono oo))).up⟩
 refine ⟨fun _ => False, fun t j => if t = pre.length then hd j else Hd.of undef, ?_⟩
 refine ⟨?_, rfl, (fun k hk => hk.1), (fun b hb => hb.elim), (fun k i hk => hT k i hk), fun t ht => ?_, fun t j => ?_, fun t j k hn hk => ?_, fun t j k hn hk => ?_, fun t j t' j' k hn tE hk s9 => ?_⟩
 ·simp [yr, QR, ia, n7]; omega
 ·rcases ru t with ⟨rfl, h⟩ | ⟨uH, _, h⟩
  ·have rH : ((sA ++ ptr b :: sT).toArray ++ Array.replicate (n - (sA ++ ptr b :: sT).toArray.size) undef).getD pre.length undef = ptr b := by
    rw [Array.getD_eq_getD_getElem?, Array.getElem?_append_left (by simp; omega)]
    simp [<- ia]
   rw [rH]
   unfold St.get; rw [h]
   exact ⟨rfl, rfl, fun uN _ => ⟨b, by simp [h0, Hd.of], rfl⟩⟩
  ·rcases h with h | ⟨r, h, hr⟩
   ·rw [h]; trivial
   ·rw [h]
    rcases hr with ⟨uQ, hr⟩ | ⟨uQ, hr⟩
    ·obtain ⟨v, hv, tw⟩ := mS ib hr
     have rH : ((sA ++ ptr b :: sT).toArray ++ Array.replicate (n - (sA ++ ptr b :: sT).toArray.size) undef).getD t undef = v := by
      rw [Array.getD_eq_getD_getElem?, Array.getElem?_append_left (by simp; omega)]
      simp [List.getElem?_append_left (show t < sA.length by omega), hv]
     simp only [rH]; exact tw
    ·obtain ⟨v, hv, tw⟩ := mS eg hr
     have g7 := (List.getElem?_eq_some_iff.1 hv).1
     have rH : ((sA ++ ptr b :: sT).toArray ++ Array.replicate (n - (sA ++ ptr b :: sT).toArray.size) undef).getD t undef = v := by
      rw [Array.getD_eq_getD_getElem?, Array.getElem?_append_left (by simp; omega)]
      simp only [List.getElem?_toArray]
      rw [List.getElem?_append_right (by omega), show t - sA.length = (t - pre.length - 1) + 1 by omega, List.getElem?_cons_succ, hv]; rfl
     simp only [rH]; exact tw
 ·by_cases hn : (yr n pre (ptr b) cells sO post).ob t j = .none
  ·rw [hn]; trivial
  ·obtain rfl := nX t j hn
   rw [tC]
   simp only [if_true]
   cases j with
   | zero => exact sk _ _ (fun j => by simp) tC
   | succ j => rw [Po]; exact tW _ _ j
 ·obtain rfl := nX t j hn
  rw [tC] at hn
  simp only [if_true] at hk ⊢
  rcases sf j hn with rfl | ⟨i, rfl, hi⟩
  ·rw [h0] at hk ⊢; exact hk
  ·exact th i k hi hk
 ·obtain rfl := nX t j hn
  rw [tC] at hn
  simp only [if_true] at hk
  rcases cy j k hn hk with rfl | hs
  ·exact ⟨fun hh => hh.2.1 rfl, fun hh => hh, hb⟩
  ·exact ⟨fun hh => hh.2.2 hs, fun hh => hh, (hS k hs).1⟩
 ·obtain rfl := nX t j hn
  obtain rfl := nX t' j' tE
  rw [tC] at hn tE
  simp only [if_true] at hk s9
  refine ⟨rfl, ?_⟩
  rcases sf j hn with rfl | ⟨i, rfl, hi⟩
  ·rcases sf j' tE with rfl | ⟨i', rfl, tk⟩
   ·rfl
   ·exact absurd ((eA k).1 hk) (hS k (uK i' k tk s9)).2
  ·rcases sf j' tE with rfl | ⟨i', rfl, tk⟩
   ·exact absurd ((eA k).1 s9) (hS k (uK i k hi hk)).2
   ·rw [nL i i' k hi tk hk s9]
end
end Go.Vm
namespace Go.Vm
open Go.RowKit
def AH (dp : Bool) (T : CS) (w : World) (b : Nat) (uW : List D) (res : List (List D)) (e : Ending) (w' : World) : Prop :=
 ∃ (vs : List Value) (uq : List (List Value)) (Y : Nat -> Prop), e = .returned (TQ vs) /\ Yr (fun k => k < w.heap.size /\ k ≠ b) w w' /\ (∀ k, Y k -> w.heap.size <= k /\ k < w'.heap.size) /\
  (∃ cs e', w'.heap[b]? = some (.cells cs e' (0, 0)) /\ Z5 (Rd (Tof T Y) w') cs.toList uW) /\ Z5 Kk vs uq /\ Z5 (fun (cs : List Value) (row : List D) => cs.length = row.length) uq res /\
  (if dp then Qt w' uq.flatten res.flatten (fun k => w.heap.size <= k /\ k < w'.heap.size /\ ¬ Y k) else Z5 (fun cs row => Z5 (Rd (Tof T Y) w') cs row) uq res)
def zc (P : Program) (f : FuncId) (dp : Bool) (row : List D) (args : List (List D)) (uW : List D) (res : List (List D)) : Prop :=
 T1 P f = true /\ ∀ (T : CS) (w : World) (b : Nat) (u6 : List Value), (∀ k i, T k i -> k < w.heap.size /\ k ≠ b) -> b < w.heap.size -> (∃ cs e, w.heap[b]? = some (.cells cs e (0, 0)) /\ Z5 (Rd T w) cs.toList row) ->
  G5 T w u6 args -> Calls P f (ptr b :: u6).toArray w (AH dp T w b uW res)
def Aa (P : Program) (fn : Func) (v : Value) (dp : Bool) (uW : List D) (res : List (List D)) (e : Exit) (σ : St) : Prop :=
 (e = .ret \/ e = .normal) /\ (∃ sO, σ.head? = some (.fix v (.one (.bptr 0 0)), .box (uW.map .d) :: sO)) /\ ∃ tY, TJ P σ fn.results.toList tY /\
  (if dp then JS σ tY = some res /\ JD σ tY /\ (XE tY.flatten).Nodup else qZ σ tY = some res)
def Pz (P : Program) (f : FuncId) (args : List (List D)) (uW : List D) : Prop :=
 T1 P f = true /\ ∀ (T : CS) (w : World) (u6 : List Value), (∀ k i, T k i -> k < w.heap.size) -> G5 T w u6 args ->
  Calls P f u6.toArray w fun e w' => ∃ b Y, e = .returned (ptr b) /\ Below w.heap.size w w' /\ w.heap.size <= b /\ b < w'.heap.size /\ (∀ k, Y k -> w.heap.size <= k /\ k < w'.heap.size /\ k ≠ b) /\ ∃ cs e', w'.heap[b]? = some (.cells cs e' (0, 0)) /\ Z5 (Rd (Tof T Y) w') cs.toList uW
def Ag (P : Program) (fn : Func) (uW : List D) (e : Exit) (σ : St) : Prop :=
 (e = .ret \/ e = .normal) /\ ∃ u, TJ P σ fn.results.toList [[.bptr u 0]] /\ σ.ob u 0 = .box (uW.map .d)
section
variable {P : Program} {T0 : CS} {B : Nat -> Prop} {σ : St} {a : Act} {w w' : World} {X X' : Nat -> Prop} {h : Nat -> Nat -> Hd}
theorem Um {T : CS} {ob : Nat -> Nat -> Ob} : ∀ {row : List D} {cs : List Value}, Z5 (YH T h ob w) (row.map .d) cs -> Z5 (Rd T w) cs row
 | [], _, uJ => by cases uJ; exact .nil
 | _ :: _, _, uJ => by cases uJ with | cons h1 h2 => exact .cons h1 (Um h2)
theorem Ly {f : FuncId} {fn : Func} {c : Code} (hf : P.funcs[f]? = some fn) (hb : fn.body = some c) (uj : T1 P f = true) {dp : Bool} {row : List D} {args : List (List D)} {uW : List D} {res : List (List D)}
  (hw : ∀ v, AWP P c (Aa P fn v dp uW res) (yr fn.ntmps [] v (row.map .d) [] args)) : zc P f dp row args uW res := by
 refine ⟨uj, fun T w b u6 hT uP ⟨cm, e0, fO, m0⟩ uL => calls_of_wp hf hb ?_⟩
 have mT := DC (w := w) (T := T) (S := fun _ => False) (n := fn.ntmps) (b := b) (pre := []) (post := args) (cells := row.map .d) (sO := []) (sA := []) (sT := u6) (fun _ => Hd.of (ptr b))
  (fun k i hk => ⟨(hT k i hk).1, (hT k i hk).2, fun hh => hh⟩) (fun k hk => hk.elim) uP rfl
  (fun h ob _ _ => ⟨b, cm, e0, rfl, fO, kD (m0.imp fun _ _ => Rd.mono (fun b k v hb hc => ⟨hc, .inl hb⟩))⟩) (fun h ob j => by simp [YU, Qs]) (fun j k hn => by simp [YU] at hn) (fun j k hn => by simp [YU] at hn) (fun i j k hn => by simp [YU] at hn) .nil uL
 simp only [List.nil_append] at mT
 refine wp_mono (hw (ptr b) T _ _ w mT) ?_
 rintro e a' w' ⟨σ', ⟨he, ⟨sO, nM⟩, tY, sL, uM⟩, ⟨X, h, r⟩, uZ⟩
 obtain ⟨vs, uq, uY, ur, uJ⟩ := Wf r sL
 have tO : 0 < σ'.length := by
  cases σ' with
  | nil => simp at nM
  | cons e σ => simp
 have lO : σ'.get 0 = .fix (ptr b) (.one (.bptr 0 0)) := by
  cases σ' with
  | nil => simp at nM
  | cons e σ => simp at nM; simp [St.get, nM]
 have tQ : σ'.ob 0 0 = .box (uW.map .d) := by
  cases σ' with
  | nil => simp at nM
  | cons e σ => simp at nM; simp [St.ob, nM, YU]
 have mU := r.slot 0 tO
 rw [lO] at mU
 obtain ⟨fy, si⟩ := mU
 obtain ⟨b1, tf, tU⟩ := si.2 _ tQ
 rw [fy] at tU
 have rZ : b1 = b := by injection tU with tU; injection tU with tU; injection tU with tU; exact tU.symm
 subst rZ
 have sf := r.obj 0 0
 rw [tQ] at sf
 obtain ⟨b2, mR, e', tA, pK, pa⟩ := sf
 rw [tf] at tA
 have rZ : b2 = b1 := by injection tA with tA; injection tA with tA; injection tA with tA; exact tA.symm
 subst rZ
 have nY : Yr (fun k => k < w.heap.size /\ k ≠ b2) w w' := ⟨uZ.os, uZ.tape, uZ.output, uZ.size, fun k hk => uZ.block k ⟨hk.1, hk.2, fun hh => hh⟩⟩
 have cz : ∀ k, X k -> k = b2 -> False := by
  rintro k hx rfl
  have th := r.ub 0 0 k (by rw [tQ]; simp) (by rw [tf]; rfl)
  exact (r.own 0 0 k (by rw [tQ]; simp) th).2.1 hx
 have eC : ∀ k, X k -> w.heap.size <= k /\ k < w'.heap.size := by
  intro k hk
  have h1 := r.hX k hk
  refine ⟨?_, h1.2⟩
  rcases Nat.lt_or_ge k w.heap.size with uQ | r6
  ·exact absurd ⟨uQ, fun hh => cz k hk hh, fun hh => hh⟩ h1.1
  ·exact r6
 have goal : a'.defers = [] /\ ∃ v, (results fn a'.tmps).run P w' = .ok v w' /\ AH dp T w b2 uW res (.returned v) w' := by
  refine ⟨r.defers, _, uY, ?_⟩
  cases dp with
  | true =>
   simp only [if_true] at uM
   obtain ⟨s7, pL, tN⟩ := uM
   refine ⟨vs, uq, X, rfl, nY, eC, ⟨mR, e', pK, Um pa⟩, ur, ?_, ?_⟩
   ·clear tN pL sL uY ur hw
    induction uJ generalizing res with
    | nil => simp [JS] at s7; subst s7; exact .nil
    | cons h1 _ ih =>
     simp only [JS] at s7
     split at s7
     ·rename_i row rs um s5
      cases s7
      exact .cons (by rw [<- h1.length]; exact (qo um).1) (ih s5)
     ·cases s7
   ·simp only [if_true]
    refine (P5 r (yi uJ) (yA s7).1 (zV pL) tN).mono (fun k hk => ?_)
    have hg := r.yI _ k hk
    refine ⟨?_, hg.2.2.1, hg.2.1⟩
    rcases Nat.lt_or_ge k w.heap.size with uQ | r6
    ·refine absurd ⟨uQ, ?_, fun hh => hh⟩ hg.1
     rintro rfl
     obtain ⟨p, hp, uH, hu⟩ := hk
     have th := r.ub 0 0 k (by rw [tQ]; simp) (by rw [tf]; rfl)
     obtain ⟨e1, e2⟩ := r.inj p.1 p.2 0 0 k uH (by rw [tQ]; simp) hu th
     obtain ⟨i, lo, len, hx⟩ := PZ hp
     have hm := TI (zV pL) i _ hx
     rw [e1, e2] at hm
     obtain ⟨d, hd, ej⟩ := (Z5.get (R := fun x d => mvD σ' x = some d) (Z5.zq (qo (yA s7).1).1 (fun i a b h1 h2 => (qo (yA s7).1).2 i a b h1 h2)) i _ hx)
     rw [e1, e2] at ej
     simp [mvD, tQ] at ej
    ·exact r6
  | false =>
   simp only [Bool.false_eq_true, if_false] at uM
   refine ⟨vs, uq, fun k => w.heap.size <= k /\ k < w'.heap.size, rfl, nY, fun k hk => hk, ⟨mR, e', pK, (Um pa).imp fun _ _ => Rd.mono (fun k i v hk hc => ⟨hc, ?_⟩)⟩, ur, ?_, ?_⟩
   ·rcases hk with hk | hk
    ·exact .inl hk
    ·exact .inr (eC k hk)
   ·clear sL uY ur hw
    induction uJ generalizing res with
    | nil => simp [qZ] at uM; subst uM; exact .nil
    | cons h1 _ ih =>
     simp only [qZ] at uM
     split at uM
     ·rename_i row rs um s5
      cases uM
      exact .cons ((r.rowOf false um h1 (fun hh => by cases hh)).length) (ih s5)
     ·cases uM
   ·simp only [Bool.false_eq_true, if_false]
    refine UR r (fun k i hk => ?_) uM uJ
    rcases hk with hk | ⟨t, j, q, size, rows, ho, hk⟩
    ·rcases hk with hk | hk
     ·exact .inl hk
     ·exact .inr (eC k hk)
    ·have uH : σ'.ob t j ≠ .none := by rw [ho]; simp
     have uK := r.own t j k uH hk
     refine .inr ⟨?_, uK.2.2⟩
     rcases Nat.lt_or_ge k w.heap.size with uQ | r6
     ·refine absurd ⟨uQ, ?_, fun hh => hh⟩ uK.1
      rintro rfl
      have th := r.ub 0 0 k (by rw [tQ]; simp) (by rw [tf]; rfl)
      obtain ⟨e1, e2⟩ := r.inj t j 0 0 k uH (by rw [tQ]; simp) hk th
      rw [e1, e2, tQ] at ho; cases ho
     ·exact r6
 rcases he with rfl | rfl
 ·exact goal
 ·exact goal
theorem Lk {f : FuncId} {fn : Func} {c : Code} (hf : P.funcs[f]? = some fn) (hb : fn.body = some c) (uj : T1 P f = true) {args : List (List D)} {uW : List D}
  (hw : AWP P c (Ag P fn uW) (xl fn.ntmps args)) : Pz P f args uW := by
 refine ⟨uj, fun T w u6 hT uL => calls_of_wp hf hb ?_⟩
 refine wp_mono (hw T (fun b => b < w.heap.size) _ w (Lf hT uL)) ?_
 rintro e a' w' ⟨σ', ⟨he, u, sL, lM⟩, ⟨X, h, r⟩, uZ⟩
 have sB : Below w.heap.size w w' := ⟨uZ.os, uZ.tape, uZ.output, uZ.size, uZ.block⟩
 obtain ⟨vs, uq, uY, ur, uJ⟩ := Wf r sL
 cases uJ with
 | cons h1 uJ =>
  cases uJ
  cases h1 with
  | @cons _ c0 _ _ hx h1 =>
   cases h1
   cases ur with
   | @cons v0 _ _ _ hu hn =>
    cases hn
    have sJ : v0 = c0 := by
     rcases hu with ⟨c', lv, rfl, _⟩ | ⟨hn, _⟩
     ·cases lv; rfl
     ·simp at hn
    subst sJ
    obtain ⟨b, tf, hv⟩ := hx.2 _ lM
    have sf := r.obj u 0
    rw [lM] at sf
    obtain ⟨b2, mR, e', tA, pK, pa⟩ := sf
    rw [tf] at tA
    have rZ : b2 = b := by injection tA with tA; injection tA with tA; injection tA with tA; exact tA.symm
    subst rZ
    have uH : σ'.ob u 0 ≠ .none := by rw [lM]; simp
    have th := r.ub u 0 b2 uH (by rw [tf]; rfl)
    have uK := r.own u 0 b2 uH th
    have goal : a'.defers = [] /\ ∃ v, (results fn a'.tmps).run P w' = .ok v w' /\ ∃ b Y, Ending.returned v = .returned (ptr b) /\ Below w.heap.size w w' /\ w.heap.size <= b /\ b < w'.heap.size /\ (∀ k, Y k -> w.heap.size <= k /\ k < w'.heap.size /\ k ≠ b) /\ ∃ cs e', w'.heap[b]? = some (.cells cs e' (0, 0)) /\ Z5 (Rd (Tof T Y) w') cs.toList uW := by
     refine ⟨r.defers, _, uY, b2, X, by rw [hv]; rfl, sB, by have := uK.1; omega, uK.2.2, fun k hk => ?_, mR, e', pK, Um pa⟩
     have s9 := r.hX k hk
     refine ⟨by have := s9.1; omega, s9.2, ?_⟩
     rintro rfl
     exact uK.2.1 hk
    rcases he with rfl | rfl
    ·exact goal
    ·exact goal
end
end Go.Vm
namespace Go.Vm
open Go.RowKit
section
variable {P : Program} {T0 : CS} {B : Nat -> Prop} {σ : St} {a : Act} {w w' : World} {X X' : Nat -> Prop} {h : Nat -> Nat -> Hd}
theorem Bu {T : CS} {ob : Nat -> Nat -> Ob} {hd : Hd} {size : Nat} {rows : List (List D)} (hr : Qs T h ob w hd (.arr true size rows)) (hf : ∀ r ∈ rows, ∀ x ∈ r, x.scalar = true) : Qs T h ob w hd (.arr false size rows) := by
 obtain ⟨e, xs, ho, hz, ⟨hl, Sk, hk, _, _⟩, _⟩ := hr
 refine ⟨e, xs, ho, hz, Z5.zq hl (fun k x d hx hd => ?_)⟩
 obtain ⟨r0, rY, hdr⟩ := List.mem_flatten.1 (List.mem_of_getElem? hd)
 have tL := hf r0 rY d hdr
 have := hk k x d hx hd
 cases this with
 | int k n => exact .int _ _
 | bool b => exact .bool _
 | str s => exact .str _
 | unk v h => exact .unk _ h
 | sl => cases tL
theorem Rel.AQ (r : Rel T0 B σ a w X h) {d : Nat} (hf : σ.fresh d = true) (M : Nat -> Prop) (hM : ∀ b, M b -> ¬ B b /\ ¬ X b /\ b < w.heap.size /\ ∀ t j, σ.ob t j ≠ .none -> ¬ (h t j).u b) {vs : List Value} {uq : List (List Value)} {res : List (List D)} (qs : List Bool)
  (ur : Z5 Kk vs uq) (hlen : Z5 (fun (cs : List Value) (row : List D) => cs.length = row.length) uq res) (uK : Qt w uq.flatten res.flatten M) (hq : qI qs res.flatten) : Q0 T0 B (σ.new d (xa d res) (Yh qs res.flatten)) (a.put (some d) (TQ vs)) w := by
 have uQ := St.JH hf
 obtain ⟨mN, Sk, k1, k2, k3, k4⟩ := Bg uK
 have ua : ∀ j, (σ.new d (xa d res) (Yh qs res.flatten)).ob d j = YU (Yh qs res.flatten) j := fun j => by rw [St.Qj]; simp [uQ]
 have eD := uK.top (T := Tof T0 X)
 have sW : Z5 (fun cs row => Z5 (qw (Tof T0 X) w) cs row) uq res := yy hlen (fun k x d hx hd => by
  obtain ⟨c, hc, ht⟩ := eD.get' k d hd
  rw [hx] at hc; cases hc; exact ht)
 refine ⟨X, fun t j => if t = d then mN j else h t j, ?_⟩
 refine r.Hn hf M (Nat.le_refl _) (fun _ _ _ => rfl) (fun b hb => ⟨(hM b hb).1, (hM b hb).2.1, fun t j _ hn => (hM b hb).2.2.2 t j hn⟩) (fun b hb => hb) (fun b hb => .inl hb) (xa d res) (TQ vs) (Yh qs res.flatten) mN ?_ (fun j => ?_) (fun j b uH hb => ?_) (fun j b uH hb => ?_) (fun j j' b uH ux hb uP => ?_)
 ·exact Mf (h := fun t j => if t = d then mN j else h t j) (ob := (σ.new d (xa d res) (Yh qs res.flatten)).ob) (t := d) ur sW (fun i size rows hi => by
   obtain ⟨q, rE, _⟩ := (XI qs res.flatten i hq).1 size rows hi
   exact ⟨q, by rw [ua]; exact rE⟩) (fun i c hi => by simp only [if_true]; exact k1 i c hi)
 ·by_cases uH : YU (Yh qs res.flatten) j = .none
  ·rw [uH]; trivial
  ·obtain ⟨size, rows, hj⟩ := (XI qs res.flatten j hq).2 uH
   obtain ⟨q, rE, fY⟩ := (XI qs res.flatten j hq).1 size rows hj
   rw [rE]
   have := (k4 j size rows hj).2.2 (Tof T0 X) (fun t j => if t = d then mN j else h t j) (σ.new d (xa d res) (Yh qs res.flatten)).ob
   cases q with
   | true => exact this
   | false => exact Bu this (fY rfl)
 ·obtain ⟨size, rows, hj⟩ := (XI qs res.flatten j hq).2 uH
  exact (k4 j size rows hj).2.1 b hb
 ·obtain ⟨size, rows, hj⟩ := (XI qs res.flatten j hq).2 uH
  have := k2 j b ((k4 j size rows hj).1 b hb)
  exact ⟨.inr this, (hM b this).2.1, (hM b this).2.2.1⟩
 ·obtain ⟨size, rows, hj⟩ := (XI qs res.flatten j hq).2 uH
  obtain ⟨ug, uT, ra⟩ := (XI qs res.flatten j' hq).2 ux
  exact k3 j j' b ((k4 j size rows hj).1 b hb) ((k4 j' ug uT ra).1 b uP)
theorem Rel.DX (r : Rel T0 B σ a w X h) {t b : Nat} {cells : List At} {uW : List D} (ho : σ.ob t 0 = .box cells) (hv : (h t 0).v = ptr b) (tM : w.heap.size <= w'.heap.size) (hw : ∀ k, k < w.heap.size -> k ≠ b -> w'.heap[k]? = w.heap[k]?)
  (hX : ∀ b, X b -> X' b) (pj : ∀ b, X' b -> X b \/ (w.heap.size <= b /\ b < w'.heap.size)) (pU : ∃ cs e, w'.heap[b]? = some (.cells cs e (0, 0)) /\ Z5 (Rd (Tof T0 X') w') cs.toList uW) : Rel T0 B (σ.Zs t 0 (.box (uW.map .d))) a w' X' h := by
 have ua : σ.ob t 0 ≠ .none := by rw [ho]; simp
 have uo : blk (h t 0).v = some b := by rw [hv]; rfl
 have th := r.ub t 0 b ua uo
 have ek := r.own t 0 b ua th
 have hT : ∀ k i v, Tof T0 X k i -> w.cell? ⟨k, i, none⟩ = some v -> w'.cell? ⟨k, i, none⟩ = some v /\ Tof T0 X' k i := by
  intro k i v hk hc
  refine ⟨?_, hk.imp id (hX k)⟩
  have uH : k ≠ b := by
   rintro rfl
   rcases hk with hk | hk
   ·exact ek.1 (r.hT _ _ hk)
   ·exact ek.2.1 hk
  rw [World.cell?_of_block (hw k (r.Tlt hk) uH)]; exact hc
 have tW : ∀ u i, ¬ (u = t /\ i = 0) -> (σ.Zs t 0 (.box (uW.map .d))).ob u i = σ.ob u i := by
  intro u i uH
  rw [St.XK σ t 0 _ u i ua, if_neg uH]
 have tP : (σ.Zs t 0 (.box (uW.map .d))).ob t 0 = .box (uW.map .d) := by rw [St.XK σ t 0 _ t 0 ua]; simp
 have fa : ∀ u i, Cpt h h σ.ob (σ.Zs t 0 (.box (uW.map .d))).ob u i := by
  intro u i
  by_cases hu : u = t /\ i = 0
  ·obtain ⟨rfl, rfl⟩ := hu
   refine ⟨fun q size rows uc => ?_, fun size rows uc => ?_, fun uN uc => ⟨rfl, cells, ho⟩⟩
   ·rw [tP] at uc; cases uc
   ·rw [tP] at uc; cases uc
  ·exact Cpt.same rfl (tW u i hu)
 have at_ : ∀ {x : At} {v : Value}, (fun _ => false : At -> Bool) x = false -> YH (Tof T0 X) h σ.ob w x v -> YH (Tof T0 X') h (σ.Zs t 0 (.box (uW.map .d))).ob w' x v := fun _ rx => YH.Cv hT fa rx
 have tX : ∀ u i, (σ.Zs t 0 (.box (uW.map .d))).ob u i ≠ .none -> σ.ob u i ≠ .none := by
  intro u i hn
  by_cases hu : u = t /\ i = 0
  ·obtain ⟨rfl, rfl⟩ := hu; exact ua
  ·rw [tW u i hu] at hn; exact hn
 refine ⟨by rw [r.size, St.Y0], r.defers, fun b hb => Nat.lt_of_lt_of_le (r.hB b hb) tM, fun k hk => ?_, r.hT, fun u hu => ?_, fun u i => ?_, fun u i k hn => r.ub u i k (tX u i hn), fun u i k hn hk => ?_, fun u i u' i' k hn tE => r.inj u i u' i' k (tX u i hn) (tX u' i' tE)⟩
 ·rcases pj k hk with hk | hk
  ·have := r.hX k hk; exact ⟨this.1, by omega⟩
  ·exact ⟨fun rZ => by have := r.hB k rZ; omega, hk.2⟩
 ·rw [St.Y0] at hu
  rw [St.Xj]; exact QK.map at_ (zm _) (r.slot u hu)
 ·by_cases hu : u = t /\ i = 0
  ·obtain ⟨rfl, rfl⟩ := hu
   rw [tP]
   obtain ⟨cs, e, hh, uJ⟩ := pU
   exact ⟨b, cs, e, hv, hh, kD uJ⟩
  ·rw [tW u i hu]
   exact Qs.map at_ hT (fun ho b => r.ub u i b ho) (fun hn k hk => hw k (r.own u i k hn hk).2.2 (fun e => by
    rw [e] at hk
    obtain ⟨e1, e2⟩ := r.inj u i t 0 b hn ua hk th
    exact hu ⟨e1, e2⟩)) (js _) (r.obj u i)
 ·have := r.own u i k (tX u i hn) hk
  refine ⟨this.1, fun hx => ?_, by omega⟩
  rcases pj k hx with hx | hx
  ·exact this.2.1 hx
  ·omega
def GW (dp : Bool) (σ : St) (d : Nat) (res : List (List D)) (qs : List Bool) : St := match dp with | true => σ.new d (xa d res) (Yh qs res.flatten) | false => σ.put d (yu res)
theorem Oa (r : Rel T0 B σ a w X h) {o : Oper} {cl : Call} {f : FuncId} {d : Nat} {x0 : Operand} {xs : List Operand} {t0 : TypeId} {ts : List TypeId} {uX res : List (List D)} {row uW : List D} {dp : Bool} (qs : List Bool) (uE : o.op = .call cl) (hc : cl.callee = .value (.func f)) (hd : o.dst = some d)
  (ha : cl.args.toList = x0 :: xs) {t : Nat} (hg : gOf (look P σ t0 x0) = true) (hx : unc (look P σ t0 x0) = .one (.bptr t 0)) (ho : σ.ob t 0 = .box (row.map .d)) (uL : QF P σ xs ts uX) (uk : YZ P σ xs ts = true) (hs : zc P f dp row uX uW res)
  (tD : dp = true -> (σ.Zs t 0 (.box (uW.map .d))).fresh d = true /\ qI qs res.flatten)
  {K : Act -> World -> Prop} {Q : Exit -> Act -> World -> Prop} (hK : ∀ a' w', Q0 T0 B (GW dp (σ.Zs t 0 (.box (uW.map .d))) d res qs) a' w' -> Yr B w w' -> K a' w') : o.wp P a w K Q := by
 have ua : σ.ob t 0 ≠ .none := by rw [ho]; simp
 have bA := r.arg (P := P) t0 x0 hx hg
 obtain ⟨b, tf, hv⟩ := bA.2 _ ho
 have sf := r.obj t 0
 rw [ho] at sf
 obtain ⟨b2, cs, e, tA, hh, uJ⟩ := sf
 rw [tf] at tA
 have rZ : b2 = b := by injection tA with tA; injection tA with tA; injection tA with tA; exact tA.symm
 subst rZ
 have uo : blk (h t 0).v = some b2 := by rw [tf]; rfl
 have th := r.ub t 0 b2 ua uo
 have uK := r.own t 0 b2 ua th
 have pb := r.QF true uL (fun _ => uk)
 simp only [if_true] at pb
 unfold Oper.wp
 rw [ku uE hc hs.1, Oper.upon_enter]
 rw [show (cl.args.toList.map a.eval).toArray = (ptr b2 :: xs.map a.eval).toArray by rw [ha]; simp [hv]]
 have hT : ∀ k i, Tof T0 X k i -> k < w.heap.size /\ k ≠ b2 := by
  intro k i hk
  refine ⟨r.Tlt hk, ?_⟩
  rintro rfl
  rcases hk with hk | hk
  ·exact uK.1 (r.hT _ _ hk)
  ·exact uK.2.1 hk
 refine (hs.2 (Tof T0 X) w b2 _ hT uK.2.2 ⟨cs, e, hh, Um uJ⟩ pb).mono ?_
 rintro e' w' ⟨vs, uq, Y, rfl, uZ, hY, ⟨mR, e2, pK, pa⟩, ur, hlen, sL⟩
 rw [hd]
 have oo : ∀ {v : Value} {x : D}, Rd (Tof (Tof T0 X) Y) w' v x -> Rd (Tof T0 (fun k => X k \/ Y k)) w' v x := fun hr => hr.mono (fun k i v hk hc => ⟨hc, by
  rcases hk with (hk | hk) | hk
  ·exact .inl hk
  ·exact .inr (.inl hk)
  ·exact .inr (.inr hk)⟩)
 have r1 := r.DX (w' := w') (X' := fun k => X k \/ Y k) (uW := uW) ho tf uZ.size (fun k hk uH => uZ.block k ⟨hk, uH⟩) (fun k hk => .inl hk) (fun k hk => hk.imp id (hY k)) ⟨mR, e2, pK, pa.imp fun _ _ => oo⟩
 have eo : Yr B w w' := ⟨uZ.os, uZ.tape, uZ.output, uZ.size, fun k hk => uZ.block k ⟨r.hB k hk, fun e => uK.1 (e ▸ hk)⟩⟩
 cases dp with
 | false =>
  simp only [Bool.false_eq_true, if_false] at sL
  exact hK _ _ ⟨_, _, r1.put d _ _ (HJ ur (P3 (fun _ _ _ _ _ => oo) sL))⟩ eo
 | true =>
  simp only [if_true] at sL
  obtain ⟨fz, hq⟩ := tD rfl
  refine hK _ _ (r1.AQ fz (fun k => w.heap.size <= k /\ k < w'.heap.size /\ ¬ Y k) (fun k hk => ⟨fun hb => by have := r.hB k hb; omega, ?_, hk.2.1, fun u j hn hu => ?_⟩) qs ur hlen sL hq) eo
  ·rintro (hx | hy)
   ·have := (r.hX k hx).2; omega
   ·exact hk.2.2 hy
  ·have tE : σ.ob u j ≠ .none := by
    by_cases hc : u = t /\ j = 0
    ·obtain ⟨rfl, rfl⟩ := hc; exact ua
    ·rw [St.XK σ t 0 _ u j ua, if_neg hc] at hn; exact hn
   have := (r.own u j k tE hu).2.2; omega
theorem FD (r : Rel T0 B σ a w X h) {o : Oper} {cl : Call} {f : FuncId} {d : Nat} {uX : List (List D)} {uW : List D} (uE : o.op = .call cl) (hc : cl.callee = .value (.func f)) (hd : o.dst = some d) (tD : σ.fresh d = true)
  (uL : QF P σ cl.args.toList cl.argTypes.toList uX) (uk : YZ P σ cl.args.toList cl.argTypes.toList = true) (hs : Pz P f uX uW)
  {K : Act -> World -> Prop} {Q : Exit -> Act -> World -> Prop} (hK : ∀ a' w', Q0 T0 B (σ.new d (.one (.bptr d 0)) [.box (uW.map .d)]) a' w' -> Yr B w w' -> K a' w') : o.wp P a w K Q := by
 have uQ := St.JH tD
 have pb := r.QF true uL (fun _ => uk)
 simp only [if_true] at pb
 unfold Oper.wp
 rw [ku uE hc hs.1, Oper.upon_enter]
 refine (hs.2 (Tof T0 X) w _ (fun k i hk => r.Tlt hk) pb).mono ?_
 rintro e' w' ⟨b, Y, rfl, sB, tf, tA, hY, mR, e2, pK, pa⟩
 rw [hd]
 have oo : ∀ {v : Value} {x : D}, Rd (Tof (Tof T0 X) Y) w' v x -> Rd (Tof T0 (fun k => X k \/ Y k)) w' v x := fun hr => hr.mono (fun k i v hk hc => ⟨hc, by
  rcases hk with (hk | hk) | hk
  ·exact .inl hk
  ·exact .inr (.inl hk)
  ·exact .inr (.inr hk)⟩)
 have ua : (σ.new d (.one (.bptr d 0)) [.box (uW.map .d)]).ob d 0 = .box (uW.map .d) := by rw [St.Qj]; simp [uQ, YU]
 refine hK _ _ ⟨fun k => X k \/ Y k, fun t j => if t = d then Hd.of (ptr b) else h t j, ?_⟩ (Yr.Ru sB r.hB)
 refine r.new tD (Below.grownBy sB) (fun k hk => .inl hk) (fun k hk => hk.imp id (fun hy => ⟨(hY k hy).1, (hY k hy).2.1⟩)) _ _ _ (fun _ => Hd.of (ptr b)) ⟨rfl, fun cells _ => ⟨b, by simp [Hd.of], rfl⟩⟩ (fun j => ?_) (fun j k _ hk => hk) (fun j k _ hk => ?_) (fun i j k hi hj _ _ => ?_)
 ·cases j with
  | zero => exact ⟨b, mR, e2, rfl, pK, kD (pa.imp fun _ _ => oo)⟩
  | succ j => simp [YU, Qs]
 ·simp [Hd.of, blk] at hk; subst hk
  refine ⟨tf, ?_, tA⟩
  rintro (hx | hy)
  ·have := (r.hX _ hx).2; omega
  ·exact (hY _ hy).2.2 rfl
 ·have hz : ∀ j, YU [Ob.box (uW.map .d)] j ≠ .none -> j = 0 := by
   intro j hj
   cases j with
   | zero => rfl
   | succ j => simp [YU] at hj
  rw [hz i hi, hz j hj]
end
section
variable {P : Program} {σ : St} {k : Fr}
theorem MK {dp : Bool} {d d' : Nat} {res : List (List D)} {qs : List Bool} (uH : d ≠ d') (uu : Xd σ d = true) : Xd (GW dp σ d' res qs) d = true := by
 cases dp with
 | false => exact Db uH uu
 | true => exact kI uH uu
attribute [simp] GW
theorem Kq {f : FuncId} {fn : Func} {c : Code} (hf : P.funcs[f]? = some fn) (hb : fn.body = some c) (uj : T1 P f = true) {dp : Bool} {row : List D} {args : List (List D)} {uW : List D} {res : List (List D)}
  (hw : ∀ v, @WI P (yr fn.ntmps [] v (row.map .d) [] args) ⟨c⟩ (.fin (Aa P fn v dp uW res))) : zc P f dp row args uW res := Ly hf hb uj (fun v => VL (hw v))
theorem zp {fn : Func} {v : Value} {dp : Bool} {uW : List D} {res : List (List D)} {rv : List ResultVar} (hf : fn.results = rv.toArray) (h : (Qx P σ rv).1 /\ σ.head? = some (.fix v (.one (.bptr 0 0)), .box (uW.map .d) :: (σ.head?.map (fun e => e.2.tail)).getD []) /\
  (if dp then JS σ (Qx P σ rv).2 = some res /\ JD σ (Qx P σ rv).2 /\ (XE (Qx P σ rv).2.flatten).Nodup else qZ σ (Qx P σ rv).2 = some res)) : Aa P fn v dp uW res .ret σ :=
 ⟨.inl rfl, ⟨_, h.2.1⟩, _, by rw [hf]; exact Vk h.1, h.2.2⟩
theorem Df {f : FuncId} {fn : Func} {c : Code} (hf : P.funcs[f]? = some fn) (hb : fn.body = some c) (uj : T1 P f = true) {args : List (List D)} {uW : List D}
  (hw : @WI P (xl fn.ntmps args) ⟨c⟩ (.fin (Ag P fn uW))) : Pz P f args uW := Lk hf hb uj (VL hw)
theorem wm {fn : Func} {uW : List D} {rv : List ResultVar} (u : Nat) (hf : fn.results = rv.toArray) (h : (Qx P σ rv).1 /\ (Qx P σ rv).2 = [[.bptr u 0]] /\ σ.ob u 0 = .box (uW.map .d)) : Ag P fn uW .ret σ :=
 ⟨.inl rfl, u, by rw [hf, <- h.2.1]; exact Vk h.1, h.2.2⟩
theorem F3 {ops : Array Oper} {o : Oper} {cl : Call} {f : FuncId} {d : Nat} {x0 : Operand} {xs : List Operand} {t0 : TypeId} {ts : List TypeId} {uX res : List (List D)} {row uW : List D} {dp : Bool} {t : Nat} (qs : List Bool) (uE : o.op = .call cl) (hc : cl.callee = .value (.func f)) (oB : o.guard = none) (hd : o.dst = some d)
  (ha : cl.args.toList = x0 :: xs) (hs : zc P f dp row uX uW res) (hg : gOf (look P σ t0 x0) = true) (hx : unc (look P σ t0 x0) = .one (.bptr t 0)) (ho : σ.ob t 0 = .box (row.map .d))
  (uL : QF P σ xs ts uX) (uk : YZ P σ xs ts = true) (tD : dp = true -> (σ.Zs t 0 (.box (uW.map .d))).fresh d = true /\ qI qs res.flatten) : Az P ops o σ (GW dp (σ.Zs t 0 (.box (uW.map .d))) d res qs) := by
 have hm : ∀ z ∈ x0 :: xs, z ∈ o.op.operands.toList := fun z hz => by rw [uE]; exact KV (by rw [ha]; exact hz)
 refine ⟨d, t, row.map .d, uW.map .d, (cond dp (xa d res) (yu res)), (cond dp (some (Yh qs res.flatten)) none), hd, ho, ⟨x0, xs, ⟨f, cl.argTypes, ?_⟩, t0, hx⟩, fun u => ⟨kN _, kN _⟩, fun u hu => ?_, fun hn => ?_, ?_, fun σ2 hl pf ua fv => ?_⟩
 ·rw [uE]
  obtain ⟨c1, c2, c3⟩ := cl
  simp only at hc ha ⊢
  rw [hc, <- ha]
 ·cases dp with
  | true =>
   have hu := hu.resolve_left (by simp)
   exact ⟨Mp hu res, fun l hl => by cases hl; exact Kz u qs _⟩
  | false => exact ⟨HC u res, fun l hl => by cases hl⟩
 ·cases dp with
  | true => exact (tD rfl).1
  | false => exact absurd rfl hn
 ·cases dp <;> rfl
 ·have uv : Sub P o.op.operands.toList σ σ2 := ⟨hl, pf, ua⟩
  have ep : Sub P xs σ σ2 := ⟨hl, fun z hz => pf z (hm z (by simp [hz])), fun z hz => ua z (hm z (by simp [hz]))⟩
  have h0 := pf x0 (hm x0 (by simp)) t0
  have sZ : σ2.ob t 0 = .box (row.map .d) := by
   rw [<- ho]
   exact ua x0 (hm x0 (by simp)) t0 t (Xm hx (by simp [At.ref])) 0 (by rw [ho]; simp)
  have e : Kw t d (uW.map .d) (cond dp (xa d res) (yu res)) (cond dp (some (Yh qs res.flatten)) none) σ2 = GW dp (σ2.Zs t 0 (.box (uW.map .d))) d res qs := by cases dp <;> rfl
  rw [e]
  refine ⟨?_, fun d' uU uu => MK (fun e => uU (by rw [hd, e])) (Xp uu)⟩
  rintro T0 B a w K Q' ⟨X, hh, r⟩ hK
  have hw : Region.wanted o (yielded ops a.tmps) = true := by simp [Region.wanted, oB]
  rw [if_pos hw]
  refine Oa r qs uE hc hd ha (by rw [<- h0]; exact hg) (by rw [<- h0]; exact hx) sZ (jA ep uL) (by rw [qc ep]; exact uk) hs (fun eh => ⟨?_, (tD eh).2⟩) hK
  subst eh
  exact fv (by simp)
theorem AK {A : Jj} {o : OpI} {l : KH} {cl : Call} {f : FuncId} {d : Nat} {x0 : Operand} {xs : List Operand} {t0 : TypeId} {ts : List TypeId} {uX res : List (List D)} {row uW : List D} {dp : Bool} {t : Nat} (qs : List Bool) (uE : o.o.op = .call cl) (hc : cl.callee = .value (.func f)) (oB : o.o.guard = none) (hd : o.o.dst = some d) (uy : A.bar o.o = true)
  (ha : cl.args.toList = x0 :: xs) (ck : cl.argTypes.toList = t0 :: ts) (hs : zc P f dp row uX uW res) (hx : gOf (look P σ t0 x0) = true /\ unc (look P σ t0 x0) = .one (.bptr t 0)) (ho : σ.ob t 0 = .box (row.map .d))
  (uL : (Y7 P σ xs ts).1) (uV : (Y7 P σ xs ts).2 = some uX) (uk : YZ P σ xs ts = true) (tD : dp = true -> (σ.Zs t 0 (.box (uW.map .d))).fresh d = true /\ qI qs res.flatten)
  (h : @EI P (GW dp (σ.Zs t 0 (.box (uW.map .d))) d res qs) A l k) : @SI P σ A o l k := by
 refine ⟨_, .inr ⟨uy, ?_, fun d' uU uu => MK (fun e => uU (by rw [hd, e])) (Xp uu), fun hh => by simp [W0, uE] at hh, fun hh => by first | (simp [jk, uE] at hh; done) | (unfold jk at hh; rw [uE] at hh; split at hh <;> simp_all), fun _ _ => F3 qs uE hc oB hd ha hs hx.1 hx.2 ho (xY uL uV) uk tD⟩, Qr h⟩
 rintro T0 B a w K Q' ⟨X, hh, r⟩ hK
 have hw : Region.wanted o.o (yielded A.ops a.tmps) = true := by simp [Region.wanted, oB]
 rw [if_pos hw]
 exact Oa r qs uE hc hd ha hx.1 hx.2 ho (xY uL uV) uk hs tD hK
theorem wK {A : Jj} {o : OpI} {l : KH} {cl : Call} {f : FuncId} {d : Nat} {uX : List (List D)} {uW : List D} (uE : o.o.op = .call cl) (hc : cl.callee = .value (.func f)) (oB : o.o.guard = none) (hd : o.o.dst = some d) (uy : A.bar o.o = true) (hs : Pz P f uX uW)
  (uL : (Y7 P σ cl.args.toList cl.argTypes.toList).1) (uV : (Y7 P σ cl.args.toList cl.argTypes.toList).2 = some uX) (uk : YZ P σ cl.args.toList cl.argTypes.toList = true) (tD : σ.fresh d = true)
  (h : @EI P (σ.new d (.one (.bptr d 0)) [.box (uW.map .d)]) A l k) (r8 : Jq P o.o = false := by exact rfl) : @SI P σ A o l k := by
 refine ⟨_, .inr ⟨uy, ?_, fun d' uU uu => kI (fun e => uU (by rw [hd, e])) uu, fun hh => by simp [W0, uE] at hh, fun hh => by first | (simp [jk, uE] at hh; done) | (unfold jk at hh; rw [uE] at hh; split at hh <;> simp_all), fun hh _ => by rw [r8] at hh; cases hh⟩, Qr h⟩
 rintro T0 B a w K Q' ⟨X, hh, r⟩ hK
 have hw : Region.wanted o.o (yielded A.ops a.tmps) = true := by simp [Region.wanted, oB]
 rw [if_pos hw]
 exact FD r uE hc hd tD (xY uL uV) uk hs hK
end
end Go.Vm
namespace Go.Vm
open Go.RowKit
def wI (n : Nat) (sz : Nat) (rows : List (List D)) (args : List (List D)) : St := (.one (.sref 0 0 0 rows.length), [.arr false sz rows]) :: (Sx args ++ List.replicate (n - (args.length + 1)) (V.any, []))
def At.isO (u : Nat) : At -> Bool
 | .sref t _ _ _ => t == u
 | .ptr t _ _ _ => t == u
 | .tref t _ _ _ _ => t == u
 | _ => false
section
variable {P : Program} {T0 : CS} {B : Nat -> Prop} {σ : St} {a : Act} {w w' : World} {X X' : Nat -> Prop} {h : Nat -> Nat -> Hd}
end
end Go.Vm
namespace Go.Vm
open Go.RowKit
section
variable {P : Program} {T0 : CS} {B : Nat -> Prop} {σ : St} {a : Act} {w w' : World} {X X' : Nat -> Prop} {h : Nat -> Nat -> Hd}
end
section
variable {P : Program} {σ : St} {k : Fr}
end
attribute [simp] yr wI At.isO
end Go.Vm
namespace Go.Vm
open Go.RowKit
section
variable {P : Program} {σ : St} {k : Fr}
end
end Go.Vm
namespace Go.Vm
open Go.RowKit
section
variable {P : Program} {σ : St} {k : Fr}
theorem cR {A : Jj} {o : OpI} {l : KH} {c : Call} {f : FuncId} {d : Nat} {own : Bool} {rows res : List (List D)} (hs : QH P f own rows res) (h : @EI P (σ.put d (yu res)) A l k) (uE : o.o.op = .call c := by exact rfl) (hc : c.callee = .value (.func f) := by exact rfl) (hg : o.o.guard = none := by exact rfl) (hd : o.o.dst = some d := by exact rfl)
  (uV : (Y7 P σ c.args.toList c.argTypes.toList).2 = some rows := by simp) (uL : (Y7 P σ c.args.toList c.argTypes.toList).1 := by simp) (uk : YZ P σ c.args.toList c.argTypes.toList = true \/ JQ own res := by simp) : @SI P σ A o l k :=
 Nr uE hc hg hd hs uV uL uk h
theorem cD {A : Jj} {o : OpI} {l : KH} {c : Call} {f : FuncId} {d : Nat} {rows res : List (List D)} (qs : List Bool) (hs : YR P f rows res) (h : @EI P (σ.new d (xa d res) (Yh qs res.flatten)) A l k) (uE : o.o.op = .call c := by exact rfl) (hc : c.callee = .value (.func f) := by exact rfl) (hg : o.o.guard = none := by exact rfl) (hd : o.o.dst = some d := by exact rfl)
  (uV : (Y7 P σ c.args.toList c.argTypes.toList).2 = some rows := by simp) (uL : (Y7 P σ c.args.toList c.argTypes.toList).1 := by simp) (hq : qI qs res.flatten := by simp) (hf : σ.fresh d = true := by simp) : @SI P σ A o l k := GP qs uE hc hg hd hs uV uL hq hf h
end
section
variable {P : Program} {σ : St} {k : Fr}
end
@[simp] abbrev eI (t : Nat) (n : Int) : Nat × V × List Ob := (t, .one (.d (.int .i64 n)), [])
@[simp] abbrev eB (t : Nat) (b : Bool) : Nat × V × List Ob := (t, .one (.d (.bool b)), [])
@[simp] abbrev eL {α : Type} (t s : Nat) (l : List α) (f : α -> List D) : Nat × V × List Ob := (t, .one (.d (.sl s (l.map f))), [])
@[simp] abbrev eP (t u c : Nat) : Nat × V × List Ob := (t, .one (.bptr u c), [])
@[simp] abbrev eG (t : Nat) (xs : List At) : Nat × V × List Ob := (t, .agg xs, [])
@[simp] abbrev eX (t : Nat) (xs : List At) : Nat × V × List Ob := (t, .one (.bptr t 0), [.box xs])
end Go.Vm
namespace Go.Vm
open Go.RowKit
structure Me {α : Type} (x y : α) : Prop where
 h : x = y
structure Bx (p : Prop) : Prop where
 h : p
theorem me {α : Type} {x y : α} (h : x = y) : Me x y := ⟨h⟩
theorem ms {α β : Type} {x y y' : α} {l r : β} (f : Me x y) (e : Me l r) (h : l = r -> y = y' := by intro e; simp only [e]; exact rfl) : Me x y' := ⟨f.h.trans (h e.h)⟩
theorem an {p q : Prop} (h : p) (k : q) : p /\ q := ⟨h, k⟩
theorem ix {α : Type} {v : Nat} {l : List α} (h : decide ((v : Int) < (l.length : Int)) = true) : v < l.length := by simpa using h
theorem ml {α : Type} {q : Prop} (l : List α) (m : q) (h : q -> l.length <= 9223372036854775807 := by intro m; simpa using m) : l.length <= 9223372036854775807 := h m
theorem wr (n : Nat) (h : (n : Int) + 1 <= 9223372036854775807 := by first | omega | (simp only [decide_eq_true_eq, decide_eq_false_iff_not, beq_iff_eq, beq_eq_false_iff_ne, bne_iff_ne, ne_eq, Bool.or_eq_false_iff, Bool.or_eq_true, Bool.and_eq_true, Bool.not_eq_true', Bool.not_eq_false'] at *; omega)) : IntKind.i64.wrap ((n : Int) + 1) = (n : Int) + 1 := Yg (by omega) (by omega)
section
variable {P : Program} {σ : St} {k : Fr}
theorem so {f : FuncId} {fn : Func} {n : Nat} {own : Bool} {args res : List (List D)} {p : Prop} (hf : P.funcs[f]? = some fn) (hn : fn.ntmps = n) (h : p) {c : Code} (hb : fn.body = some c := by exact rfl) (uj : T1 P f = true := by kernel_rfl)
  (kk : Bx p -> @WI P (xl n args) ⟨c⟩ (.fin (GR P fn own res)) := by (intro z; simp; (repeat (with_reducible refine Go.Mo.sd ?_)); exact z.h)) : QH P f own args res := C2 hf hb uj (by rw [hn]; exact kk ⟨h⟩)
theorem soD {f : FuncId} {fn : Func} {n : Nat} {args res : List (List D)} {p : Prop} (hf : P.funcs[f]? = some fn) (hn : fn.ntmps = n) (h : p) {c : Code} (hb : fn.body = some c := by exact rfl) (uj : T1 P f = true := by kernel_rfl)
  (kk : Bx p -> @WI P (xl n args) ⟨c⟩ (.fin (DH P fn res)) := by (intro z; simp; (repeat (with_reducible refine Go.Mo.sd ?_)); exact z.h)) : YR P f args res := Dr hf hb uj (by rw [hn]; exact kk ⟨h⟩)
theorem cF {α : Type} {u y z : α} {b c : Bool} {xc yc : yo} {p q : Prop} (f : Me u (bif c then y else z)) (ht : WH σ -> c = true -> Me u y -> p) (hf : WH σ -> c = false -> Me u z -> q) (hc : c = b := by simp) (kt : Bx p -> @WI P σ xc k := by (intro z; simp; (repeat (with_reducible refine Go.Mo.sd ?_)); exact z.h)) (kf : Bx q -> @WI P σ yc k := by (intro z; simp; (repeat (with_reducible refine Go.Mo.sd ?_)); exact z.h)) : @CI P b σ xc yc k :=
 OU hc (fun s h => kt ⟨(ht s h ⟨f.h.trans (by rw [h]; rfl)⟩)⟩) (fun s h => kf ⟨(hf s h ⟨f.h.trans (by rw [h]; rfl)⟩)⟩)
theorem cFt {α : Type} {u y z : α} {b c : Bool} {xc yc : yo} {p : Prop} (f : Me u (bif c then y else z)) (ht : WH σ -> c = true -> Me u y -> p) (hf : WH σ -> c = false -> Me u z -> @WI P σ yc k) (hc : c = b := by simp) (kt : Bx p -> @WI P σ xc k := by (intro z; simp; (repeat (with_reducible refine Go.Mo.sd ?_)); exact z.h)) : @CI P b σ xc yc k :=
 OU hc (fun s h => kt ⟨(ht s h ⟨f.h.trans (by rw [h]; rfl)⟩)⟩) (fun s h => (hf s h ⟨f.h.trans (by rw [h]; rfl)⟩))
theorem cFf {α : Type} {u y z : α} {b c : Bool} {xc yc : yo} {q : Prop} (f : Me u (bif c then y else z)) (ht : WH σ -> c = true -> Me u y -> @WI P σ xc k) (hf : WH σ -> c = false -> Me u z -> q) (hc : c = b := by simp) (kf : Bx q -> @WI P σ yc k := by (intro z; simp; (repeat (with_reducible refine Go.Mo.sd ?_)); exact z.h)) : @CI P b σ xc yc k :=
 OU hc (fun s h => (ht s h ⟨f.h.trans (by rw [h]; rfl)⟩)) (fun s h => kf ⟨(hf s h ⟨f.h.trans (by rw [h]; rfl)⟩)⟩)
theorem cFo {α : Type} {u y z : α} {b c : Bool} {xc yc : yo} (f : Me u (bif c then y else z)) (ht : WH σ -> c = true -> Me u y -> @WI P σ xc k) (hf : WH σ -> c = false -> Me u z -> @WI P σ yc k) (hc : c = b := by simp) : @CI P b σ xc yc k :=
 OU hc (fun s h => (ht s h ⟨f.h.trans (by rw [h]; rfl)⟩)) (fun s h => (hf s h ⟨f.h.trans (by rw [h]; rfl)⟩))
theorem cK {α : Type} {u y z : α} {b c : Bool} {xc yc : yo} {p q : Prop} (f : Me u (bif c then y else z)) (ht : WH σ -> c = true -> Me u y -> p) (hf : WH σ -> c = false -> Me u z -> q) (hc : c = b := by first | (simp [G]; done) | grind) (kt : Bx p -> @WI P σ xc k := by (intro z; simp [G, Go.Vm.ZD]; (repeat (with_reducible refine Go.Mo.sdg ?_)); exact z.h)) (kf : Bx q -> @WI P σ yc k := by (intro z; simp [G, Go.Vm.ZD]; (repeat (with_reducible refine Go.Mo.sdg ?_)); exact z.h)) : @CI P b σ xc yc k :=
 OU hc (fun s h => kt ⟨(ht s h ⟨f.h.trans (by rw [h]; rfl)⟩)⟩) (fun s h => kf ⟨(hf s h ⟨f.h.trans (by rw [h]; rfl)⟩)⟩)
theorem cKt {α : Type} {u y z : α} {b c : Bool} {xc yc : yo} {p : Prop} (f : Me u (bif c then y else z)) (ht : WH σ -> c = true -> Me u y -> p) (hf : WH σ -> c = false -> Me u z -> @WI P σ yc k) (hc : c = b := by first | (simp [G]; done) | grind) (kt : Bx p -> @WI P σ xc k := by (intro z; simp [G, Go.Vm.ZD]; (repeat (with_reducible refine Go.Mo.sdg ?_)); exact z.h)) : @CI P b σ xc yc k :=
 OU hc (fun s h => kt ⟨(ht s h ⟨f.h.trans (by rw [h]; rfl)⟩)⟩) (fun s h => (hf s h ⟨f.h.trans (by rw [h]; rfl)⟩))
theorem cKo {α : Type} {u y z : α} {b c : Bool} {xc yc : yo} (f : Me u (bif c then y else z)) (ht : WH σ -> c = true -> Me u y -> @WI P σ xc k) (hf : WH σ -> c = false -> Me u z -> @WI P σ yc k) (hc : c = b := by first | (simp [G]; done) | grind) : @CI P b σ xc yc k :=
 OU hc (fun s h => (ht s h ⟨f.h.trans (by rw [h]; rfl)⟩)) (fun s h => (hf s h ⟨f.h.trans (by rw [h]; rfl)⟩))
theorem cY {c b : Bool} {xc yc : yo} {p : Prop} (h : c = true) (kk : p) (hc : c = b := by simp) (kt : Bx p -> @WI P σ xc k := by (intro z; simp; (repeat (with_reducible refine Go.Mo.sd ?_)); exact z.h)) : @CI P b σ xc yc k := OU hc (fun _ g => kt ⟨kk⟩) (fun _ g => absurd (h.symm.trans g) (by decide))
theorem cRg {A : Jj} {o : OpI} {l : KH} {c : Call} {f : FuncId} {d : Nat} {own : Bool} {rows res : List (List D)} {p : Prop} (hs : QH P f own rows res) (h : p) (uE : o.o.op = .call c := by exact rfl) (hc : c.callee = .value (.func f) := by exact rfl) (hg : o.o.guard = none := by exact rfl) (hd : o.o.dst = some d := by exact rfl) (uV : (Y7 P σ c.args.toList c.argTypes.toList).2 = some rows := by simp) (uL : (Y7 P σ c.args.toList c.argTypes.toList).1 := by simp) (uk : YZ P σ c.args.toList c.argTypes.toList = true \/ JQ own res := by simp) (kk : Bx p -> @EI P (σ.put d (yu res)) A l k := by (intro z; simp [G, Go.Vm.ZD]; (repeat (with_reducible refine Go.Mo.sdg ?_)); exact z.h)) : @SI P σ A o l k := Nr uE hc hg hd hs uV uL uk (kk ⟨h⟩)
theorem cRs {A : Jj} {o : OpI} {l : KH} {c : Call} {f : FuncId} {d : Nat} {own : Bool} {rows res : List (List D)} {p : Prop} (hs : QH P f own rows res) (h : p) (uE : o.o.op = .call c := by exact rfl) (hc : c.callee = .value (.func f) := by exact rfl) (hg : o.o.guard = none := by exact rfl) (hd : o.o.dst = some d := by exact rfl) (uV : (Y7 P σ c.args.toList c.argTypes.toList).2 = some rows := by simp) (uL : (Y7 P σ c.args.toList c.argTypes.toList).1 := by simp) (uk : YZ P σ c.args.toList c.argTypes.toList = true \/ JQ own res := by simp) (kk : Bx p -> @EI P (σ.put d (yu res)) A l k := by (intro z; simp; (repeat (with_reducible refine Go.Mo.sd ?_)); exact z.h)) : @SI P σ A o l k := Nr uE hc hg hd hs uV uL uk (kk ⟨h⟩)
theorem cRf {A : Jj} {o : OpI} {l : KH} {c : Call} {f : FuncId} {d : Nat} {own : Bool} {rows res : List (List D)} {p q : Prop} (F : q) (hs : QH P f own rows res) (h : p) (uE : o.o.op = .call c := by exact rfl) (hc : c.callee = .value (.func f) := by exact rfl) (hg : o.o.guard = none := by exact rfl) (hd : o.o.dst = some d := by exact rfl) (uV : (Y7 P σ c.args.toList c.argTypes.toList).2 = some rows := by simp) (uL : (Y7 P σ c.args.toList c.argTypes.toList).1 := by simp) (uk : YZ P σ c.args.toList c.argTypes.toList = true \/ JQ own res := by simp) (kk : q -> Bx p -> @EI P (σ.put d (yu res)) A l k := by (intro F z; simp [F, Go.Vm.ZD]; (repeat (with_reducible refine Go.Mo.sd ?_)); exact z.h)) : @SI P σ A o l k := Nr uE hc hg hd hs uV uL uk (kk F ⟨h⟩)
theorem cOs {A : Jj} {o : OpI} {l : KH} {c : Call} {f : FuncId} {d : Nat} {rows res : List (List D)} {p : Prop} (hs : QH P f true rows res) (h : p) (uE : o.o.op = .call c := by exact rfl) (hc : c.callee = .value (.func f) := by exact rfl) (hg : o.o.guard = none := by exact rfl) (hd : o.o.dst = some d := by exact rfl) (uV : (Y7 P σ c.args.toList c.argTypes.toList).2 = some rows := by simp) (uL : (Y7 P σ c.args.toList c.argTypes.toList).1 := by simp) (uk : YZ P σ c.args.toList c.argTypes.toList = true \/ JQ true res := by simp) (hf : σ.fresh d = true := by simp) (kk : Bx p -> @EI P (σ.new d (xa d res) (zd res.flatten)) A l k := by (intro z; simp; (repeat (with_reducible refine Go.Mo.sd ?_)); exact z.h)) : @SI P σ A o l k := Ca uE hc hg hd hs uV uL uk hf (kk ⟨h⟩)
theorem cDg {A : Jj} {o : OpI} {l : KH} {c : Call} {f : FuncId} {d : Nat} {rows res : List (List D)} {p : Prop} (qs : List Bool) (hs : YR P f rows res) (h : p) (uE : o.o.op = .call c := by exact rfl) (hc : c.callee = .value (.func f) := by exact rfl) (hg : o.o.guard = none := by exact rfl) (hd : o.o.dst = some d := by exact rfl) (uV : (Y7 P σ c.args.toList c.argTypes.toList).2 = some rows := by simp) (uL : (Y7 P σ c.args.toList c.argTypes.toList).1 := by simp) (hq : qI qs res.flatten := by simp [-Bool.exists_bool, -Bool.forall_bool]) (hf : σ.fresh d = true := by simp) (kk : Bx p -> @EI P (σ.new d (xa d res) (Yh qs res.flatten)) A l k := by (intro z; simp [G, Go.Vm.ZD]; (repeat (with_reducible refine Go.Mo.sdg ?_)); exact z.h)) : @SI P σ A o l k := GP qs uE hc hg hd hs uV uL hq hf (kk ⟨h⟩)
theorem cDs {A : Jj} {o : OpI} {l : KH} {c : Call} {f : FuncId} {d : Nat} {rows res : List (List D)} {p : Prop} (qs : List Bool) (hs : YR P f rows res) (h : p) (uE : o.o.op = .call c := by exact rfl) (hc : c.callee = .value (.func f) := by exact rfl) (hg : o.o.guard = none := by exact rfl) (hd : o.o.dst = some d := by exact rfl) (uV : (Y7 P σ c.args.toList c.argTypes.toList).2 = some rows := by simp) (uL : (Y7 P σ c.args.toList c.argTypes.toList).1 := by simp) (hq : qI qs res.flatten := by simp [-Bool.exists_bool, -Bool.forall_bool]) (hf : σ.fresh d = true := by simp) (kk : Bx p -> @EI P (σ.new d (xa d res) (Yh qs res.flatten)) A l k := by (intro z; simp; (repeat (with_reducible refine Go.Mo.sd ?_)); exact z.h)) : @SI P σ A o l k := GP qs uE hc hg hd hs uV uL hq hf (kk ⟨h⟩)
theorem cDf {A : Jj} {o : OpI} {l : KH} {c : Call} {f : FuncId} {d : Nat} {rows res : List (List D)} {p q : Prop} (F : q) (qs : List Bool) (hs : YR P f rows res) (h : p) (uE : o.o.op = .call c := by exact rfl) (hc : c.callee = .value (.func f) := by exact rfl) (hg : o.o.guard = none := by exact rfl) (hd : o.o.dst = some d := by exact rfl) (uV : (Y7 P σ c.args.toList c.argTypes.toList).2 = some rows := by simp) (uL : (Y7 P σ c.args.toList c.argTypes.toList).1 := by simp) (hq : qI qs res.flatten := by simp [-Bool.exists_bool, -Bool.forall_bool]) (hf : σ.fresh d = true := by simp) (kk : q -> Bx p -> @EI P (σ.new d (xa d res) (Yh qs res.flatten)) A l k := by (intro F z; simp [F, Go.Vm.ZD]; (repeat (with_reducible refine Go.Mo.sd ?_)); exact z.h)) : @SI P σ A o l k := GP qs uE hc hg hd hs uV uL hq hf (kk F ⟨h⟩)
theorem cGo {A : Jj} {o : OpI} {l : KH} {c : Call} {f : FuncId} {d : Nat} {j dj : Nat} {want g own : Bool} {rows : List (List D)} {res : List D} (hs : g = true -> QH P f own rows [res]) (h : @EI P (σ.put d (.cnd g (yu [res]))) A l k) (uE : o.o.op = .call c := by exact rfl) (hc : c.callee = .value (.func f) := by exact rfl) (hg : o.o.guard = some (j, want) := by exact rfl) (hd : o.o.dst = some d := by exact rfl) (sD : (A.ops[j]?).bind (·.dst) = some dj := by exact rfl) (sK : xZ want (σ.get dj) = some g := by exact rfl) (uV : (Y7 P σ c.args.toList c.argTypes.toList).2 = some rows := by first | (simp; done) | (simp [G]; done) | (simp [G]; omega) | (simp_all; done)) (uQ : dj < σ.length := by first | (simp; done) | (simp [G]; done) | (simp [G]; omega) | (simp_all; done)) (uL : g = true -> (Y7 P σ c.args.toList c.argTypes.toList).1 := by first | (simp; done) | (simp [G]; done) | (simp [G]; omega) | (simp_all; done)) (uk : YZ P σ c.args.toList c.argTypes.toList = true \/ JQ own [res] := by first | (simp; done) | (simp [G]; done) | (simp [G]; omega) | (simp_all; done)) : @SI P σ A o l k := Fs uE hc hg hd sD sK hs uV uQ uL uk h
theorem cGg {A : Jj} {o : OpI} {l : KH} {c : Call} {f : FuncId} {d : Nat} {j dj : Nat} {want g own : Bool} {rows : List (List D)} {res : List D} {p : Prop} (hs : g = true -> QH P f own rows [res]) (h : p) (uE : o.o.op = .call c := by exact rfl) (hc : c.callee = .value (.func f) := by exact rfl) (hg : o.o.guard = some (j, want) := by exact rfl) (hd : o.o.dst = some d := by exact rfl) (sD : (A.ops[j]?).bind (·.dst) = some dj := by exact rfl) (sK : xZ want (σ.get dj) = some g := by exact rfl) (uV : (Y7 P σ c.args.toList c.argTypes.toList).2 = some rows := by first | (simp; done) | (simp [G]; done) | (simp [G]; omega) | (simp_all; done)) (uQ : dj < σ.length := by first | (simp; done) | (simp [G]; done) | (simp [G]; omega) | (simp_all; done)) (uL : g = true -> (Y7 P σ c.args.toList c.argTypes.toList).1 := by first | (simp; done) | (simp [G]; done) | (simp [G]; omega) | (simp_all; done)) (uk : YZ P σ c.args.toList c.argTypes.toList = true \/ JQ own [res] := by first | (simp; done) | (simp [G]; done) | (simp [G]; omega) | (simp_all; done)) (kk : Bx p -> @EI P (σ.put d (.cnd g (yu [res]))) A l k := by (intro z; simp [G, Go.Vm.ZD]; (repeat (with_reducible refine Go.Mo.sdg ?_)); exact z.h)) : @SI P σ A o l k := Fs uE hc hg hd sD sK hs uV uQ uL uk (kk ⟨h⟩)
theorem cGs {A : Jj} {o : OpI} {l : KH} {c : Call} {f : FuncId} {d : Nat} {j dj : Nat} {want g own : Bool} {rows : List (List D)} {res : List D} {p : Prop} (hs : g = true -> QH P f own rows [res]) (h : p) (uE : o.o.op = .call c := by exact rfl) (hc : c.callee = .value (.func f) := by exact rfl) (hg : o.o.guard = some (j, want) := by exact rfl) (hd : o.o.dst = some d := by exact rfl) (sD : (A.ops[j]?).bind (·.dst) = some dj := by exact rfl) (sK : xZ want (σ.get dj) = some g := by exact rfl) (uV : (Y7 P σ c.args.toList c.argTypes.toList).2 = some rows := by simp) (uQ : dj < σ.length := by simp) (uL : g = true -> (Y7 P σ c.args.toList c.argTypes.toList).1 := by simp) (uk : YZ P σ c.args.toList c.argTypes.toList = true \/ JQ own [res] := by simp) (kk : Bx p -> @EI P (σ.put d (.cnd g (yu [res]))) A l k := by (intro z; simp; (repeat (with_reducible refine Go.Mo.sd ?_)); exact z.h)) : @SI P σ A o l k := Fs uE hc hg hd sD sK hs uV uQ uL uk (kk ⟨h⟩)
theorem cBo {A : Jj} {o : OpI} {l : KH} {cl : Call} {f : FuncId} {d : Nat} {x0 : Operand} {xs : List Operand} {t0 : TypeId} {ts : List TypeId} {uX res : List (List D)} {row uW : List D} {dp : Bool} {t : Nat} (qs : List Bool) (hs : zc P f dp row uX uW res) (h : @EI P (GW dp (σ.Zs t 0 (.box (uW.map .d))) d res qs) A l k) (uE : o.o.op = .call cl := by exact rfl) (hc : cl.callee = .value (.func f) := by exact rfl) (oB : o.o.guard = none := by exact rfl) (hd : o.o.dst = some d := by exact rfl) (uy : A.bar o.o = true := by exact rfl) (ha : cl.args.toList = x0 :: xs := by exact rfl) (ru : cl.argTypes.toList = t0 :: ts := by exact rfl) (hx : gOf (look P σ t0 x0) = true /\ unc (look P σ t0 x0) = .one (.bptr t 0) := by exact ⟨rfl, rfl⟩) (ho : σ.ob t 0 = .box (row.map .d) := by simp) (uL : (Y7 P σ xs ts).1 := by simp) (uV : (Y7 P σ xs ts).2 = some uX := by simp) (uk : YZ P σ xs ts = true := by simp) (tD : dp = true -> (σ.Zs t 0 (.box (uW.map .d))).fresh d = true /\ qI qs res.flatten := by simp [-Bool.exists_bool, -Bool.forall_bool]) : @SI P σ A o l k := AK qs uE hc oB hd uy ha ru hs hx ho uL uV uk tD h
theorem cBs {A : Jj} {o : OpI} {l : KH} {cl : Call} {f : FuncId} {d : Nat} {x0 : Operand} {xs : List Operand} {t0 : TypeId} {ts : List TypeId} {uX res : List (List D)} {row uW : List D} {dp : Bool} {t : Nat} {p : Prop} (qs : List Bool) (hs : zc P f dp row uX uW res) (h : p) (uE : o.o.op = .call cl := by exact rfl) (hc : cl.callee = .value (.func f) := by exact rfl) (oB : o.o.guard = none := by exact rfl) (hd : o.o.dst = some d := by exact rfl) (uy : A.bar o.o = true := by exact rfl) (ha : cl.args.toList = x0 :: xs := by exact rfl) (ru : cl.argTypes.toList = t0 :: ts := by exact rfl) (hx : gOf (look P σ t0 x0) = true /\ unc (look P σ t0 x0) = .one (.bptr t 0) := by exact ⟨rfl, rfl⟩) (ho : σ.ob t 0 = .box (row.map .d) := by simp) (uL : (Y7 P σ xs ts).1 := by simp) (uV : (Y7 P σ xs ts).2 = some uX := by simp) (uk : YZ P σ xs ts = true := by simp) (tD : dp = true -> (σ.Zs t 0 (.box (uW.map .d))).fresh d = true /\ qI qs res.flatten := by simp [-Bool.exists_bool, -Bool.forall_bool]) (kk : Bx p -> @EI P (GW dp (σ.Zs t 0 (.box (uW.map .d))) d res qs) A l k := by (intro z; simp; (repeat (with_reducible refine Go.Mo.sd ?_)); exact z.h)) : @SI P σ A o l k := AK qs uE hc oB hd uy ha ru hs hx ho uL uV uk tD (kk ⟨h⟩)
theorem cNs {A : Jj} {o : OpI} {l : KH} {cl : Call} {f : FuncId} {d : Nat} {uX : List (List D)} {uW : List D} {p : Prop} (hs : Pz P f uX uW) (h : p) (uE : o.o.op = .call cl := by exact rfl) (hc : cl.callee = .value (.func f) := by exact rfl) (oB : o.o.guard = none := by exact rfl) (hd : o.o.dst = some d := by exact rfl) (uy : A.bar o.o = true := by exact rfl) (uL : (Y7 P σ cl.args.toList cl.argTypes.toList).1 := by simp) (uV : (Y7 P σ cl.args.toList cl.argTypes.toList).2 = some uX := by simp) (uk : YZ P σ cl.args.toList cl.argTypes.toList = true := by simp) (tD : σ.fresh d = true := by simp) (r8 : Jq P o.o = false := by exact rfl) (kk : Bx p -> @EI P (σ.new d (.one (.bptr d 0)) [.box (uW.map .d)]) A l k := by (intro z; simp; (repeat (with_reducible refine Go.Mo.sd ?_)); exact z.h)) : @SI P σ A o l k := wK uE hc oB hd uy hs uL uV uk tD (kk ⟨h⟩) r8
theorem dIo {id : Nat} {l : List Oper} {br : Oper -> Bool} (hm : P.follows .mixedOrders = true) (h : @EI P σ ⟨⟨l⟩, fun _ => false⟩ ⟨l⟩ k) (hdr : RJ P ⟨l⟩ (fun i => i) (fun _ => false) = true := by kernel_rfl) (uu : zN ⟨l⟩ (fun i => i) σ = true := by kernel_rfl) : @DI P id σ ⟨⟨l⟩, br⟩ k := Cm hm hdr uu h
theorem dIg {id : Nat} {l : List Oper} {br : Oper -> Bool} {p : Prop} (hm : P.follows .mixedOrders = true) (h : p) (hdr : RJ P ⟨l⟩ (fun i => i) (fun _ => false) = true := by kernel_rfl) (uu : zN ⟨l⟩ (fun i => i) σ = true := by kernel_rfl) (kk : Bx p -> @EI P σ ⟨⟨l⟩, fun _ => false⟩ ⟨l⟩ k := by (intro z; simp [G, Go.Vm.ZD]; (repeat (with_reducible refine Go.Mo.sdg ?_)); exact z.h)) : @DI P id σ ⟨⟨l⟩, br⟩ k := Cm hm hdr uu (kk ⟨h⟩)
theorem dIs {id : Nat} {l : List Oper} {br : Oper -> Bool} {p : Prop} (hm : P.follows .mixedOrders = true) (h : p) (hdr : RJ P ⟨l⟩ (fun i => i) (fun _ => false) = true := by kernel_rfl) (uu : zN ⟨l⟩ (fun i => i) σ = true := by kernel_rfl) (kk : Bx p -> @EI P σ ⟨⟨l⟩, fun _ => false⟩ ⟨l⟩ k := by (intro z; (try simp); (repeat (with_reducible refine Go.Mo.sd ?_)); exact z.h)) : @DI P id σ ⟨⟨l⟩, br⟩ k := Cm hm hdr uu (kk ⟨h⟩)
theorem eIs {A : Jj} {o : OpI} {l : KH} {d : Nat} {p : Prop}  (h : p) (hp : H0 o.o = true := by exact rfl) (hg : o.o.guard = none := by exact rfl) (hd : o.o.dst = some d := by exact rfl) (kk : Bx p -> (evS P σ o.o d).1 /\ @EI P (evS P σ o.o d).2 A l k := by (intro z; simp; (repeat (with_reducible refine Go.Mo.sd ?_)); exact z.h)) : @SI P σ A o l k := evI hp hg hd (kk ⟨h⟩)
theorem sGo {A : Jj} {o : OpI} {l : KH} {j dj d : Nat} {want g : Bool}  (h : @EI P (σ.put d (.cnd false .any)) A l k) (hg : o.o.guard = some (j, want) := by exact rfl) (hd : o.o.dst = some d := by exact rfl) (sD : (A.ops[j]?).bind (·.dst) = some dj := by exact rfl) (sK : xZ want (σ.get dj) = some g := by exact rfl) (uQ : dj < σ.length := by simp) (hQ : g = false := by simp [G]) : @SI P σ A o l k := AE hg hd sD sK uQ hQ h
theorem sGg {A : Jj} {o : OpI} {l : KH} {j dj d : Nat} {want g : Bool} {p : Prop}  (h : p) (hg : o.o.guard = some (j, want) := by exact rfl) (hd : o.o.dst = some d := by exact rfl) (sD : (A.ops[j]?).bind (·.dst) = some dj := by exact rfl) (sK : xZ want (σ.get dj) = some g := by exact rfl) (uQ : dj < σ.length := by simp) (hQ : g = false := by simp [G]) (kk : Bx p -> @EI P (σ.put d (.cnd false .any)) A l k := by (intro z; simp [G, Go.Vm.ZD]; (repeat (with_reducible refine Go.Mo.sdg ?_)); exact z.h)) : @SI P σ A o l k := AE hg hd sD sK uQ hQ (kk ⟨h⟩)
theorem gIf {A : Jj} {o : OpI} {l : KH} {j dj d : Nat} {want g : Bool} {r1 r2 : Prop} {q : Prop} (ht : r1 -> ((evV P σ o.o.op o.o.type).1 /\ gOf (evV P σ o.o.op o.o.type).2 = true /\ (unc (evV P σ o.o.op o.o.type).2).flat = true) /\ @EI P (σ.put d (.cnd true (unc (evV P σ o.o.op o.o.type).2))) A l k) (hf : r2 -> q) (uE : Px o.o.op = false := by exact rfl) (hg : o.o.guard = some (j, want) := by exact rfl) (hd : o.o.dst = some d := by exact rfl) (sD : (A.ops[j]?).bind (·.dst) = some dj := by exact rfl) (sK : xZ want (σ.get dj) = some g := by exact rfl) (uQ : dj < σ.length := by simp) (k1 : g = true -> r1 := by (intro h; (try simp only [beq_true, beq_false, Bool.not_eq_true', Bool.not_eq_false', Bool.true_and, Bool.and_true] at h); exact h)) (k2 : g = false -> r2 := by (intro h; (try simp only [beq_true, beq_false, Bool.not_eq_true', Bool.not_eq_false', Bool.true_and, Bool.and_true] at h); exact h)) (kf : r2 -> Bx q -> @EI P (σ.put d (.cnd false .any)) A l k := by (intro G z; simp [G, Go.Vm.ZD]; (repeat (with_reducible refine Go.Mo.sdg ?_)); exact z.h)) : @SI P σ A o l k := MM uE hg hd sD sK uQ (fun h => ht (k1 h)) (fun h => (fun G => kf G ⟨hf G⟩) (k2 h))
theorem gIo {A : Jj} {o : OpI} {l : KH} {j dj d : Nat} {want g : Bool} {r1 r2 : Prop} (ht : r1 -> ((evV P σ o.o.op o.o.type).1 /\ gOf (evV P σ o.o.op o.o.type).2 = true /\ (unc (evV P σ o.o.op o.o.type).2).flat = true) /\ @EI P (σ.put d (.cnd true (unc (evV P σ o.o.op o.o.type).2))) A l k) (hf : r2 -> @EI P (σ.put d (.cnd false .any)) A l k) (uE : Px o.o.op = false := by exact rfl) (hg : o.o.guard = some (j, want) := by exact rfl) (hd : o.o.dst = some d := by exact rfl) (sD : (A.ops[j]?).bind (·.dst) = some dj := by exact rfl) (sK : xZ want (σ.get dj) = some g := by exact rfl) (uQ : dj < σ.length := by simp) (k1 : g = true -> r1 := by (intro h; (try simp only [beq_true, beq_false, Bool.not_eq_true', Bool.not_eq_false', Bool.true_and, Bool.and_true] at h); exact h)) (k2 : g = false -> r2 := by (intro h; (try simp only [beq_true, beq_false, Bool.not_eq_true', Bool.not_eq_false', Bool.true_and, Bool.and_true] at h); exact h)) : @SI P σ A o l k := MM uE hg hd sD sK uQ (fun h => ht (k1 h)) (fun h => hf (k2 h))
theorem gJf {A : Jj} {o : OpI} {l : KH} {j dj d : Nat} {want g : Bool} {r1 r2 s : Prop} {q : Prop} (G : s) (ht : s /\ r1 -> ((evV P σ o.o.op o.o.type).1 /\ gOf (evV P σ o.o.op o.o.type).2 = true /\ (unc (evV P σ o.o.op o.o.type).2).flat = true) /\ @EI P (σ.put d (.cnd true (unc (evV P σ o.o.op o.o.type).2))) A l k) (hf : s /\ r2 -> q) (uE : Px o.o.op = false := by exact rfl) (hg : o.o.guard = some (j, want) := by exact rfl) (hd : o.o.dst = some d := by exact rfl) (sD : (A.ops[j]?).bind (·.dst) = some dj := by exact rfl) (sK : xZ want (σ.get dj) = some g := by exact rfl) (uQ : dj < σ.length := by simp) (k1 : g = true -> r1 := by (intro h; (try simp only [beq_true, beq_false, Bool.not_eq_true', Bool.not_eq_false', Bool.true_and, Bool.and_true] at h); exact h)) (k2 : g = false -> r2 := by (intro h; (try simp only [beq_true, beq_false, Bool.not_eq_true', Bool.not_eq_false', Bool.true_and, Bool.and_true] at h); exact h)) (kf : s /\ r2 -> Bx q -> @EI P (σ.put d (.cnd false .any)) A l k := by (intro G z; simp [G, Go.Vm.ZD]; (repeat (with_reducible refine Go.Mo.sdg ?_)); exact z.h)) : @SI P σ A o l k := MM uE hg hd sD sK uQ (fun h => ht ⟨G, k1 h⟩) (fun h => (fun G => kf G ⟨hf G⟩) ⟨G, k2 h⟩)
theorem gJo {A : Jj} {o : OpI} {l : KH} {j dj d : Nat} {want g : Bool} {r1 r2 s : Prop} (G : s) (ht : s /\ r1 -> ((evV P σ o.o.op o.o.type).1 /\ gOf (evV P σ o.o.op o.o.type).2 = true /\ (unc (evV P σ o.o.op o.o.type).2).flat = true) /\ @EI P (σ.put d (.cnd true (unc (evV P σ o.o.op o.o.type).2))) A l k) (hf : s /\ r2 -> @EI P (σ.put d (.cnd false .any)) A l k) (uE : Px o.o.op = false := by exact rfl) (hg : o.o.guard = some (j, want) := by exact rfl) (hd : o.o.dst = some d := by exact rfl) (sD : (A.ops[j]?).bind (·.dst) = some dj := by exact rfl) (sK : xZ want (σ.get dj) = some g := by exact rfl) (uQ : dj < σ.length := by simp) (k1 : g = true -> r1 := by (intro h; (try simp only [beq_true, beq_false, Bool.not_eq_true', Bool.not_eq_false', Bool.true_and, Bool.and_true] at h); exact h)) (k2 : g = false -> r2 := by (intro h; (try simp only [beq_true, beq_false, Bool.not_eq_true', Bool.not_eq_false', Bool.true_and, Bool.and_true] at h); exact h)) : @SI P σ A o l k := MM uE hg hd sD sK uQ (fun h => ht ⟨G, k1 h⟩) (fun h => hf ⟨G, k2 h⟩)
theorem gK {A : Jj} {o : OpI} {l : KH} {j dj d : Nat} {want g : Bool} {r1 : Prop} (ht : r1 -> ((evV P σ o.o.op o.o.type).1 /\ gOf (evV P σ o.o.op o.o.type).2 = true /\ (unc (evV P σ o.o.op o.o.type).2).flat = true) /\ @EI P (σ.put d (.cnd true (unc (evV P σ o.o.op o.o.type).2))) A l k) (uE : Px o.o.op = false := by exact rfl) (hg : o.o.guard = some (j, want) := by exact rfl) (hd : o.o.dst = some d := by exact rfl) (sD : (A.ops[j]?).bind (·.dst) = some dj := by exact rfl) (sK : xZ want (σ.get dj) = some g := by exact rfl) (uQ : dj < σ.length := by simp) (k1 : g = true -> r1 := by (intro h; (try simp only [beq_true, beq_false, Bool.not_eq_true', Bool.not_eq_false', Bool.true_and, Bool.and_true] at h); exact h)) (k2 : g = false -> False := by first | (intro g0; simp at g0; done) | (intro g0; simp [G] at g0; done)) : @SI P σ A o l k := MM uE hg hd sD sK uQ (fun h => ht (k1 h)) (fun h => (k2 h).elim)
theorem rt {α : Type} {x y : α} {fn : Func} {res : List (List D)} (rv : List ResultVar) (f : Me x y) (hf : fn.results = rv.toArray := by exact rfl) (h : x = y -> (Qx P σ rv).1 /\ qZ σ (Qx P σ rv).2 = some res := by (intro f; simp [f])) : GR P fn false res .ret σ := AI hf (h f.h)
theorem rtg {α : Type} {x y : α} {fn : Func} {res : List (List D)} (rv : List ResultVar) (f : Me x y) (hf : fn.results = rv.toArray := by exact rfl) (h : x = y -> (Qx P σ rv).1 /\ qZ σ (Qx P σ rv).2 = some res := by (intro f; simp [f, G])) : GR P fn false res .ret σ := AI hf (h f.h)
theorem rtO {α : Type} {x y : α} {fn : Func} {res : List (List D)} (rv : List ResultVar) (f : Me x y) (hf : fn.results = rv.toArray := by exact rfl) (h : x = y -> (Qx P σ rv).1 /\ WM σ (Qx P σ rv).2 = some res /\ (XE (Qx P σ rv).2.flatten).Nodup := by (intro f; simp [f])) : GR P fn true res .ret σ := AT hf (h f.h)
theorem rtD {α : Type} {x y : α} {fn : Func} {res : List (List D)} (rv : List ResultVar) (f : Me x y) (hf : fn.results = rv.toArray := by exact rfl) (h : x = y -> (Qx P σ rv).1 /\ JS σ (Qx P σ rv).2 = some res /\ JD σ (Qx P σ rv).2 /\ (XE (Qx P σ rv).2.flatten).Nodup := by (intro f; simp [f, -Bool.exists_bool, -Bool.forall_bool])) : DH P fn res .ret σ := Pn hf (h f.h)
theorem Xx {α : Type} {x y : α} {fn : Func} {res : List (List D)} (rv : List ResultVar) (f : Me x y) (hf : fn.results = rv.toArray := by exact rfl) (h : x = y -> (Qx P σ rv).1 /\ JS σ (Qx P σ rv).2 = some res /\ JD σ (Qx P σ rv).2 /\ (XE (Qx P σ rv).2.flatten).Nodup := by (intro f; simp [f, G, -Bool.exists_bool, -Bool.forall_bool])) : DH P fn res .ret σ := Pn hf (h f.h)
end
class NxI where
 p : St -> Prop
def Nx (σ : St) [n : NxI] : Prop := n.p σ
section
variable {P : Program} {σ : St} {k : Fr}
theorem PG {c : yo} {n n' : St -> Prop} (hn : ∀ σ', n σ' -> n' σ') (h : @WI P σ c (.nxt n k)) : AWP P c.c (Fr.run P (.nxt n' k)) σ :=
 FC (fun e σ' hq => by cases e <;> first | exact hn _ hq | exact hq) (VL h)
abbrev Q1 {R : Type} {A0 : Type} (L : Nat -> A0 -> R) (S : A0 -> St) (I : Nat -> A0 -> Prop) (t : R) (b : Nat) : NxI := ⟨fun τ => ∃ a0, Me t (L b a0) /\ (1 <= b /\ I b a0) /\ Wk τ (S a0)⟩
theorem nx1 {R : Type} {A0 : Type} {L : Nat -> A0 -> R} {S : A0 -> St} {I : Nat -> A0 -> Prop} {t : R} {b : Nat} {a0 : A0} (e : Me t (L b a0)) (hI : 1 <= b /\ I b a0 := by ((try dsimp only); first | omega | (simp at *; omega))) (hw : Wk σ (S a0) := by exact KB (by simp)) : @Nx σ (Q1 L S I t b) := ⟨a0, e, hI, hw⟩
theorem ny1 {R : Type} {A0 : Type} {L : Nat -> A0 -> R} {S : A0 -> St} {I : Nat -> A0 -> Prop} {t : R} {b : Nat} {a0 : A0} {q : Prop} (F : q) (e : Me t (L b a0)) (hI : 1 <= b /\ I b a0 := by ((try dsimp only); first | omega | (simp at *; omega))) (kw : q -> Wk σ (S a0) := by (intro F; exact KB (by simp [F]))) : @Nx σ (Q1 L S I t b) := ⟨a0, e, hI, kw F⟩
theorem lp1 {c : yo} {R : Type} {A0 : Type} {L B : Nat -> A0 -> R} (hL : ∀ (a0 : A0) (n : Nat), L (Nat.succ n) a0 = B n a0) (S : A0 -> St) (I : Nat -> A0 -> Prop) (n0 : Nat) (b0 : A0) {p : Nat -> A0 -> Prop}
  (round : ∀ n (a0 : A0), Me (L n0 b0) (B n a0) -> 1 <= n + 1 /\ I (n + 1) a0 -> p n a0) (hI : 1 <= n0 /\ I n0 b0 := by first | omega | (dsimp only; omega) | simp) (h0 : Wk σ (S b0) := by exact KB (by simp)) (kk : ∀ n (a0 : A0), Bx (p n a0) -> @WI P (S a0) c (.nxt (fun σ' => @Nx σ' (Q1 L S I (L n0 b0) n)) k) := by (intro n_ hZ z; simp; (repeat (with_reducible refine Go.Mo.sd ?_)); exact z.h)) : @SC P σ c k := by
 refine Vn (ι := { s : Nat × A0 // Me (L n0 b0) (L s.1 s.2) /\ (1 <= s.1 /\ I s.1 s.2) }) (fun s => S s.1.2) (fun s => s.1.1) ⟨(n0, b0), ⟨rfl⟩, hI⟩ h0 ?_
 rintro ⟨⟨n1, a0⟩, e, j⟩
 obtain ⟨n, rfl⟩ : ∃ q, n1 = q + 1 := ⟨n1 - 1, by have := j.1; (try dsimp only at this); omega⟩
 refine PG (fun σ' hn => ?_) (kk n a0 ⟨round n a0 ⟨by have := e.h; (try dsimp only at this); rw [this, hL]⟩ j⟩)
 obtain ⟨c0, e2, j2, w2⟩ := hn
 exact ⟨⟨(n, c0), e2, j2⟩, Nat.lt_succ_self n, w2⟩
abbrev Q2 {R : Type} {A0 A1 : Type} (L : Nat -> A0 -> A1 -> R) (S : A0 -> A1 -> St) (I : Nat -> A0 -> A1 -> Prop) (t : R) (b : Nat) : NxI := ⟨fun τ => ∃ a0 a1, Me t (L b a0 a1) /\ (1 <= b /\ I b a0 a1) /\ Wk τ (S a0 a1)⟩
theorem nx2 {R : Type} {A0 A1 : Type} {L : Nat -> A0 -> A1 -> R} {S : A0 -> A1 -> St} {I : Nat -> A0 -> A1 -> Prop} {t : R} {b : Nat} {a0 : A0} {a1 : A1} (e : Me t (L b a0 a1)) (hI : 1 <= b /\ I b a0 a1 := by ((try dsimp only); first | omega | (simp at *; omega))) (hw : Wk σ (S a0 a1) := by exact KB (by simp)) : @Nx σ (Q2 L S I t b) := ⟨a0, a1, e, hI, hw⟩
theorem ny2 {R : Type} {A0 A1 : Type} {L : Nat -> A0 -> A1 -> R} {S : A0 -> A1 -> St} {I : Nat -> A0 -> A1 -> Prop} {t : R} {b : Nat} {a0 : A0} {a1 : A1} {q : Prop} (F : q) (e : Me t (L b a0 a1)) (hI : 1 <= b /\ I b a0 a1 := by ((try dsimp only); first | omega | (simp at *; omega))) (kw : q -> Wk σ (S a0 a1) := by (intro F; exact KB (by simp [F]))) : @Nx σ (Q2 L S I t b) := ⟨a0, a1, e, hI, kw F⟩
theorem lp2 {c : yo} {R : Type} {A0 A1 : Type} {L B : Nat -> A0 -> A1 -> R} (hL : ∀ (a0 : A0) (a1 : A1) (n : Nat), L (Nat.succ n) a0 a1 = B n a0 a1) (S : A0 -> A1 -> St) (I : Nat -> A0 -> A1 -> Prop) (n0 : Nat) (b0 : A0) (b1 : A1) {p : Nat -> A0 -> A1 -> Prop}
  (round : ∀ n (a0 : A0) (a1 : A1), Me (L n0 b0 b1) (B n a0 a1) -> 1 <= n + 1 /\ I (n + 1) a0 a1 -> p n a0 a1) (hI : 1 <= n0 /\ I n0 b0 b1 := by first | omega | (dsimp only; omega) | simp) (h0 : Wk σ (S b0 b1) := by exact KB (by simp)) (kk : ∀ n (a0 : A0) (a1 : A1), Bx (p n a0 a1) -> @WI P (S a0 a1) c (.nxt (fun σ' => @Nx σ' (Q2 L S I (L n0 b0 b1) n)) k) := by (intro n_ hZ gR z; simp; (repeat (with_reducible refine Go.Mo.sd ?_)); exact z.h)) : @SC P σ c k := by
 refine Vn (ι := { s : Nat × A0 × A1 // Me (L n0 b0 b1) (L s.1 s.2.1 s.2.2) /\ (1 <= s.1 /\ I s.1 s.2.1 s.2.2) }) (fun s => S s.1.2.1 s.1.2.2) (fun s => s.1.1) ⟨(n0, b0, b1), ⟨rfl⟩, hI⟩ h0 ?_
 rintro ⟨⟨n1, a0, a1⟩, e, j⟩
 obtain ⟨n, rfl⟩ : ∃ q, n1 = q + 1 := ⟨n1 - 1, by have := j.1; (try dsimp only at this); omega⟩
 refine PG (fun σ' hn => ?_) (kk n a0 a1 ⟨round n a0 a1 ⟨by have := e.h; (try dsimp only at this); rw [this, hL]⟩ j⟩)
 obtain ⟨c0, c1, e2, j2, w2⟩ := hn
 exact ⟨⟨(n, c0, c1), e2, j2⟩, Nat.lt_succ_self n, w2⟩
abbrev Q3 {R : Type} {A0 A1 A2 : Type} (L : Nat -> A0 -> A1 -> A2 -> R) (S : A0 -> A1 -> A2 -> St) (I : Nat -> A0 -> A1 -> A2 -> Prop) (t : R) (b : Nat) : NxI := ⟨fun τ => ∃ a0 a1 a2, Me t (L b a0 a1 a2) /\ (1 <= b /\ I b a0 a1 a2) /\ Wk τ (S a0 a1 a2)⟩
theorem nx3 {R : Type} {A0 A1 A2 : Type} {L : Nat -> A0 -> A1 -> A2 -> R} {S : A0 -> A1 -> A2 -> St} {I : Nat -> A0 -> A1 -> A2 -> Prop} {t : R} {b : Nat} {a0 : A0} {a1 : A1} {a2 : A2} (e : Me t (L b a0 a1 a2)) (hI : 1 <= b /\ I b a0 a1 a2 := by ((try dsimp only); first | omega | (simp at *; omega))) (hw : Wk σ (S a0 a1 a2) := by exact KB (by simp)) : @Nx σ (Q3 L S I t b) := ⟨a0, a1, a2, e, hI, hw⟩
theorem ny3 {R : Type} {A0 A1 A2 : Type} {L : Nat -> A0 -> A1 -> A2 -> R} {S : A0 -> A1 -> A2 -> St} {I : Nat -> A0 -> A1 -> A2 -> Prop} {t : R} {b : Nat} {a0 : A0} {a1 : A1} {a2 : A2} {q : Prop} (F : q) (e : Me t (L b a0 a1 a2)) (hI : 1 <= b /\ I b a0 a1 a2 := by ((try dsimp only); first | omega | (simp at *; omega))) (kw : q -> Wk σ (S a0 a1 a2) := by (intro F; exact KB (by simp [F]))) : @Nx σ (Q3 L S I t b) := ⟨a0, a1, a2, e, hI, kw F⟩
theorem lp3 {c : yo} {R : Type} {A0 A1 A2 : Type} {L B : Nat -> A0 -> A1 -> A2 -> R} (hL : ∀ (a0 : A0) (a1 : A1) (a2 : A2) (n : Nat), L (Nat.succ n) a0 a1 a2 = B n a0 a1 a2) (S : A0 -> A1 -> A2 -> St) (I : Nat -> A0 -> A1 -> A2 -> Prop) (n0 : Nat) (b0 : A0) (b1 : A1) (b2 : A2) {p : Nat -> A0 -> A1 -> A2 -> Prop}
  (round : ∀ n (a0 : A0) (a1 : A1) (a2 : A2), Me (L n0 b0 b1 b2) (B n a0 a1 a2) -> 1 <= n + 1 /\ I (n + 1) a0 a1 a2 -> p n a0 a1 a2) (hI : 1 <= n0 /\ I n0 b0 b1 b2 := by first | omega | (dsimp only; omega) | simp) (h0 : Wk σ (S b0 b1 b2) := by exact KB (by simp)) (kk : ∀ n (a0 : A0) (a1 : A1) (a2 : A2), Bx (p n a0 a1 a2) -> @WI P (S a0 a1 a2) c (.nxt (fun σ' => @Nx σ' (Q3 L S I (L n0 b0 b1 b2) n)) k) := by (intro n_ hZ gR fx z; simp; (repeat (with_reducible refine Go.Mo.sd ?_)); exact z.h)) : @SC P σ c k := by
 refine Vn (ι := { s : Nat × A0 × A1 × A2 // Me (L n0 b0 b1 b2) (L s.1 s.2.1 s.2.2.1 s.2.2.2) /\ (1 <= s.1 /\ I s.1 s.2.1 s.2.2.1 s.2.2.2) }) (fun s => S s.1.2.1 s.1.2.2.1 s.1.2.2.2) (fun s => s.1.1) ⟨(n0, b0, b1, b2), ⟨rfl⟩, hI⟩ h0 ?_
 rintro ⟨⟨n1, a0, a1, a2⟩, e, j⟩
 obtain ⟨n, rfl⟩ : ∃ q, n1 = q + 1 := ⟨n1 - 1, by have := j.1; (try dsimp only at this); omega⟩
 refine PG (fun σ' hn => ?_) (kk n a0 a1 a2 ⟨round n a0 a1 a2 ⟨by have := e.h; (try dsimp only at this); rw [this, hL]⟩ j⟩)
 obtain ⟨c0, c1, c2, e2, j2, w2⟩ := hn
 exact ⟨⟨(n, c0, c1, c2), e2, j2⟩, Nat.lt_succ_self n, w2⟩
abbrev Q4 {R : Type} {A0 A1 A2 A3 : Type} (L : Nat -> A0 -> A1 -> A2 -> A3 -> R) (S : A0 -> A1 -> A2 -> A3 -> St) (I : Nat -> A0 -> A1 -> A2 -> A3 -> Prop) (t : R) (b : Nat) : NxI := ⟨fun τ => ∃ a0 a1 a2 a3, Me t (L b a0 a1 a2 a3) /\ (1 <= b /\ I b a0 a1 a2 a3) /\ Wk τ (S a0 a1 a2 a3)⟩
theorem nx4 {R : Type} {A0 A1 A2 A3 : Type} {L : Nat -> A0 -> A1 -> A2 -> A3 -> R} {S : A0 -> A1 -> A2 -> A3 -> St} {I : Nat -> A0 -> A1 -> A2 -> A3 -> Prop} {t : R} {b : Nat} {a0 : A0} {a1 : A1} {a2 : A2} {a3 : A3} (e : Me t (L b a0 a1 a2 a3)) (hI : 1 <= b /\ I b a0 a1 a2 a3 := by ((try dsimp only); first | omega | (simp at *; omega))) (hw : Wk σ (S a0 a1 a2 a3) := by exact KB (by simp)) : @Nx σ (Q4 L S I t b) := ⟨a0, a1, a2, a3, e, hI, hw⟩
theorem lp4 {c : yo} {R : Type} {A0 A1 A2 A3 : Type} {L B : Nat -> A0 -> A1 -> A2 -> A3 -> R} (hL : ∀ (a0 : A0) (a1 : A1) (a2 : A2) (a3 : A3) (n : Nat), L (Nat.succ n) a0 a1 a2 a3 = B n a0 a1 a2 a3) (S : A0 -> A1 -> A2 -> A3 -> St) (I : Nat -> A0 -> A1 -> A2 -> A3 -> Prop) (n0 : Nat) (b0 : A0) (b1 : A1) (b2 : A2) (b3 : A3) {p : Nat -> A0 -> A1 -> A2 -> A3 -> Prop}
  (round : ∀ n (a0 : A0) (a1 : A1) (a2 : A2) (a3 : A3), Me (L n0 b0 b1 b2 b3) (B n a0 a1 a2 a3) -> 1 <= n + 1 /\ I (n + 1) a0 a1 a2 a3 -> p n a0 a1 a2 a3) (hI : 1 <= n0 /\ I n0 b0 b1 b2 b3 := by first | omega | (dsimp only; omega) | simp) (h0 : Wk σ (S b0 b1 b2 b3) := by exact KB (by simp)) (kk : ∀ n (a0 : A0) (a1 : A1) (a2 : A2) (a3 : A3), Bx (p n a0 a1 a2 a3) -> @WI P (S a0 a1 a2 a3) c (.nxt (fun σ' => @Nx σ' (Q4 L S I (L n0 b0 b1 b2 b3) n)) k) := by (intro n_ hZ gR fx ei z; simp; (repeat (with_reducible refine Go.Mo.sd ?_)); exact z.h)) : @SC P σ c k := by
 refine Vn (ι := { s : Nat × A0 × A1 × A2 × A3 // Me (L n0 b0 b1 b2 b3) (L s.1 s.2.1 s.2.2.1 s.2.2.2.1 s.2.2.2.2) /\ (1 <= s.1 /\ I s.1 s.2.1 s.2.2.1 s.2.2.2.1 s.2.2.2.2) }) (fun s => S s.1.2.1 s.1.2.2.1 s.1.2.2.2.1 s.1.2.2.2.2) (fun s => s.1.1) ⟨(n0, b0, b1, b2, b3), ⟨rfl⟩, hI⟩ h0 ?_
 rintro ⟨⟨n1, a0, a1, a2, a3⟩, e, j⟩
 obtain ⟨n, rfl⟩ : ∃ q, n1 = q + 1 := ⟨n1 - 1, by have := j.1; (try dsimp only at this); omega⟩
 refine PG (fun σ' hn => ?_) (kk n a0 a1 a2 a3 ⟨round n a0 a1 a2 a3 ⟨by have := e.h; (try dsimp only at this); rw [this, hL]⟩ j⟩)
 obtain ⟨c0, c1, c2, c3, e2, j2, w2⟩ := hn
 exact ⟨⟨(n, c0, c1, c2, c3), e2, j2⟩, Nat.lt_succ_self n, w2⟩
abbrev Q5 {R : Type} {A0 A1 A2 A3 A4 : Type} (L : Nat -> A0 -> A1 -> A2 -> A3 -> A4 -> R) (S : A0 -> A1 -> A2 -> A3 -> A4 -> St) (I : Nat -> A0 -> A1 -> A2 -> A3 -> A4 -> Prop) (t : R) (b : Nat) : NxI := ⟨fun τ => ∃ a0 a1 a2 a3 a4, Me t (L b a0 a1 a2 a3 a4) /\ (1 <= b /\ I b a0 a1 a2 a3 a4) /\ Wk τ (S a0 a1 a2 a3 a4)⟩
theorem nx5 {R : Type} {A0 A1 A2 A3 A4 : Type} {L : Nat -> A0 -> A1 -> A2 -> A3 -> A4 -> R} {S : A0 -> A1 -> A2 -> A3 -> A4 -> St} {I : Nat -> A0 -> A1 -> A2 -> A3 -> A4 -> Prop} {t : R} {b : Nat} {a0 : A0} {a1 : A1} {a2 : A2} {a3 : A3} {a4 : A4} (e : Me t (L b a0 a1 a2 a3 a4)) (hI : 1 <= b /\ I b a0 a1 a2 a3 a4 := by ((try dsimp only); first | omega | (simp at *; omega))) (hw : Wk σ (S a0 a1 a2 a3 a4) := by exact KB (by simp)) : @Nx σ (Q5 L S I t b) := ⟨a0, a1, a2, a3, a4, e, hI, hw⟩
theorem lp5 {c : yo} {R : Type} {A0 A1 A2 A3 A4 : Type} {L B : Nat -> A0 -> A1 -> A2 -> A3 -> A4 -> R} (hL : ∀ (a0 : A0) (a1 : A1) (a2 : A2) (a3 : A3) (a4 : A4) (n : Nat), L (Nat.succ n) a0 a1 a2 a3 a4 = B n a0 a1 a2 a3 a4) (S : A0 -> A1 -> A2 -> A3 -> A4 -> St) (I : Nat -> A0 -> A1 -> A2 -> A3 -> A4 -> Prop) (n0 : Nat) (b0 : A0) (b1 : A1) (b2 : A2) (b3 : A3) (b4 : A4) {p : Nat -> A0 -> A1 -> A2 -> A3 -> A4 -> Prop}
  (round : ∀ n (a0 : A0) (a1 : A1) (a2 : A2) (a3 : A3) (a4 : A4), Me (L n0 b0 b1 b2 b3 b4) (B n a0 a1 a2 a3 a4) -> 1 <= n + 1 /\ I (n + 1) a0 a1 a2 a3 a4 -> p n a0 a1 a2 a3 a4) (hI : 1 <= n0 /\ I n0 b0 b1 b2 b3 b4 := by first | omega | (dsimp only; omega) | simp) (h0 : Wk σ (S b0 b1 b2 b3 b4) := by exact KB (by simp)) (kk : ∀ n (a0 : A0) (a1 : A1) (a2 : A2) (a3 : A3) (a4 : A4), Bx (p n a0 a1 a2 a3 a4) -> @WI P (S a0 a1 a2 a3 a4) c (.nxt (fun σ' => @Nx σ' (Q5 L S I (L n0 b0 b1 b2 b3 b4) n)) k) := by (intro n_ hZ gR fx ei cp z; simp; (repeat (with_reducible refine Go.Mo.sd ?_)); exact z.h)) : @SC P σ c k := by
 refine Vn (ι := { s : Nat × A0 × A1 × A2 × A3 × A4 // Me (L n0 b0 b1 b2 b3 b4) (L s.1 s.2.1 s.2.2.1 s.2.2.2.1 s.2.2.2.2.1 s.2.2.2.2.2) /\ (1 <= s.1 /\ I s.1 s.2.1 s.2.2.1 s.2.2.2.1 s.2.2.2.2.1 s.2.2.2.2.2) }) (fun s => S s.1.2.1 s.1.2.2.1 s.1.2.2.2.1 s.1.2.2.2.2.1 s.1.2.2.2.2.2) (fun s => s.1.1) ⟨(n0, b0, b1, b2, b3, b4), ⟨rfl⟩, hI⟩ h0 ?_
 rintro ⟨⟨n1, a0, a1, a2, a3, a4⟩, e, j⟩
 obtain ⟨n, rfl⟩ : ∃ q, n1 = q + 1 := ⟨n1 - 1, by have := j.1; (try dsimp only at this); omega⟩
 refine PG (fun σ' hn => ?_) (kk n a0 a1 a2 a3 a4 ⟨round n a0 a1 a2 a3 a4 ⟨by have := e.h; (try dsimp only at this); rw [this, hL]⟩ j⟩)
 obtain ⟨c0, c1, c2, c3, c4, e2, j2, w2⟩ := hn
 exact ⟨⟨(n, c0, c1, c2, c3, c4), e2, j2⟩, Nat.lt_succ_self n, w2⟩
abbrev Q13 {R : Type} {A0 A1 A2 A3 A4 A5 A6 A7 A8 A9 rT rU rV : Type} (L : Nat -> A0 -> A1 -> A2 -> A3 -> A4 -> A5 -> A6 -> A7 -> A8 -> A9 -> rT -> rU -> rV -> R) (S : A0 -> A1 -> A2 -> A3 -> A4 -> A5 -> A6 -> A7 -> A8 -> A9 -> rT -> rU -> rV -> St) (I : Nat -> A0 -> A1 -> A2 -> A3 -> A4 -> A5 -> A6 -> A7 -> A8 -> A9 -> rT -> rU -> rV -> Prop) (t : R) (b : Nat) : NxI := ⟨fun τ => ∃ a0 a1 a2 a3 a4 a5 a6 a7 a8 a9 sy s3 s4, Me t (L b a0 a1 a2 a3 a4 a5 a6 a7 a8 a9 sy s3 s4) /\ (1 <= b /\ I b a0 a1 a2 a3 a4 a5 a6 a7 a8 a9 sy s3 s4) /\ Wk τ (S a0 a1 a2 a3 a4 a5 a6 a7 a8 a9 sy s3 s4)⟩
theorem wo {R : Type} {A0 A1 A2 A3 A4 A5 A6 A7 A8 A9 rT rU rV : Type} {L : Nat -> A0 -> A1 -> A2 -> A3 -> A4 -> A5 -> A6 -> A7 -> A8 -> A9 -> rT -> rU -> rV -> R} {S : A0 -> A1 -> A2 -> A3 -> A4 -> A5 -> A6 -> A7 -> A8 -> A9 -> rT -> rU -> rV -> St} {I : Nat -> A0 -> A1 -> A2 -> A3 -> A4 -> A5 -> A6 -> A7 -> A8 -> A9 -> rT -> rU -> rV -> Prop} {t : R} {b : Nat} {a0 : A0} {a1 : A1} {a2 : A2} {a3 : A3} {a4 : A4} {a5 : A5} {a6 : A6} {a7 : A7} {a8 : A8} {a9 : A9} {sy : rT} {s3 : rU} {s4 : rV} (e : Me t (L b a0 a1 a2 a3 a4 a5 a6 a7 a8 a9 sy s3 s4)) (hI : 1 <= b /\ I b a0 a1 a2 a3 a4 a5 a6 a7 a8 a9 sy s3 s4 := by ((try dsimp only); first | omega | (simp at *; omega))) (hw : Wk σ (S a0 a1 a2 a3 a4 a5 a6 a7 a8 a9 sy s3 s4) := by exact KB (by simp)) : @Nx σ (Q13 L S I t b) := ⟨a0, a1, a2, a3, a4, a5, a6, a7, a8, a9, sy, s3, s4, e, hI, hw⟩
theorem wx {R : Type} {A0 A1 A2 A3 A4 A5 A6 A7 A8 A9 rT rU rV : Type} {L : Nat -> A0 -> A1 -> A2 -> A3 -> A4 -> A5 -> A6 -> A7 -> A8 -> A9 -> rT -> rU -> rV -> R} {S : A0 -> A1 -> A2 -> A3 -> A4 -> A5 -> A6 -> A7 -> A8 -> A9 -> rT -> rU -> rV -> St} {I : Nat -> A0 -> A1 -> A2 -> A3 -> A4 -> A5 -> A6 -> A7 -> A8 -> A9 -> rT -> rU -> rV -> Prop} {t : R} {b : Nat} {a0 : A0} {a1 : A1} {a2 : A2} {a3 : A3} {a4 : A4} {a5 : A5} {a6 : A6} {a7 : A7} {a8 : A8} {a9 : A9} {sy : rT} {s3 : rU} {s4 : rV} {q : Prop} (F : q) (e : Me t (L b a0 a1 a2 a3 a4 a5 a6 a7 a8 a9 sy s3 s4)) (hI : 1 <= b /\ I b a0 a1 a2 a3 a4 a5 a6 a7 a8 a9 sy s3 s4 := by ((try dsimp only); first | omega | (simp at *; omega))) (kw : q -> Wk σ (S a0 a1 a2 a3 a4 a5 a6 a7 a8 a9 sy s3 s4) := by (intro F; exact KB (by simp [F]))) : @Nx σ (Q13 L S I t b) := ⟨a0, a1, a2, a3, a4, a5, a6, a7, a8, a9, sy, s3, s4, e, hI, kw F⟩
theorem wC {c : yo} {R : Type} {A0 A1 A2 A3 A4 A5 A6 A7 A8 A9 rT rU rV : Type} {L B : Nat -> A0 -> A1 -> A2 -> A3 -> A4 -> A5 -> A6 -> A7 -> A8 -> A9 -> rT -> rU -> rV -> R} (hL : ∀ (a0 : A0) (a1 : A1) (a2 : A2) (a3 : A3) (a4 : A4) (a5 : A5) (a6 : A6) (a7 : A7) (a8 : A8) (a9 : A9) (sy : rT) (s3 : rU) (s4 : rV) (n : Nat), L (Nat.succ n) a0 a1 a2 a3 a4 a5 a6 a7 a8 a9 sy s3 s4 = B n a0 a1 a2 a3 a4 a5 a6 a7 a8 a9 sy s3 s4) (S : A0 -> A1 -> A2 -> A3 -> A4 -> A5 -> A6 -> A7 -> A8 -> A9 -> rT -> rU -> rV -> St) (I : Nat -> A0 -> A1 -> A2 -> A3 -> A4 -> A5 -> A6 -> A7 -> A8 -> A9 -> rT -> rU -> rV -> Prop) (n0 : Nat) (b0 : A0) (b1 : A1) (b2 : A2) (b3 : A3) (b4 : A4) (b5 : A5) (b6 : A6) (b7 : A7) (b8 : A8) (b9 : A9) (lX : rT) (lY : rU) (lZ : rV) {p : Nat -> A0 -> A1 -> A2 -> A3 -> A4 -> A5 -> A6 -> A7 -> A8 -> A9 -> rT -> rU -> rV -> Prop}
  (round : ∀ n (a0 : A0) (a1 : A1) (a2 : A2) (a3 : A3) (a4 : A4) (a5 : A5) (a6 : A6) (a7 : A7) (a8 : A8) (a9 : A9) (sy : rT) (s3 : rU) (s4 : rV), Me (L n0 b0 b1 b2 b3 b4 b5 b6 b7 b8 b9 lX lY lZ) (B n a0 a1 a2 a3 a4 a5 a6 a7 a8 a9 sy s3 s4) -> 1 <= n + 1 /\ I (n + 1) a0 a1 a2 a3 a4 a5 a6 a7 a8 a9 sy s3 s4 -> p n a0 a1 a2 a3 a4 a5 a6 a7 a8 a9 sy s3 s4) (hI : 1 <= n0 /\ I n0 b0 b1 b2 b3 b4 b5 b6 b7 b8 b9 lX lY lZ := by first | omega | (dsimp only; omega) | simp) (h0 : Wk σ (S b0 b1 b2 b3 b4 b5 b6 b7 b8 b9 lX lY lZ) := by exact KB (by simp)) (kk : ∀ n (a0 : A0) (a1 : A1) (a2 : A2) (a3 : A3) (a4 : A4) (a5 : A5) (a6 : A6) (a7 : A7) (a8 : A8) (a9 : A9) (sy : rT) (s3 : rU) (s4 : rV), Bx (p n a0 a1 a2 a3 a4 a5 a6 a7 a8 a9 sy s3 s4) -> @WI P (S a0 a1 a2 a3 a4 a5 a6 a7 a8 a9 sy s3 s4) c (.nxt (fun σ' => @Nx σ' (Q13 L S I (L n0 b0 b1 b2 b3 b4 b5 b6 b7 b8 b9 lX lY lZ) n)) k) := by (intro n_ hZ gR fx ei cp bd bg bh bj bk cq cr cu z; simp; (repeat (with_reducible refine Go.Mo.sd ?_)); exact z.h)) : @SC P σ c k := by
 refine Vn (ι := { s : Nat × A0 × A1 × A2 × A3 × A4 × A5 × A6 × A7 × A8 × A9 × rT × rU × rV // Me (L n0 b0 b1 b2 b3 b4 b5 b6 b7 b8 b9 lX lY lZ) (L s.1 s.2.1 s.2.2.1 s.2.2.2.1 s.2.2.2.2.1 s.2.2.2.2.2.1 s.2.2.2.2.2.2.1 s.2.2.2.2.2.2.2.1 s.2.2.2.2.2.2.2.2.1 s.2.2.2.2.2.2.2.2.2.1 s.2.2.2.2.2.2.2.2.2.2.1 s.2.2.2.2.2.2.2.2.2.2.2.1 s.2.2.2.2.2.2.2.2.2.2.2.2.1 s.2.2.2.2.2.2.2.2.2.2.2.2.2) /\ (1 <= s.1 /\ I s.1 s.2.1 s.2.2.1 s.2.2.2.1 s.2.2.2.2.1 s.2.2.2.2.2.1 s.2.2.2.2.2.2.1 s.2.2.2.2.2.2.2.1 s.2.2.2.2.2.2.2.2.1 s.2.2.2.2.2.2.2.2.2.1 s.2.2.2.2.2.2.2.2.2.2.1 s.2.2.2.2.2.2.2.2.2.2.2.1 s.2.2.2.2.2.2.2.2.2.2.2.2.1 s.2.2.2.2.2.2.2.2.2.2.2.2.2) }) (fun s => S s.1.2.1 s.1.2.2.1 s.1.2.2.2.1 s.1.2.2.2.2.1 s.1.2.2.2.2.2.1 s.1.2.2.2.2.2.2.1 s.1.2.2.2.2.2.2.2.1 s.1.2.2.2.2.2.2.2.2.1 s.1.2.2.2.2.2.2.2.2.2.1 s.1.2.2.2.2.2.2.2.2.2.2.1 s.1.2.2.2.2.2.2.2.2.2.2.2.1 s.1.2.2.2.2.2.2.2.2.2.2.2.2.1 s.1.2.2.2.2.2.2.2.2.2.2.2.2.2) (fun s => s.1.1) ⟨(n0, b0, b1, b2, b3, b4, b5, b6, b7, b8, b9, lX, lY, lZ), ⟨rfl⟩, hI⟩ h0 ?_
 rintro ⟨⟨n1, a0, a1, a2, a3, a4, a5, a6, a7, a8, a9, sy, s3, s4⟩, e, j⟩
 obtain ⟨n, rfl⟩ : ∃ q, n1 = q + 1 := ⟨n1 - 1, by have := j.1; (try dsimp only at this); omega⟩
 refine PG (fun σ' hn => ?_) (kk n a0 a1 a2 a3 a4 a5 a6 a7 a8 a9 sy s3 s4 ⟨round n a0 a1 a2 a3 a4 a5 a6 a7 a8 a9 sy s3 s4 ⟨by have := e.h; (try dsimp only at this); rw [this, hL]⟩ j⟩)
 obtain ⟨c0, c1, c2, c3, c4, c5, c6, c7, c8, c9, ec, cw, cx, e2, j2, w2⟩ := hn
 exact ⟨⟨(n, c0, c1, c2, c3, c4, c5, c6, c7, c8, c9, ec, cw, cx), e2, j2⟩, Nat.lt_succ_self n, w2⟩
end
section
variable {P : Program} {σ : St} {k : Fr}
theorem xt {A : Jj} {o : OpI} {l : KH} {d : Nat} {T : TypeId} {n : Nat} {parts : Array (Nat × Operand)} (h : @EI P (σ.new d (.one (.sref d 0 0 (Jv P σ (ZR P T) (P.cellsOf (ZR P T)) parts.toList 0).2.length)) [.lit (P.cellsOf (ZR P T)) (Jv P σ (ZR P T) (P.cellsOf (ZR P T)) parts.toList 0).2]) A l k) (uE : o.o.op = .buildSlice T n parts := by exact rfl) (hg : o.o.guard = none := by exact rfl) (hd : o.o.dst = some d := by exact rfl)
  (h1 : σ.fresh d = true /\ Y2 P T = true /\ Xn P (ZR P T) = true /\ 0 < P.cellsOf (ZR P T) /\ parts.toList.length = n /\ n * P.cellsOf (ZR P T) <= 16777216 := by simp) (h2 : (Jv P σ (ZR P T) (P.cellsOf (ZR P T)) parts.toList 0).1 := by simp)
  (h3 : YN d (Jv P σ (ZR P T) (P.cellsOf (ZR P T)) parts.toList 0).2.flatten = false := by simp)
  : @SI P σ A o l k := wz uE hg hd h1 h2 h3 h
theorem ql {A : Jj} {o : OpI} {l : KH} {d : Nat} {x y : Operand} {t : TypeId} {uG news : List (List D)} {l1 l2 : List (Nat × Nat)} {size : Nat} (h : @EI P ((σ.Zz (l1 ++ l2)).new d (.one (.sref d 0 0 (uG.length + news.length))) [.arr true size (uG ++ news)]) A l k) (uE : o.o.op = .call ⟨.builtin .append, #[x, y], #[t, t]⟩ := by exact rfl) (hg : o.o.guard = none := by exact rfl) (hd : o.o.dst = some d := by exact rfl) (uy : A.bar o.o = true := by exact rfl)
  (tM : size = P.cellsOf (ZR P t) := by simp) (h1 : gOf (look P σ t x) = true /\ gOf (look P σ t y) = true /\ Y2 P t = true /\ Xn P (ZR P t) = true /\ 0 < P.cellsOf (ZR P t) := by simp)
  (h2 : (kT σ (unc (look P σ t x)) size).1 /\ (kT σ (unc (look P σ t x)) size).2 = (uG, l1) := by simp) (h3 : (kb σ (unc (look P σ t y)) size).1 /\ (kb σ (unc (look P σ t y)) size).2 = (news, l2) := by simp)
  (h4 : (l1 ++ l2).Nodup /\ (σ.Zz (l1 ++ l2)).fresh d = true := by simp) (h5 : (uG.length + news.length) * P.bytesOf (ZR P t) <= 140737488355328 /\ uG.length + news.length <= 9223372036854775807 := by (simp <;> omega))
  : @SI P σ A o l k := wy uE hg hd uy tM h1 h2 h3 h4 h5 h
theorem jy {A : Jj} {o : OpI} {l : KH} {T : TypeId} {x y : Operand} {t j i size : Nat} {rows : List (List D)} {ds : List D} {L : List (Nat × Nat)} (h : @EI P ((σ.Zz L).Zs t j (.arr true size (rows.set i ds))) A l k) (uE : o.o.op = .store T x y := by exact rfl) (hg : o.o.guard = none := by exact rfl) (hd : o.o.dst = none := by exact rfl) (uy : A.bar o.o = true := by exact rfl)
  (hx : unc (look P σ 0 x) = .one (.ptr t j i 0) := by simp) (ho : σ.ob t j = .arr true size rows := by simp) (hi : i < rows.length := by (simp; try omega)) (h1 : yW P T = true /\ gOf (look P σ 0 x) = true /\ gOf (look P σ T y) = true /\ (unc (look P σ T y)).flat = true := by simp)
  (h2 : JO σ (unc (look P σ T y)).cells = some ds := by simp) (h3 : QG σ (unc (look P σ T y)).cells := by simp) (h4 : XE (unc (look P σ T y)).cells = L := by simp) (h5 : L.Nodup /\ (t, j) ∉ L /\ (σ.Zz L).zb (At.isT t) = false := by simp) (h6 : ds.length = P.cellsOf T /\ P.cellsOf T = size := by simp)
  : @SI P σ A o l k := w7 uE hg hd uy hx ho hi h1 h2 h3 h4 h5 h6 h
end
theorem wkS {σ σ' : St} (ρ : Ren) (F : List (Nat × Nat)) (uj : kh σ' ρ ρ = true := by exact rfl) (h : Uo σ ρ F σ σ' 0 := by simp) : Wk σ σ' := XA ρ F uj h
theorem drJ {P : Program} {id : Nat} {σ : St} {l : List Oper} {br : Oper -> Bool} {k : Fr} (bs : List Nat) (hm : P.follows .mixedOrders = true) (h : @EI P σ ⟨⟨l⟩, R9 bs⟩ ⟨l⟩ k) (hdr : Vm.RJ P ⟨l⟩ (fun i => i) (R9 bs) = true := by kernel_rfl) (uu : zN ⟨l⟩ (fun i => i) σ = true := by kernel_rfl) : @DI P id σ ⟨⟨l⟩, br⟩ k := Ay bs hm hdr uu h
theorem rpS {g p : Prop} (h : p) (kk : Bx p -> g := by (intro z; (repeat (with_reducible refine Go.Mo.sd ?_)); exact z.h)) : g := kk ⟨h⟩
theorem rpG {g p : Prop} (h : p) (kk : Bx p -> g := by (intro z; (repeat (with_reducible refine Go.Mo.sdg ?_)); exact z.h)) : g := kk ⟨h⟩
theorem xs {p q : Prop} (u : q) (h : q -> p := by (intro u; simp (maxDischargeDepth := 12) [u])) : p := h u
@[simp] abbrev rI (x : Int) : List D := [.int .i64 x]
@[simp] abbrev rB (b : Bool) : List D := [.bool b]
@[simp] abbrev rS (s : ByteArray) : List D := [.str s]
@[simp] abbrev rL {α : Type} (n : Nat) (f : α -> List D) (l : List α) : List D := [.sl n (l.map f)]
def Gy (l : List Bool) : List At := l.map (fun b => .d (.bool b))
def zB (n : Nat) : List Bool := List.replicate n false
@[simp] theorem Av (n : Nat) : (zB n).length = n := List.length_replicate ..
@[simp] theorem Fv (σ : St) (ρ : Ren) (F : List (Nat × Nat)) : ∀ l : List Bool, TD σ ρ F (Gy l) (Gy l) = True
 | [] => by simp [Gy, TD]
 | b :: l => by
  have h := Fv σ ρ F l
  simp only [Gy, List.map_cons, TD, ID] at h ⊢
  simp [h]
@[simp] theorem GS (t : Nat) : ∀ l : List Bool, YN t (Gy l) = false
 | [] => by simp [Gy, YN]
 | b :: l => by
  have h := GS t l
  simp only [Gy, List.map_cons] at h ⊢
  simp [YN, At.ref] at h ⊢
  exact h
end Go.Vm
