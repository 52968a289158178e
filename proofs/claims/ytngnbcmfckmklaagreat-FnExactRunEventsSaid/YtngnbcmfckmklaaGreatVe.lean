/- An abstract machine GP the model of Go, by value, and that it is sound: part Ve. No condition. -/
import Derived.Test.YtngnbcmfckmklaaGreatVd
namespace Go.Vm
open Go.RowKit
section
variable {P : Program} {σ : St} {k : Fr}
end
end Go.Vm
namespace Go.Vm
open Go.RowKit
def ra (σ : St) : V -> Option Nat
 | .one (.d (.sl _ rows)) => some rows.length
 | .one (.sref t j _ len) => (match σ.ob t j with | .arr _ _ _ => some len | _ => none)
 | .fix _ (.one (.sref t j _ len)) => (match σ.ob t j with | .arr _ _ _ => some len | _ => none)
 | _ => none
def VH (σ : St) : Prop := ∀ t n, ra σ (σ.get t) = some n -> n <= 9223372036854775807
theorem pe {T : CS} {h : Nat -> Nat -> Hd} {σ : St} {w : World} : ∀ {v : V} {val : Value} {n : Nat}, ra σ v = some n -> JN T h σ.ob w v val -> n <= maxLen
 | .one (.d (.sl s rows)), val, n, hn, hv => by
  simp only [ra] at hn
  cases hn
  obtain ⟨base, cap, _, h1, h2⟩ := vp (r := (show Rd T w val (.sl s rows) from hv))
  omega
 | .one (.sref u j lo len), val, n, hn, hv => by
  simp only [ra] at hn
  split at hn
  ·rename_i q s rows ho
   cases hn
   have hh := (show YI T h σ.ob w (.sref u j lo len) val from hv).2.1 _ _ _ ho
   obtain ⟨_, _, _, base, cap, _, h1, h2, _⟩ := hh
   omega
  ·cases hn
 | .fix u0 (.one (.sref u j lo len)), val, n, hn, hv => by
  simp only [ra] at hn
  split at hn
  ·rename_i q s rows ho
   cases hn
   have hh := (show YI T h σ.ob w (.sref u j lo len) val from hv.2).2.1 _ _ _ ho
   obtain ⟨_, _, _, base, cap, _, h1, h2, _⟩ := hh
   omega
  ·cases hn
theorem wX {T0 : CS} {B : Nat -> Prop} {σ : St} {a : Act} {w : World} (r : K6 T0 B σ a w) : VH σ := by
 obtain ⟨X, h, r⟩ := r
 intro t n hn
 exact pe hn (r.get t)
theorem BE {P : Program} {c : Code} {Q : Exit -> St -> Prop} {σ : St} (h : VH σ -> AWP P c Q σ) : AWP P c Q σ := fun T0 B a w r => h (wX r) T0 B a w r
section
variable {P : Program} {σ : St} {k : Fr}
theorem mA {b : Bool} {x y : qU} (ht : VH σ -> b = true -> @WI P σ x k) (hf : VH σ -> b = false -> @WI P σ y k) : @CI P b σ x y k :=
 ⟨fun h => BE fun hk => TP (ht hk h), fun h => BE fun hk => TP (hf hk h)⟩
theorem L7 {b c : Bool} {x y : qU} (hc : c = b) (ht : VH σ -> c = true -> @WI P σ x k) (hf : VH σ -> c = false -> @WI P σ y k) : @CI P b σ x y k := by
 subst hc; exact mA ht hf
theorem okL {c : qU} (h : VH σ -> @OU P σ c k) : @OU P σ c k := BE h
theorem okD {id : Nat} {A : zK} (h : VH σ -> @DI P id σ A k) : @DI P id σ A k := BE h
def Mz : Op -> Bool
 | .call _ => true
 | _ => false
theorem GC {A : zK} {o : OpI} {l : yC} {j dj d : Nat} {want g : Bool} (iS : Mz o.o.op = false) (hg : o.o.guard = some (j, want)) (hd : o.o.dst = some d)
  (fD : (A.ops[j]?).bind (·.dst) = some dj) (fI : jU want (σ.get dj) = some g) (ij : dj < σ.length)
  (ht : g = true -> ((evV P σ o.o.op o.o.type).1 /\ gOf (evV P σ o.o.op o.o.type).2 = true /\ (unc (evV P σ o.o.op o.o.type).2).flat = true) /\ @EI P (σ.put d (.cnd true (unc (evV P σ o.o.op o.o.type).2))) A l k)
  (hf : g = false -> @EI P (σ.put d (.cnd false .any)) A l k) : @SI P σ A o l k := by
 have step : ∀ v, (g = true -> (evV P σ o.o.op o.o.type).1 /\ gOf (evV P σ o.o.op o.o.type).2 = true /\ v = unc (evV P σ o.o.op o.o.type).2 /\ v.flat = true) -> XS P A.ops o.o σ (σ.put d (.cnd g v)) := by
  intro v hv
  unfold XS
  simp only [hg]
  refine ⟨dj, d, g, v, fD, ij, hd, fI, fun bo => ?_, rfl⟩
  obtain ⟨h1, h2, h3, h4⟩ := hv bo
  have base : ∃ v0, Yg P σ o.o.op o.o.type v0 /\ gOf v0 = true /\ v = unc v0 /\ v.flat = true := ⟨_, vm h1, h2, h3, h4⟩
  unfold M8
  split
  ·rename_i c hc; rw [hc] at iS; cases iS
  ·exact base
 cases g with
 | true =>
  obtain ⟨⟨h1, h2, h3⟩, h4⟩ := ht rfl
  exact ⟨_, .inl (step _ fun _ => ⟨h1, h2, rfl, h3⟩), JX h4⟩
 | false => exact ⟨_, .inl (step .any (fun h => by cases h)), JX (hf rfl)⟩
end
theorem oa {P : Program} {σ : St} {k : Fr} {A : zK} {o : OpI} {l : yC} {j dj d : Nat} {want g : Bool} (hg : o.o.guard = some (j, want)) (hd : o.o.dst = some d)
  (fD : (A.ops[j]?).bind (·.dst) = some dj) (fI : jU want (σ.get dj) = some g) (ij : dj < σ.length) (hgf : g = false)
  (h : @EI P (σ.put d (.cnd false .any)) A l k) : @SI P σ A o l k := by
 subst hgf
 refine ⟨_, .inl ?_, JX h⟩
 unfold XS
 simp only [hg]
 exact ⟨dj, d, false, .any, fD, ij, hd, fI, (fun h => by cases h), rfl⟩
def R1 (P : Program) : List TypeId -> List At -> List At -> Option Bool
 | [], _, _ => some true
 | f :: fs, x :: xs, y :: ys => (match sa P f x y, R1 P fs xs ys with | some p, some q => some (p && q) | _, _ => none)
 | _, _, _ => none
theorem IC (P : Program) : ∀ (fs : List Field) (xs ys : List At), j7 P fs xs ys = R1 P (fs.map (·.type)) xs ys
 | [], _, _ => by simp [j7, R1]
 | f :: fs, [], _ => by simp [j7, R1]
 | f :: fs, x :: xs, [] => by simp [j7, R1]
 | f :: fs, x :: xs, y :: ys => by simp only [j7, List.map_cons, R1, IC P fs xs ys]; rfl
def zb (P : Program) (T : TypeId) : List TypeId := (P.fieldsOf T).toList.map (·.type)
@[simp] theorem pq (P : Program) (T : TypeId) (xs ys : List At) : j7 P (P.fieldsOf T).toList xs ys = R1 P (zb P T) xs ys := IC P _ _ _
attribute [simp] R1
def nth {α : Type} [Inhabited α] (l : List α) (i : Nat) : α := l.getD i default
theorem ZB {α : Type} [Inhabited α] {f : α -> List D} {l : List α} {i : Nat} (h : i < l.length) : rowAt (l.map f) i = f (nth l i) := by
 simp [rowAt, nth, h]
theorem YL {α : Type} {f : α -> List D} {l : List α} {i : Nat} {x : α} {r : List D} (h : r = f x) : (l.map f).set i r = (l.set i x).map f := by
 rw [h, List.map_set]
abbrev W (x : Int) : Int := IntKind.i64.wrap x
theorem YG {x : Int} (h1 : -9223372036854775808 <= x) (h2 : x <= 9223372036854775807) : IntKind.i64.wrap x = x := by
 have hr : IntKind.i64.min <= x /\ x <= IntKind.i64.max := by
  constructor
  ·show -9223372036854775808 <= x; exact h1
  ·show x <= 9223372036854775807; exact h2
 simp only [IntKind.wrap]
 first
  | (simp [IntKind.bits, IntKind.signed]; omega)
  | omega
theorem jA (i : Nat) : ((i : Int) - 1).toNat = i - 1 := by omega
attribute [simp] St.fresh z8 V.ref V.MP Y2 Tq
end Go.Vm
namespace Go.Vm
open Go.RowKit
attribute [simp] St.Wf xu Ru At.ru Ro
section
variable {P : Program} {σ : St} {k : Fr}
theorem Jz {f : FuncId} {fn : Func} {c : Code} (hf : P.funcs[f]? = some fn) (hb : fn.body = some c) (hR : LQ P f = true) {row : List D} {args : List (List D)} {gJ : List D} {x : D}
  (hw : ∀ v, @WI P (Ro fn.ntmps v row args) ⟨c⟩ (.fin (nQ P fn v gJ x))) : K5 P f row args gJ x := Dz hf hb hR (fun v => TP (hw v))
theorem NL {fn : Func} {v : Value} {gJ : List D} {x : D} {rv : List ResultVar} (hf : fn.results = rv.toArray) (h : (zB P σ rv).1 /\ (zB P σ rv).2 = [[.d x]] /\ x.scalar = true /\ σ.head? = some (.fix v (vOf (KV 0 0 gJ)), YM [] gJ)) : nQ P fn v gJ x .ret σ :=
 ⟨.inl rfl, by rw [hf]; have := PJ h.1; rw [h.2.1] at this; simpa using this, h.2.2⟩
theorem V7 {A : zK} {o : OpI} {l : yC} {cl : Call} {f : FuncId} {d : Nat} {x0 : Operand} {xs : List Operand} {t0 : TypeId} {ts : List TypeId} {ia : List (List D)} {s s' : List (List D)} {n : Nat} {y : D} {t j i c : Nat} {size : Nat} {rows : List (List D)} (iS : o.o.op = .call cl) (hc : cl.callee = .value (.func f)) (bm : o.o.guard = none) (hd : o.o.dst = some d) (gO : A.bar o.o = true)
  (ha : cl.args.toList = x0 :: xs) (bn : cl.argTypes.toList = t0 :: ts) (hs : K5 P f [.sl n s] ia [.sl n s'] y) (hx : gOf (look P σ t0 x0) = true /\ unc (look P σ t0 x0) = .one (.tref t j i c none)) (ho : σ.ob t j = .arr true size rows) (hi : i < rows.length)
  (ib : (rowAt rows i)[c]? = some (.sl n s)) (iY : (Xp P σ xs ts).1) (iq : (Xp P σ xs ts).2 = some ia) (hQ : Ym P σ xs ts = true)
  (h : @EI P ((σ.Z5 t j (.arr true size (rows.set i (place (rowAt rows i) c [.sl n s'])))).put d (.one (.d y))) A l k) : @SI P σ A o l k := wo iS hc bm hd gO ha bn hx.1 hx.2 ho hi ib (kq iY iq) hQ hs h
theorem ke {A : zK} {o : OpI} {l : yC} {cl : Call} {f : FuncId} {d : Nat} {x0 : Operand} {xs : List Operand} {t0 : TypeId} {ts : List TypeId} {ia : List (List D)} {row gJ : List D} {y : D} {gZ : List At} (iS : o.o.op = .call cl) (hc : cl.callee = .value (.func f)) (bm : o.o.guard = none) (hd : o.o.dst = some d) (gO : A.bar o.o = true)
  (ha : cl.args.toList = x0 :: xs) (_hat : cl.argTypes.toList = t0 :: ts) (hs : K5 P f row ia gJ y) (hx : gOf (look P σ t0 x0) = true /\ unc (look P σ t0 x0) = vOf gZ) (fp : JF σ gZ = some row) (aL : Ru σ gZ) (gd : (Yh gZ).Nodup) (ak : σ.yL At.ru = false)
  (iY : (Xp P σ xs ts).1) (iq : (Xp P σ xs ts).2 = some ia) (hQ : Ym P σ xs ts = true) (al : xu row gJ)
  (h : @EI P ((σ.Wf gZ gJ).put d (.one (.d y))) A l k) : @SI P σ A o l k := w6 iS hc bm hd gO ha hx.1 hx.2 fp aL gd ak (kq iY iq) hQ hs al h
end
end Go.Vm
namespace Go.Vm
open Go.RowKit
def At.isP (t : Nat) : At -> Bool
 | .tref u _ _ _ _ => u == t
 | .ptr u _ _ _ => u == t
 | _ => false
section
variable {P : Program} {T0 : CS} {B : Nat -> Prop} {σ : St} {a : Act} {w w' : World} {X X' : Nat -> Prop} {h : Nat -> Nat -> Hd}
theorem Rel.nj (r : Rel T0 B σ a w X h) {t : Nat} {size : Nat} {rows : List (List At)} {news : List (List D)} {L : List (Nat × Nat)} (ho : σ.ob t 0 = .lit size rows) (fp : zz σ rows = some news) (hR : K8 σ rows)
  (hL : Yh rows.flatten = L) (gd : L.Nodup) (aM : (t, 0) ∉ L) (hp : (σ.Zt L).yL (At.isP t) = false) : K6 T0 B ((σ.Zt L).Z5 t 0 (.arr true size news)) a w := by
 have hH : σ.ob t 0 ≠ .none := by rw [ho]; simp
 have h0 := r.obj t 0
 rw [ho] at h0
 obtain ⟨e, xs, fV, hz, iV⟩ := h0
 obtain ⟨hm1, aq, hm3⟩ := UW fp
 have iX := O6 r iV hm1 (WD hR) (by rw [hL]; exact gd)
 rw [hL] at iX
 have r1 := r.Zt L
 have hP := r.yl L
 have fJ : ∀ b', (h t 0).u b' -> JM σ h L b' -> False := by
  rintro b' gv ⟨p, dF, iU, hup⟩
  obtain ⟨q1, q2⟩ := r.inj t 0 p.1 p.2 b' hH iU gv hup
  exact aM (by rw [q1, q2]; exact dF)
 have fq : (σ.Zt L).ob t 0 = .lit size rows := by rw [St.zA, if_neg aM, ho]
 have bq : (σ.Zt L).ob t 0 ≠ .none := by rw [fq]; simp
 have gm : ∀ u i, ¬ (u = t /\ i = 0) -> ((σ.Zt L).Z5 t 0 (.arr true size news)).ob u i = (σ.Zt L).ob u i := by
  intro u i iU
  rw [St.JV _ t 0 _ u i bq, if_neg iU]
 have gi : ((σ.Zt L).Z5 t 0 (.arr true size news)).ob t 0 = .arr true size news := by rw [St.JV _ t 0 _ t 0 bq]; simp
 generalize hσ : (σ.Zt L).Z5 t 0 (.arr true size news) = σ2 at *
 generalize hσ1 : σ.Zt L = σ1 at *
 have hlen : σ2.length = σ1.length := by rw [<- hσ, St.X7]
 have gY : ∀ u, σ2.get u = σ1.get u := fun u => by rw [<- hσ, St.QP]
 let ir : Hd := ⟨(h t 0).v, fun k => (xs[k]?).getD undef, fun b => (h t 0).u b \/ JM σ h L b⟩
 let h' : Nat -> Nat -> Hd := fun u i => if u = t /\ i = 0 then ir else h u i
 have cV : ∀ u i, ¬ (u = t /\ i = 0) -> h' u i = h u i := fun u i iU => if_neg iU
 have hht : h' t 0 = ir := by simp [h']
 have hv : ∀ u i, (h' u i).v = (h u i).v := by
  intro u i
  by_cases hc : u = t /\ i = 0
  ·obtain ⟨rfl, rfl⟩ := hc; rw [hht]
  ·rw [cV u i hc]
 have at_ : ∀ {x : At} {v : Value}, At.isP t x = false -> YI (Tof T0 X) h σ1.ob w x v -> YI (Tof T0 X) h' σ2.ob w x v := by
  intro x v aN rx
  cases x with
  | any => exact rx
  | d x => exact rx
  | nil s => exact rx
  | sref u i lo len =>
   refine ⟨rx.1, fun q s rws hq => ?_, fun s rws hq => ?_⟩
   ·by_cases hc : u = t /\ i = 0
    ·obtain ⟨rfl, rfl⟩ := hc
     rw [gi] at hq; cases hq
     rw [hv, <- aq]; exact rx.2.2 _ _ fq
    ·rw [gm u i hc] at hq; rw [hv]; exact rx.2.1 _ _ _ hq
   ·by_cases hc : u = t /\ i = 0
    ·obtain ⟨rfl, rfl⟩ := hc
     rw [gi] at hq; cases hq
    ·rw [gm u i hc] at hq; rw [hv]; exact rx.2.2 _ _ hq
  | ptr u i k c =>
   refine ⟨rx.1, fun q s rws hq => ?_⟩
   have hc : ¬ (u = t /\ i = 0) := fun hc => by simp [At.isP, hc.1] at aN
   rw [gm u i hc] at hq; rw [hv]; exact rx.2 _ _ _ hq
  | bptr u c =>
   refine ⟨rx.1, fun cells hq => ?_⟩
   by_cases hc : u = t
   ·subst hc; rw [gi] at hq; cases hq
   ·rw [gm u 0 (fun hh => hc hh.1)] at hq; rw [hv]; exact rx.2 _ hq
  | fn f u =>
   refine ⟨rx.1, fun cells hq => ?_⟩
   by_cases hc : u = t
   ·subst hc; rw [gi] at hq; cases hq
   ·rw [gm u 0 (fun hh => hc hh.1)] at hq; rw [hv]; exact rx.2 _ hq
  | tref u i k c o =>
   refine ⟨rx.1, fun s rws hq => ?_⟩
   have hc : ¬ (u = t /\ i = 0) := fun hc => by simp [At.isP, hc.1] at aN
   rw [gm u i hc] at hq; rw [cV u i hc]; exact rx.2 _ _ hq
  | rptr rr c => exact rx
 have gV : ∀ u i, σ2.ob u i ≠ .none -> σ1.ob u i ≠ .none := by
  intro u i hn
  by_cases hc : u = t /\ i = 0
  ·obtain ⟨rfl, rfl⟩ := hc; exact bq
  ·rw [gm u i hc] at hn; exact hn
 refine ⟨X, h', by rw [r1.size, hlen], r1.defers, r1.hB, r1.hX, r1.hT, fun u hu => ?_, fun u i => ?_, fun u i b hn hb => ?_, fun u i b hn hb => ?_, fun u i u' i' b hn gU hb ig => ?_⟩
 ·rw [hlen] at hu
  rw [gY]; exact JN.map at_ (St.Nh hp u) (r1.slot u hu)
 ·by_cases hc : u = t /\ i = 0
  ·obtain ⟨rfl, rfl⟩ := hc
   rw [gi, hht]
   refine ⟨e, xs, by rw [<- aq]; exact fV, hm3 size hz, iX.mono (fun b hb => ⟨.inr hb, fun cf => fJ b (r.ub u 0 b hH cf) hb⟩), fun k x d hx _ _ => by simp [ir, hx]⟩
  ·rw [gm u i hc, cV u i hc]
   exact zV.map at_ (fun b k v hb hc => ⟨hc, hb⟩) (fun ho b => r1.ub u i b ho) (fun _ _ _ => rfl) (St.Hl hp u i) (r1.obj u i)
 ·by_cases hc : u = t /\ i = 0
  ·obtain ⟨rfl, rfl⟩ := hc
   rw [hht] at hb ⊢; exact .inl (r.ub u 0 b hH hb)
  ·rw [cV u i hc] at hb ⊢; exact r1.ub u i b (gV u i hn) hb
 ·by_cases hc : u = t /\ i = 0
  ·obtain ⟨rfl, rfl⟩ := hc
   rw [hht] at hb
   rcases hb with hb | hb
   ·exact r.own u 0 b hH hb
   ·have := hP b hb; exact ⟨this.1, this.2.1, this.2.2.1⟩
  ·rw [cV u i hc] at hb; exact r1.own u i b (gV u i hn) hb
 ·have key : ∀ u i b, ¬ (u = t /\ i = 0) -> σ1.ob u i ≠ .none -> (h u i).u b -> (h' t 0).u b -> False := by
   intro u i b hc hn hb ig
   rw [hht] at ig
   rcases ig with ig | ig
   ·exact hc (r1.inj u i t 0 b hn bq hb ig)
   ·exact (hP b ig).2.2.2 u i hn hb
  by_cases hc : u = t /\ i = 0
  ·by_cases gB : u' = t /\ i' = 0
   ·exact ⟨hc.1.trans gB.1.symm, hc.2.trans gB.2.symm⟩
   ·obtain ⟨rfl, rfl⟩ := hc
    rw [cV u' i' gB] at ig
    exact (key u' i' b gB (gV u' i' gU) ig hb).elim
  ·rw [cV u i hc] at hb
   by_cases gB : u' = t /\ i' = 0
   ·obtain ⟨rfl, rfl⟩ := gB
    exact (key u i b hc (gV u i hn) hb ig).elim
   ·rw [cV u' i' gB] at ig
    exact r1.inj u i u' i' b (gV u i hn) (gV u' i' gU) hb ig
end
section
variable {P : Program} {σ : St} {k : Fr}
theorem mn {A : zK} {o : OpI} {l : yC} {d : Nat} {T : TypeId} {n : Nat} {parts : Array (Nat × Operand)} {news : List (List D)} {L : List (Nat × Nat)} (iS : o.o.op = .buildSlice T n parts) (hg : o.o.guard = none) (hd : o.o.dst = some d) (gO : A.bar o.o = true)
  (h1 : (σ.fresh d = true /\ d < σ.length) /\ XK P T = true /\ QK P (ZQ P T) = true /\ 0 < P.cellsOf (ZQ P T) /\ parts.toList.length = n /\ n * P.cellsOf (ZQ P T) <= 16777216) (h2 : (zI P σ (ZQ P T) (P.cellsOf (ZQ P T)) parts.toList 0).1)
  (h3 : YU d (zI P σ (ZQ P T) (P.cellsOf (ZQ P T)) parts.toList 0).2.flatten = false)
  (h4 : zz (σ.new d (.one (.sref d 0 0 (zI P σ (ZQ P T) (P.cellsOf (ZQ P T)) parts.toList 0).2.length)) [.lit (P.cellsOf (ZQ P T)) (zI P σ (ZQ P T) (P.cellsOf (ZQ P T)) parts.toList 0).2]) (zI P σ (ZQ P T) (P.cellsOf (ZQ P T)) parts.toList 0).2 = some news /\
   K8 (σ.new d (.one (.sref d 0 0 (zI P σ (ZQ P T) (P.cellsOf (ZQ P T)) parts.toList 0).2.length)) [.lit (P.cellsOf (ZQ P T)) (zI P σ (ZQ P T) (P.cellsOf (ZQ P T)) parts.toList 0).2]) (zI P σ (ZQ P T) (P.cellsOf (ZQ P T)) parts.toList 0).2)
  (h5 : Yh (zI P σ (ZQ P T) (P.cellsOf (ZQ P T)) parts.toList 0).2.flatten = L /\ L.Nodup /\ (d, 0) ∉ L)
  (h6 : ((σ.new d (.one (.sref d 0 0 (zI P σ (ZQ P T) (P.cellsOf (ZQ P T)) parts.toList 0).2.length)) [.lit (P.cellsOf (ZQ P T)) (zI P σ (ZQ P T) (P.cellsOf (ZQ P T)) parts.toList 0).2]).Zt L).yL (At.isP d) = false)
  (h : @EI P (((σ.new d (.one (.sref d 0 0 (zI P σ (ZQ P T) (P.cellsOf (ZQ P T)) parts.toList 0).2.length)) [.lit (P.cellsOf (ZQ P T)) (zI P σ (ZQ P T) (P.cellsOf (ZQ P T)) parts.toList 0).2]).Zt L).Z5 d 0 (.arr true (P.cellsOf (ZQ P T)) news)) A l k) : @SI P σ A o l k := by
 refine ⟨_, .inr ⟨gO, ?_, fun d' ir hc => QV (JY (Po (fun e => ir (by rw [hd, e])) hc)), fun hh => by simp [Oq, iS] at hh, fun hh => by first | (simp [RZ, iS] at hh; done) | (unfold RZ at hh; rw [iS] at hh; split at hh <;> simp_all)⟩, JX h⟩
 rintro T0 B a w K Q' ⟨X, hh, r⟩ hK
 have hw : Region.wanted o.o (yielded A.ops a.tmps) = true := by simp [Region.wanted, hg]
 rw [if_pos hw]
 refine R5 r iS hd h1.1.1 h1.2.1 h1.2.2.1 h1.2.2.2.1 h1.2.2.2.2.1 h1.2.2.2.2.2 (FR h2) h3 (fun a' w' hr hkp => hK a' w' ?_ hkp)
 obtain ⟨X', cV, r'⟩ := hr
 exact Rel.nj r' (by rw [St.zF, if_pos ⟨rfl, h1.1.2⟩]; rfl) h4.1 h4.2 h5.1 h5.2.1 h5.2.2 h6
end
attribute [simp] At.isP
theorem Yv.own {P : Program} {f : FuncId} {args res : List (List D)} (hs : Yv P f args res) : JC P f true args res := by
 refine ⟨hs.1, fun T w gQ hT ha => (hs.2 T w gQ hT ha).mono ?_⟩
 rintro e w' ⟨vs, gA, he, hb, hf, hl, ⟨hlen, Sk, h1, h2, h3⟩⟩
 refine ⟨vs, gA, fun b => (w.heap.size <= b /\ b < w'.heap.size) /\ ∀ (k : Nat) (c : Value) (d : D), gA.flatten[k]? = some c -> res.flatten[k]? = some d -> d.scalar = false -> blk c ≠ some b, he, hb, fun b hb => hb.1, hf, WS hl (fun k x d hx hd => ?_), fun _ => ⟨fun i c d b hc hd gn cU => ?_, fun i j c c' d d' b hc hd gB ir gn ao cU hbl' => ?_⟩⟩
 ·simp only [qM, if_true]
  have ho := h1 k x d hx hd
  cases ho with
  | int k n => exact .int _ _
  | bool b => exact .bool _
  | str s => exact .str _
  | unk v h => exact .unk _ h
  | sl v size rows S e' xs ba ho hz ig hl' hk eA ir =>
   refine ⟨e', xs, ho, hz, Z6.kA hl' (fun i y dd hy fB => (hk i y dd hy fB).rd (fun b k' hb => .inr ⟨h2 k b (eA i b hb).1, fun k2 c2 d2 da dU bp hbl2 => ?_⟩))⟩
   have eR := h1 k2 c2 d2 da dU
   have dV : Sk k2 b := by
    cases eR with
    | int k n => cases bp
    | bool b => cases bp
    | str s => cases bp
    | unk => cases bp
    | sl v2 aO cr S2 e2 xs2 Sk2 eR ar gr bk cT ic hd2' => exact gr b hbl2
   have := h3 k k2 b (eA i b hb).1 dV
   subst this
   rw [hx] at da; cases da
   exact (eA i b hb).2 hbl2
 ·have eR := h1 i c d hc hd
  have dV : Sk i b := by
   cases eR with
   | int k n => cases gn
   | bool b => cases gn
   | str s => cases gn
   | unk => cases gn
   | sl v2 aO cr S2 e2 xs2 Sk2 eR ar gr bk cT ic hd2' => exact gr b cU
  have := h2 i b dV
  exact ⟨this.1, this.2, fun hy => hy.2 i c d hc hd gn cU⟩
 ·have dV : ∀ (i : Nat) (c : Value) (d : D), gA.flatten[i]? = some c -> res.flatten[i]? = some d -> d.scalar = false -> blk c = some b -> Sk i b := by
   intro i c d hc hd gn cU
   have eR := h1 i c d hc hd
   cases eR with
   | int k n => cases gn
   | bool b => cases gn
   | str s => cases gn
   | unk => cases gn
   | sl v2 aO cr S2 e2 xs2 Sk2 eR ar gr bk cT ic hd2' => exact gr b cU
  exact h3 i j b (dV i c d hc hd gn cU) (dV j c' d' gB ir ao hbl')
end Go.Vm
namespace Go.Vm
open Go.RowKit
def Cl (σ : St) (F : List (Nat × Nat)) : At -> At
 | .sref t j lo len => if inF F t j then (match σ.ob t j with | .arr _ s rows => .d (.sl s (cut rows lo len)) | _ => .any) else .sref t j lo len
 | .ptr t j i c => if inF F t j then .any else .ptr t j i c
 | .tref t j i c o => if inF F t j then .any else .tref t j i c o
 | x => x
def mM (σ : St) (F : List (Nat × Nat)) : V -> V
 | .one x => .one (Cl σ F x)
 | .agg xs => .agg (xs.map (Cl σ F))
 | .fix u (.one x) => .fix u (.one (Cl σ F x))
 | .fix u (.agg xs) => .fix u (.agg (xs.map (Cl σ F)))
 | _ => .any
def oZ (σ : St) (F : List (Nat × Nat)) (t j : Nat) (o : Ob) : Ob :=
 if inF F t j then .none else match o with | .box cs => .box (cs.map (Cl σ F)) | .lit _ _ => .none | o => o
def uB (σ : St) (F : List (Nat × Nat)) (t : Nat) : List Ob -> Nat -> List Ob
 | [], _ => []
 | o :: os, j => oZ σ F t j o :: uB σ F t os (j + 1)
def BA (σ : St) (F : List (Nat × Nat)) : List Ent -> Nat -> List Ent
 | [], _ => []
 | e :: es, t => (mM σ F e.1, uB σ F t e.2 0) :: BA σ F es (t + 1)
def St.frz (σ : St) (F : List (Nat × Nat)) : St := BA σ F σ 0
section
variable {P : Program} {σ : St} {k : Fr}
end
attribute [simp] Cl mM oZ uB BA St.frz
end Go.Vm
namespace Go.Vm
end Go.Vm
namespace Go.Vm
open Go.RowKit
abbrev ptr (b : Nat) : Value := .pointer (some ⟨b, 0, none⟩)
def mE (n : Nat) (pre : List (List D)) (v : Value) (cells : List At) (obs : List Ob) (post : List (List D)) : St :=
 Mb pre ++ (.fix v (.one (.bptr pre.length 0)), .box cells :: obs) :: (Mb post ++ List.replicate (n - (pre.length + 1 + post.length)) (V.any, []))
section
variable {P : Program} {T0 : CS} {B : Nat -> Prop} {σ : St} {a : Act} {w w' : World} {X X' : Nat -> Prop} {h : Nat -> Nat -> Hd}
end
end Go.Vm
namespace Go.Vm
open Go.RowKit
section
variable {P : Program} {T0 : CS} {B : Nat -> Prop} {σ : St} {a : Act} {w w' : World} {X X' : Nat -> Prop} {h : Nat -> Nat -> Hd}
end
end Go.Vm
namespace Go.Vm
open Go.RowKit
section
variable {P : Program} {T0 : CS} {B : Nat -> Prop} {σ : St} {a : Act} {w w' : World} {X X' : Nat -> Prop} {h : Nat -> Nat -> Hd}
def lX (dp : Bool) (σ : St) (d : Nat) (res : List (List D)) (qs : List Bool) : St := match dp with | true => σ.new d (Vg d res) (YM qs res.flatten) | false => σ.put d (j4 res)
end
section
variable {P : Program} {σ : St} {k : Fr}
attribute [simp] lX
end
end Go.Vm
namespace Go.Vm
open Go.RowKit
def nv (n : Nat) (sz : Nat) (rows : List (List D)) (args : List (List D)) : St := (.one (.sref 0 0 0 rows.length), [.arr false sz rows]) :: (Mb args ++ List.replicate (n - (args.length + 1)) (V.any, []))
def At.isO (u : Nat) : At -> Bool
 | .sref t _ _ _ => t == u
 | .ptr t _ _ _ => t == u
 | .tref t _ _ _ _ => t == u
 | _ => false
section
variable {P : Program} {T0 : CS} {B : Nat -> Prop} {σ : St} {a : Act} {w w' : World} {X X' : Nat -> Prop} {h : Nat -> Nat -> Hd}
end
end Go.Vm
namespace Go.Vm
open Go.RowKit
section
variable {P : Program} {T0 : CS} {B : Nat -> Prop} {σ : St} {a : Act} {w w' : World} {X X' : Nat -> Prop} {h : Nat -> Nat -> Hd}
end
section
variable {P : Program} {σ : St} {k : Fr}
end
attribute [simp] mE nv At.isO
end Go.Vm
namespace Go.Vm
open Go.RowKit
section
variable {P : Program} {σ : St} {k : Fr}
end
end Go.Vm
namespace Go.Vm
open Go.RowKit
section
variable {P : Program} {σ : St} {k : Fr}
theorem cR {A : zK} {o : OpI} {l : yC} {c : Call} {f : FuncId} {d : Nat} {own : Bool} {rows res : List (List D)} (hs : JC P f own rows res) (h : @EI P (σ.put d (j4 res)) A l k) (iS : o.o.op = .call c := by exact rfl) (hc : c.callee = .value (.func f) := by exact rfl) (hg : o.o.guard = none := by exact rfl) (hd : o.o.dst = some d := by exact rfl)
  (iq : (Xp P σ c.args.toList c.argTypes.toList).2 = some rows := by simp) (iY : (Xp P σ c.args.toList c.argTypes.toList).1 := by simp) (hQ : Ym P σ c.args.toList c.argTypes.toList = true \/ Kh own res := by simp) : @SI P σ A o l k :=
 Hn iS hc hg hd hs iq iY hQ h
theorem cD {A : zK} {o : OpI} {l : yC} {c : Call} {f : FuncId} {d : Nat} {rows res : List (List D)} (qs : List Bool) (hs : Yv P f rows res) (h : @EI P (σ.new d (Vg d res) (YM qs res.flatten)) A l k) (iS : o.o.op = .call c := by exact rfl) (hc : c.callee = .value (.func f) := by exact rfl) (hg : o.o.guard = none := by exact rfl) (hd : o.o.dst = some d := by exact rfl)
  (iq : (Xp P σ c.args.toList c.argTypes.toList).2 = some rows := by simp) (iY : (Xp P σ c.args.toList c.argTypes.toList).1 := by simp) (hq : Tu qs res.flatten := by simp) (hf : σ.fresh d = true := by simp) : @SI P σ A o l k := B5 qs iS hc hg hd hs iq iY hq hf h
theorem cC {b : Bool} {x y : qU} (c : Bool) (ht : VH σ -> c = true -> @WI P σ x k) (hf : VH σ -> c = false -> @WI P σ y k) (hc : c = b := by simp) : @CI P b σ x y k := L7 hc ht hf
end
section
variable {P : Program} {σ : St} {k : Fr}
end
@[simp] abbrev eI (t : Nat) (n : Int) : Nat × V × List Ob := (t, .one (.d (.int .i64 n)), [])
@[simp] abbrev eB (t : Nat) (b : Bool) : Nat × V × List Ob := (t, .one (.d (.bool b)), [])
@[simp] abbrev eL {α : Type} (t s : Nat) (l : List α) (f : α -> List D) : Nat × V × List Ob := (t, .one (.d (.sl s (l.map f))), [])
@[simp] abbrev eP (t u c : Nat) : Nat × V × List Ob := (t, .one (.bptr u c), [])
@[simp] abbrev eG (t : Nat) (xs : List At) : Nat × V × List Ob := (t, .agg xs, [])
@[simp] abbrev eX (t : Nat) (xs : List At) : Nat × V × List Ob := (t, .one (.bptr t 0), [.box xs])
end Go.Vm
namespace Go.Vm
open Go.RowKit
structure Me {α : Type} (x y : α) : Prop where
 h : x = y
structure Bx (p : Prop) : Prop where
 h : p
theorem me {α : Type} {x y : α} (h : x = y) : Me x y := ⟨h⟩
theorem ms {α β : Type} {x y y' : α} {l r : β} (f : Me x y) (e : Me l r) (h : l = r -> y = y' := by intro e; simp only [e]; exact rfl) : Me x y' := ⟨f.h.trans (h e.h)⟩
theorem an {p q : Prop} (h : p) (k : q) : p /\ q := ⟨h, k⟩
theorem ix {α : Type} {v : Nat} {l : List α} (h : decide ((v : Int) < (l.length : Int)) = true) : v < l.length := by simpa using h
theorem ml {α : Type} {q : Prop} (l : List α) (m : q) (h : q -> l.length <= 9223372036854775807 := by intro m; simpa using m) : l.length <= 9223372036854775807 := h m
theorem wr (n : Nat) (h : (n : Int) + 1 <= 9223372036854775807 := by first | omega | (simp only [decide_eq_true_eq, decide_eq_false_iff_not, beq_iff_eq, beq_eq_false_iff_ne, bne_iff_ne, ne_eq, Bool.or_eq_false_iff, Bool.or_eq_true, Bool.and_eq_true, Bool.not_eq_true', Bool.not_eq_false'] at *; omega)) : IntKind.i64.wrap ((n : Int) + 1) = (n : Int) + 1 := YG (by omega) (by omega)
section
variable {P : Program} {σ : St} {k : Fr}
theorem so {f : FuncId} {fn : Func} {n : Nat} {own : Bool} {args res : List (List D)} {p : Prop} (hf : P.funcs[f]? = some fn) (hn : fn.ntmps = n) (h : p) {c : Code} (hb : fn.body = some c := by exact rfl) (hR : LQ P f = true := by kernel_rfl)
  (kk : Bx p -> @WI P (Wo n args) ⟨c⟩ (.fin (wu P fn own res)) := by (intro z; simp; (repeat (with_reducible refine Go.Mo.sd ?_)); exact z.h)) : JC P f own args res := sw hf hb hR (by rw [hn]; exact kk ⟨h⟩)
theorem soD {f : FuncId} {fn : Func} {n : Nat} {args res : List (List D)} {p : Prop} (hf : P.funcs[f]? = some fn) (hn : fn.ntmps = n) (h : p) {c : Code} (hb : fn.body = some c := by exact rfl) (hR : LQ P f = true := by kernel_rfl)
  (kk : Bx p -> @WI P (Wo n args) ⟨c⟩ (.fin (sF P fn res)) := by (intro z; simp; (repeat (with_reducible refine Go.Mo.sd ?_)); exact z.h)) : Yv P f args res := th hf hb hR (by rw [hn]; exact kk ⟨h⟩)
theorem cF {α : Type} {u y z : α} {b c : Bool} {xc yc : qU} {p q : Prop} (f : Me u (bif c then y else z)) (ht : VH σ -> c = true -> Me u y -> p) (hf : VH σ -> c = false -> Me u z -> q) (hc : c = b := by simp) (kt : Bx p -> @WI P σ xc k := by (intro z; simp; (repeat (with_reducible refine Go.Mo.sd ?_)); exact z.h)) (kf : Bx q -> @WI P σ yc k := by (intro z; simp; (repeat (with_reducible refine Go.Mo.sd ?_)); exact z.h)) : @CI P b σ xc yc k :=
 L7 hc (fun s h => kt ⟨(ht s h ⟨f.h.trans (by rw [h]; rfl)⟩)⟩) (fun s h => kf ⟨(hf s h ⟨f.h.trans (by rw [h]; rfl)⟩)⟩)
theorem cFt {α : Type} {u y z : α} {b c : Bool} {xc yc : qU} {p : Prop} (f : Me u (bif c then y else z)) (ht : VH σ -> c = true -> Me u y -> p) (hf : VH σ -> c = false -> Me u z -> @WI P σ yc k) (hc : c = b := by simp) (kt : Bx p -> @WI P σ xc k := by (intro z; simp; (repeat (with_reducible refine Go.Mo.sd ?_)); exact z.h)) : @CI P b σ xc yc k :=
 L7 hc (fun s h => kt ⟨(ht s h ⟨f.h.trans (by rw [h]; rfl)⟩)⟩) (fun s h => (hf s h ⟨f.h.trans (by rw [h]; rfl)⟩))
theorem cFf {α : Type} {u y z : α} {b c : Bool} {xc yc : qU} {q : Prop} (f : Me u (bif c then y else z)) (ht : VH σ -> c = true -> Me u y -> @WI P σ xc k) (hf : VH σ -> c = false -> Me u z -> q) (hc : c = b := by simp) (kf : Bx q -> @WI P σ yc k := by (intro z; simp; (repeat (with_reducible refine Go.Mo.sd ?_)); exact z.h)) : @CI P b σ xc yc k :=
 L7 hc (fun s h => (ht s h ⟨f.h.trans (by rw [h]; rfl)⟩)) (fun s h => kf ⟨(hf s h ⟨f.h.trans (by rw [h]; rfl)⟩)⟩)
theorem cFo {α : Type} {u y z : α} {b c : Bool} {xc yc : qU} (f : Me u (bif c then y else z)) (ht : VH σ -> c = true -> Me u y -> @WI P σ xc k) (hf : VH σ -> c = false -> Me u z -> @WI P σ yc k) (hc : c = b := by simp) : @CI P b σ xc yc k :=
 L7 hc (fun s h => (ht s h ⟨f.h.trans (by rw [h]; rfl)⟩)) (fun s h => (hf s h ⟨f.h.trans (by rw [h]; rfl)⟩))
theorem cK {α : Type} {u y z : α} {b c : Bool} {xc yc : qU} {p q : Prop} (f : Me u (bif c then y else z)) (ht : VH σ -> c = true -> Me u y -> p) (hf : VH σ -> c = false -> Me u z -> q) (hc : c = b := by first | (simp [G]; done) | grind) (kt : Bx p -> @WI P σ xc k := by (intro z; simp [G, Go.Vm.ZB]; (repeat (with_reducible refine Go.Mo.sdg ?_)); exact z.h)) (kf : Bx q -> @WI P σ yc k := by (intro z; simp [G, Go.Vm.ZB]; (repeat (with_reducible refine Go.Mo.sdg ?_)); exact z.h)) : @CI P b σ xc yc k :=
 L7 hc (fun s h => kt ⟨(ht s h ⟨f.h.trans (by rw [h]; rfl)⟩)⟩) (fun s h => kf ⟨(hf s h ⟨f.h.trans (by rw [h]; rfl)⟩)⟩)
theorem cKt {α : Type} {u y z : α} {b c : Bool} {xc yc : qU} {p : Prop} (f : Me u (bif c then y else z)) (ht : VH σ -> c = true -> Me u y -> p) (hf : VH σ -> c = false -> Me u z -> @WI P σ yc k) (hc : c = b := by first | (simp [G]; done) | grind) (kt : Bx p -> @WI P σ xc k := by (intro z; simp [G, Go.Vm.ZB]; (repeat (with_reducible refine Go.Mo.sdg ?_)); exact z.h)) : @CI P b σ xc yc k :=
 L7 hc (fun s h => kt ⟨(ht s h ⟨f.h.trans (by rw [h]; rfl)⟩)⟩) (fun s h => (hf s h ⟨f.h.trans (by rw [h]; rfl)⟩))
theorem cKo {α : Type} {u y z : α} {b c : Bool} {xc yc : qU} (f : Me u (bif c then y else z)) (ht : VH σ -> c = true -> Me u y -> @WI P σ xc k) (hf : VH σ -> c = false -> Me u z -> @WI P σ yc k) (hc : c = b := by first | (simp [G]; done) | grind) : @CI P b σ xc yc k :=
 L7 hc (fun s h => (ht s h ⟨f.h.trans (by rw [h]; rfl)⟩)) (fun s h => (hf s h ⟨f.h.trans (by rw [h]; rfl)⟩))
theorem cRg {A : zK} {o : OpI} {l : yC} {c : Call} {f : FuncId} {d : Nat} {own : Bool} {rows res : List (List D)} {p : Prop} (hs : JC P f own rows res) (h : p) (iS : o.o.op = .call c := by exact rfl) (hc : c.callee = .value (.func f) := by exact rfl) (hg : o.o.guard = none := by exact rfl) (hd : o.o.dst = some d := by exact rfl) (iq : (Xp P σ c.args.toList c.argTypes.toList).2 = some rows := by simp) (iY : (Xp P σ c.args.toList c.argTypes.toList).1 := by simp) (hQ : Ym P σ c.args.toList c.argTypes.toList = true \/ Kh own res := by simp) (kk : Bx p -> @EI P (σ.put d (j4 res)) A l k := by (intro z; simp [G, Go.Vm.ZB]; (repeat (with_reducible refine Go.Mo.sdg ?_)); exact z.h)) : @SI P σ A o l k := Hn iS hc hg hd hs iq iY hQ (kk ⟨h⟩)
theorem cRs {A : zK} {o : OpI} {l : yC} {c : Call} {f : FuncId} {d : Nat} {own : Bool} {rows res : List (List D)} {p : Prop} (hs : JC P f own rows res) (h : p) (iS : o.o.op = .call c := by exact rfl) (hc : c.callee = .value (.func f) := by exact rfl) (hg : o.o.guard = none := by exact rfl) (hd : o.o.dst = some d := by exact rfl) (iq : (Xp P σ c.args.toList c.argTypes.toList).2 = some rows := by simp) (iY : (Xp P σ c.args.toList c.argTypes.toList).1 := by simp) (hQ : Ym P σ c.args.toList c.argTypes.toList = true \/ Kh own res := by simp) (kk : Bx p -> @EI P (σ.put d (j4 res)) A l k := by (intro z; simp; (repeat (with_reducible refine Go.Mo.sd ?_)); exact z.h)) : @SI P σ A o l k := Hn iS hc hg hd hs iq iY hQ (kk ⟨h⟩)
theorem cRf {A : zK} {o : OpI} {l : yC} {c : Call} {f : FuncId} {d : Nat} {own : Bool} {rows res : List (List D)} {p q : Prop} (F : q) (hs : JC P f own rows res) (h : p) (iS : o.o.op = .call c := by exact rfl) (hc : c.callee = .value (.func f) := by exact rfl) (hg : o.o.guard = none := by exact rfl) (hd : o.o.dst = some d := by exact rfl) (iq : (Xp P σ c.args.toList c.argTypes.toList).2 = some rows := by simp) (iY : (Xp P σ c.args.toList c.argTypes.toList).1 := by simp) (hQ : Ym P σ c.args.toList c.argTypes.toList = true \/ Kh own res := by simp) (kk : q -> Bx p -> @EI P (σ.put d (j4 res)) A l k := by (intro F z; simp [F, Go.Vm.ZB]; (repeat (with_reducible refine Go.Mo.sd ?_)); exact z.h)) : @SI P σ A o l k := Hn iS hc hg hd hs iq iY hQ (kk F ⟨h⟩)
theorem cOs {A : zK} {o : OpI} {l : yC} {c : Call} {f : FuncId} {d : Nat} {rows res : List (List D)} {p : Prop} (hs : JC P f true rows res) (h : p) (iS : o.o.op = .call c := by exact rfl) (hc : c.callee = .value (.func f) := by exact rfl) (hg : o.o.guard = none := by exact rfl) (hd : o.o.dst = some d := by exact rfl) (iq : (Xp P σ c.args.toList c.argTypes.toList).2 = some rows := by simp) (iY : (Xp P σ c.args.toList c.argTypes.toList).1 := by simp) (hQ : Ym P σ c.args.toList c.argTypes.toList = true \/ Kh true res := by simp) (hf : σ.fresh d = true := by simp) (kk : Bx p -> @EI P (σ.new d (Vg d res) (xE res.flatten)) A l k := by (intro z; simp; (repeat (with_reducible refine Go.Mo.sd ?_)); exact z.h)) : @SI P σ A o l k := rm iS hc hg hd hs iq iY hQ hf (kk ⟨h⟩)
theorem cDg {A : zK} {o : OpI} {l : yC} {c : Call} {f : FuncId} {d : Nat} {rows res : List (List D)} {p : Prop} (qs : List Bool) (hs : Yv P f rows res) (h : p) (iS : o.o.op = .call c := by exact rfl) (hc : c.callee = .value (.func f) := by exact rfl) (hg : o.o.guard = none := by exact rfl) (hd : o.o.dst = some d := by exact rfl) (iq : (Xp P σ c.args.toList c.argTypes.toList).2 = some rows := by simp) (iY : (Xp P σ c.args.toList c.argTypes.toList).1 := by simp) (hq : Tu qs res.flatten := by simp) (hf : σ.fresh d = true := by simp) (kk : Bx p -> @EI P (σ.new d (Vg d res) (YM qs res.flatten)) A l k := by (intro z; simp [G, Go.Vm.ZB]; (repeat (with_reducible refine Go.Mo.sdg ?_)); exact z.h)) : @SI P σ A o l k := B5 qs iS hc hg hd hs iq iY hq hf (kk ⟨h⟩)
theorem cDs {A : zK} {o : OpI} {l : yC} {c : Call} {f : FuncId} {d : Nat} {rows res : List (List D)} {p : Prop} (qs : List Bool) (hs : Yv P f rows res) (h : p) (iS : o.o.op = .call c := by exact rfl) (hc : c.callee = .value (.func f) := by exact rfl) (hg : o.o.guard = none := by exact rfl) (hd : o.o.dst = some d := by exact rfl) (iq : (Xp P σ c.args.toList c.argTypes.toList).2 = some rows := by simp) (iY : (Xp P σ c.args.toList c.argTypes.toList).1 := by simp) (hq : Tu qs res.flatten := by simp) (hf : σ.fresh d = true := by simp) (kk : Bx p -> @EI P (σ.new d (Vg d res) (YM qs res.flatten)) A l k := by (intro z; simp; (repeat (with_reducible refine Go.Mo.sd ?_)); exact z.h)) : @SI P σ A o l k := B5 qs iS hc hg hd hs iq iY hq hf (kk ⟨h⟩)
theorem cDf {A : zK} {o : OpI} {l : yC} {c : Call} {f : FuncId} {d : Nat} {rows res : List (List D)} {p q : Prop} (F : q) (qs : List Bool) (hs : Yv P f rows res) (h : p) (iS : o.o.op = .call c := by exact rfl) (hc : c.callee = .value (.func f) := by exact rfl) (hg : o.o.guard = none := by exact rfl) (hd : o.o.dst = some d := by exact rfl) (iq : (Xp P σ c.args.toList c.argTypes.toList).2 = some rows := by simp) (iY : (Xp P σ c.args.toList c.argTypes.toList).1 := by simp) (hq : Tu qs res.flatten := by simp) (hf : σ.fresh d = true := by simp) (kk : q -> Bx p -> @EI P (σ.new d (Vg d res) (YM qs res.flatten)) A l k := by (intro F z; simp [F, Go.Vm.ZB]; (repeat (with_reducible refine Go.Mo.sd ?_)); exact z.h)) : @SI P σ A o l k := B5 qs iS hc hg hd hs iq iY hq hf (kk F ⟨h⟩)
theorem cGo {A : zK} {o : OpI} {l : yC} {c : Call} {f : FuncId} {d : Nat} {j dj : Nat} {want g own : Bool} {rows : List (List D)} {res : List D} (hs : g = true -> JC P f own rows [res]) (h : @EI P (σ.put d (.cnd g (j4 [res]))) A l k) (iS : o.o.op = .call c := by exact rfl) (hc : c.callee = .value (.func f) := by exact rfl) (hg : o.o.guard = some (j, want) := by exact rfl) (hd : o.o.dst = some d := by exact rfl) (fD : (A.ops[j]?).bind (·.dst) = some dj := by exact rfl) (fI : jU want (σ.get dj) = some g := by exact rfl) (iq : (Xp P σ c.args.toList c.argTypes.toList).2 = some rows := by first | (simp; done) | (simp [G]; done) | (simp [G]; omega) | (simp_all; done)) (ij : dj < σ.length := by first | (simp; done) | (simp [G]; done) | (simp [G]; omega) | (simp_all; done)) (iY : g = true -> (Xp P σ c.args.toList c.argTypes.toList).1 := by first | (simp; done) | (simp [G]; done) | (simp [G]; omega) | (simp_all; done)) (hQ : Ym P σ c.args.toList c.argTypes.toList = true \/ Kh own [res] := by first | (simp; done) | (simp [G]; done) | (simp [G]; omega) | (simp_all; done)) : @SI P σ A o l k := uO iS hc hg hd fD fI hs iq ij iY hQ h
theorem cGg {A : zK} {o : OpI} {l : yC} {c : Call} {f : FuncId} {d : Nat} {j dj : Nat} {want g own : Bool} {rows : List (List D)} {res : List D} {p : Prop} (hs : g = true -> JC P f own rows [res]) (h : p) (iS : o.o.op = .call c := by exact rfl) (hc : c.callee = .value (.func f) := by exact rfl) (hg : o.o.guard = some (j, want) := by exact rfl) (hd : o.o.dst = some d := by exact rfl) (fD : (A.ops[j]?).bind (·.dst) = some dj := by exact rfl) (fI : jU want (σ.get dj) = some g := by exact rfl) (iq : (Xp P σ c.args.toList c.argTypes.toList).2 = some rows := by first | (simp; done) | (simp [G]; done) | (simp [G]; omega) | (simp_all; done)) (ij : dj < σ.length := by first | (simp; done) | (simp [G]; done) | (simp [G]; omega) | (simp_all; done)) (iY : g = true -> (Xp P σ c.args.toList c.argTypes.toList).1 := by first | (simp; done) | (simp [G]; done) | (simp [G]; omega) | (simp_all; done)) (hQ : Ym P σ c.args.toList c.argTypes.toList = true \/ Kh own [res] := by first | (simp; done) | (simp [G]; done) | (simp [G]; omega) | (simp_all; done)) (kk : Bx p -> @EI P (σ.put d (.cnd g (j4 [res]))) A l k := by (intro z; simp [G, Go.Vm.ZB]; (repeat (with_reducible refine Go.Mo.sdg ?_)); exact z.h)) : @SI P σ A o l k := uO iS hc hg hd fD fI hs iq ij iY hQ (kk ⟨h⟩)
theorem cGs {A : zK} {o : OpI} {l : yC} {c : Call} {f : FuncId} {d : Nat} {j dj : Nat} {want g own : Bool} {rows : List (List D)} {res : List D} {p : Prop} (hs : g = true -> JC P f own rows [res]) (h : p) (iS : o.o.op = .call c := by exact rfl) (hc : c.callee = .value (.func f) := by exact rfl) (hg : o.o.guard = some (j, want) := by exact rfl) (hd : o.o.dst = some d := by exact rfl) (fD : (A.ops[j]?).bind (·.dst) = some dj := by exact rfl) (fI : jU want (σ.get dj) = some g := by exact rfl) (iq : (Xp P σ c.args.toList c.argTypes.toList).2 = some rows := by simp) (ij : dj < σ.length := by simp) (iY : g = true -> (Xp P σ c.args.toList c.argTypes.toList).1 := by simp) (hQ : Ym P σ c.args.toList c.argTypes.toList = true \/ Kh own [res] := by simp) (kk : Bx p -> @EI P (σ.put d (.cnd g (j4 [res]))) A l k := by (intro z; simp; (repeat (with_reducible refine Go.Mo.sd ?_)); exact z.h)) : @SI P σ A o l k := uO iS hc hg hd fD fI hs iq ij iY hQ (kk ⟨h⟩)
theorem dIo {id : Nat} {l : List Oper} {br : Oper -> Bool} (hm : P.follows .mixedOrders = true) (h : @EI P σ ⟨⟨l⟩, fun _ => false⟩ ⟨l⟩ k) (hdr : Nj ⟨l⟩ (fun i => i) (fun _ => false) = true := by kernel_rfl) (gP : yv ⟨l⟩ (fun i => i) σ = true := by kernel_rfl) : @DI P id σ ⟨⟨l⟩, br⟩ k := rY hm hdr gP h
theorem dIg {id : Nat} {l : List Oper} {br : Oper -> Bool} {p : Prop} (hm : P.follows .mixedOrders = true) (h : p) (hdr : Nj ⟨l⟩ (fun i => i) (fun _ => false) = true := by kernel_rfl) (gP : yv ⟨l⟩ (fun i => i) σ = true := by kernel_rfl) (kk : Bx p -> @EI P σ ⟨⟨l⟩, fun _ => false⟩ ⟨l⟩ k := by (intro z; simp [G, Go.Vm.ZB]; (repeat (with_reducible refine Go.Mo.sdg ?_)); exact z.h)) : @DI P id σ ⟨⟨l⟩, br⟩ k := rY hm hdr gP (kk ⟨h⟩)
theorem dIs {id : Nat} {l : List Oper} {br : Oper -> Bool} {p : Prop} (hm : P.follows .mixedOrders = true) (h : p) (hdr : Nj ⟨l⟩ (fun i => i) (fun _ => false) = true := by kernel_rfl) (gP : yv ⟨l⟩ (fun i => i) σ = true := by kernel_rfl) (kk : Bx p -> @EI P σ ⟨⟨l⟩, fun _ => false⟩ ⟨l⟩ k := by (intro z; simp; (repeat (with_reducible refine Go.Mo.sd ?_)); exact z.h)) : @DI P id σ ⟨⟨l⟩, br⟩ k := rY hm hdr gP (kk ⟨h⟩)
theorem eIs {A : zK} {o : OpI} {l : yC} {d : Nat} {p : Prop}  (h : p) (hp : B8 o.o = true := by exact rfl) (hg : o.o.guard = none := by exact rfl) (hd : o.o.dst = some d := by exact rfl) (kk : Bx p -> (evS P σ o.o d).1 /\ @EI P (evS P σ o.o d).2 A l k := by (intro z; simp; (repeat (with_reducible refine Go.Mo.sd ?_)); exact z.h)) : @SI P σ A o l k := evI hp hg hd (kk ⟨h⟩)
theorem sGo {A : zK} {o : OpI} {l : yC} {j dj d : Nat} {want g : Bool}  (h : @EI P (σ.put d (.cnd false .any)) A l k) (hg : o.o.guard = some (j, want) := by exact rfl) (hd : o.o.dst = some d := by exact rfl) (fD : (A.ops[j]?).bind (·.dst) = some dj := by exact rfl) (fI : jU want (σ.get dj) = some g := by exact rfl) (ij : dj < σ.length := by simp) (hgf : g = false := by simp [G]) : @SI P σ A o l k := oa hg hd fD fI ij hgf h
theorem sGg {A : zK} {o : OpI} {l : yC} {j dj d : Nat} {want g : Bool} {p : Prop}  (h : p) (hg : o.o.guard = some (j, want) := by exact rfl) (hd : o.o.dst = some d := by exact rfl) (fD : (A.ops[j]?).bind (·.dst) = some dj := by exact rfl) (fI : jU want (σ.get dj) = some g := by exact rfl) (ij : dj < σ.length := by simp) (hgf : g = false := by simp [G]) (kk : Bx p -> @EI P (σ.put d (.cnd false .any)) A l k := by (intro z; simp [G, Go.Vm.ZB]; (repeat (with_reducible refine Go.Mo.sdg ?_)); exact z.h)) : @SI P σ A o l k := oa hg hd fD fI ij hgf (kk ⟨h⟩)
theorem gIf {A : zK} {o : OpI} {l : yC} {j dj d : Nat} {want g : Bool} {r1 r2 : Prop} {q : Prop} (ht : r1 -> ((evV P σ o.o.op o.o.type).1 /\ gOf (evV P σ o.o.op o.o.type).2 = true /\ (unc (evV P σ o.o.op o.o.type).2).flat = true) /\ @EI P (σ.put d (.cnd true (unc (evV P σ o.o.op o.o.type).2))) A l k) (hf : r2 -> q) (iS : Mz o.o.op = false := by exact rfl) (hg : o.o.guard = some (j, want) := by exact rfl) (hd : o.o.dst = some d := by exact rfl) (fD : (A.ops[j]?).bind (·.dst) = some dj := by exact rfl) (fI : jU want (σ.get dj) = some g := by exact rfl) (ij : dj < σ.length := by simp) (k1 : g = true -> r1 := by (intro h; (try simp only [beq_true, beq_false, Bool.not_eq_true', Bool.not_eq_false', Bool.true_and, Bool.and_true] at h); exact h)) (k2 : g = false -> r2 := by (intro h; (try simp only [beq_true, beq_false, Bool.not_eq_true', Bool.not_eq_false', Bool.true_and, Bool.and_true] at h); exact h)) (kf : r2 -> Bx q -> @EI P (σ.put d (.cnd false .any)) A l k := by (intro G z; simp [G, Go.Vm.ZB]; (repeat (with_reducible refine Go.Mo.sdg ?_)); exact z.h)) : @SI P σ A o l k := GC iS hg hd fD fI ij (fun h => ht (k1 h)) (fun h => (fun G => kf G ⟨hf G⟩) (k2 h))
theorem gIo {A : zK} {o : OpI} {l : yC} {j dj d : Nat} {want g : Bool} {r1 r2 : Prop} (ht : r1 -> ((evV P σ o.o.op o.o.type).1 /\ gOf (evV P σ o.o.op o.o.type).2 = true /\ (unc (evV P σ o.o.op o.o.type).2).flat = true) /\ @EI P (σ.put d (.cnd true (unc (evV P σ o.o.op o.o.type).2))) A l k) (hf : r2 -> @EI P (σ.put d (.cnd false .any)) A l k) (iS : Mz o.o.op = false := by exact rfl) (hg : o.o.guard = some (j, want) := by exact rfl) (hd : o.o.dst = some d := by exact rfl) (fD : (A.ops[j]?).bind (·.dst) = some dj := by exact rfl) (fI : jU want (σ.get dj) = some g := by exact rfl) (ij : dj < σ.length := by simp) (k1 : g = true -> r1 := by (intro h; (try simp only [beq_true, beq_false, Bool.not_eq_true', Bool.not_eq_false', Bool.true_and, Bool.and_true] at h); exact h)) (k2 : g = false -> r2 := by (intro h; (try simp only [beq_true, beq_false, Bool.not_eq_true', Bool.not_eq_false', Bool.true_and, Bool.and_true] at h); exact h)) : @SI P σ A o l k := GC iS hg hd fD fI ij (fun h => ht (k1 h)) (fun h => hf (k2 h))
theorem gJf {A : zK} {o : OpI} {l : yC} {j dj d : Nat} {want g : Bool} {r1 r2 s : Prop} {q : Prop} (G : s) (ht : s /\ r1 -> ((evV P σ o.o.op o.o.type).1 /\ gOf (evV P σ o.o.op o.o.type).2 = true /\ (unc (evV P σ o.o.op o.o.type).2).flat = true) /\ @EI P (σ.put d (.cnd true (unc (evV P σ o.o.op o.o.type).2))) A l k) (hf : s /\ r2 -> q) (iS : Mz o.o.op = false := by exact rfl) (hg : o.o.guard = some (j, want) := by exact rfl) (hd : o.o.dst = some d := by exact rfl) (fD : (A.ops[j]?).bind (·.dst) = some dj := by exact rfl) (fI : jU want (σ.get dj) = some g := by exact rfl) (ij : dj < σ.length := by simp) (k1 : g = true -> r1 := by (intro h; (try simp only [beq_true, beq_false, Bool.not_eq_true', Bool.not_eq_false', Bool.true_and, Bool.and_true] at h); exact h)) (k2 : g = false -> r2 := by (intro h; (try simp only [beq_true, beq_false, Bool.not_eq_true', Bool.not_eq_false', Bool.true_and, Bool.and_true] at h); exact h)) (kf : s /\ r2 -> Bx q -> @EI P (σ.put d (.cnd false .any)) A l k := by (intro G z; simp [G, Go.Vm.ZB]; (repeat (with_reducible refine Go.Mo.sdg ?_)); exact z.h)) : @SI P σ A o l k := GC iS hg hd fD fI ij (fun h => ht ⟨G, k1 h⟩) (fun h => (fun G => kf G ⟨hf G⟩) ⟨G, k2 h⟩)
theorem gJo {A : zK} {o : OpI} {l : yC} {j dj d : Nat} {want g : Bool} {r1 r2 s : Prop} (G : s) (ht : s /\ r1 -> ((evV P σ o.o.op o.o.type).1 /\ gOf (evV P σ o.o.op o.o.type).2 = true /\ (unc (evV P σ o.o.op o.o.type).2).flat = true) /\ @EI P (σ.put d (.cnd true (unc (evV P σ o.o.op o.o.type).2))) A l k) (hf : s /\ r2 -> @EI P (σ.put d (.cnd false .any)) A l k) (iS : Mz o.o.op = false := by exact rfl) (hg : o.o.guard = some (j, want) := by exact rfl) (hd : o.o.dst = some d := by exact rfl) (fD : (A.ops[j]?).bind (·.dst) = some dj := by exact rfl) (fI : jU want (σ.get dj) = some g := by exact rfl) (ij : dj < σ.length := by simp) (k1 : g = true -> r1 := by (intro h; (try simp only [beq_true, beq_false, Bool.not_eq_true', Bool.not_eq_false', Bool.true_and, Bool.and_true] at h); exact h)) (k2 : g = false -> r2 := by (intro h; (try simp only [beq_true, beq_false, Bool.not_eq_true', Bool.not_eq_false', Bool.true_and, Bool.and_true] at h); exact h)) : @SI P σ A o l k := GC iS hg hd fD fI ij (fun h => ht ⟨G, k1 h⟩) (fun h => hf ⟨G, k2 h⟩)
theorem gK {A : zK} {o : OpI} {l : yC} {j dj d : Nat} {want g : Bool} {r1 : Prop} (ht : r1 -> ((evV P σ o.o.op o.o.type).1 /\ gOf (evV P σ o.o.op o.o.type).2 = true /\ (unc (evV P σ o.o.op o.o.type).2).flat = true) /\ @EI P (σ.put d (.cnd true (unc (evV P σ o.o.op o.o.type).2))) A l k) (iS : Mz o.o.op = false := by exact rfl) (hg : o.o.guard = some (j, want) := by exact rfl) (hd : o.o.dst = some d := by exact rfl) (fD : (A.ops[j]?).bind (·.dst) = some dj := by exact rfl) (fI : jU want (σ.get dj) = some g := by exact rfl) (ij : dj < σ.length := by simp) (k1 : g = true -> r1 := by (intro h; (try simp only [beq_true, beq_false, Bool.not_eq_true', Bool.not_eq_false', Bool.true_and, Bool.and_true] at h); exact h)) (k2 : g = false -> False := by first | (intro g0; simp at g0; done) | (intro g0; simp [G] at g0; done)) : @SI P σ A o l k := GC iS hg hd fD fI ij (fun h => ht (k1 h)) (fun h => (k2 h).elim)
theorem rt {α : Type} {x y : α} {fn : Func} {res : List (List D)} (rv : List ResultVar) (f : Me x y) (hf : fn.results = rv.toArray := by exact rfl) (h : x = y -> (zB P σ rv).1 /\ Sx σ (zB P σ rv).2 = some res := by (intro f; simp [f])) : wu P fn false res .ret σ := oU hf (h f.h)
theorem rtg {α : Type} {x y : α} {fn : Func} {res : List (List D)} (rv : List ResultVar) (f : Me x y) (hf : fn.results = rv.toArray := by exact rfl) (h : x = y -> (zB P σ rv).1 /\ Sx σ (zB P σ rv).2 = some res := by (intro f; simp [f, G])) : wu P fn false res .ret σ := oU hf (h f.h)
theorem rtO {α : Type} {x y : α} {fn : Func} {res : List (List D)} (rv : List ResultVar) (f : Me x y) (hf : fn.results = rv.toArray := by exact rfl) (h : x = y -> (zB P σ rv).1 /\ Ut σ (zB P σ rv).2 = some res /\ (Yh (zB P σ rv).2.flatten).Nodup := by (intro f; simp [f])) : wu P fn true res .ret σ := ow hf (h f.h)
theorem rtD {α : Type} {x y : α} {fn : Func} {res : List (List D)} (rv : List ResultVar) (f : Me x y) (hf : fn.results = rv.toArray := by exact rfl) (h : x = y -> (zB P σ rv).1 /\ zz σ (zB P σ rv).2 = some res /\ K8 σ (zB P σ rv).2 /\ (Yh (zB P σ rv).2.flatten).Nodup := by (intro f; simp [f])) : sF P fn res .ret σ := H5 hf (h f.h)
theorem zx {α : Type} {x y : α} {fn : Func} {res : List (List D)} (rv : List ResultVar) (f : Me x y) (hf : fn.results = rv.toArray := by exact rfl) (h : x = y -> (zB P σ rv).1 /\ zz σ (zB P σ rv).2 = some res /\ K8 σ (zB P σ rv).2 /\ (Yh (zB P σ rv).2.flatten).Nodup := by (intro f; simp [f, G])) : sF P fn res .ret σ := H5 hf (h f.h)
end
class NxI where
 p : St -> Prop
def Nx (σ : St) [n : NxI] : Prop := n.p σ
section
variable {P : Program} {σ : St} {k : Fr}
theorem Gc {c : qU} {n n' : St -> Prop} (hn : ∀ σ', n σ' -> n' σ') (h : @WI P σ c (.nxt n k)) : AWP P c.c (Fr.run P (.nxt n' k)) σ :=
 w9 (fun e σ' hq => by cases e <;> first | exact hn _ hq | exact hq) (TP h)
abbrev Q1 {R : Type} {A0 : Type} (L : Nat -> A0 -> R) (S : A0 -> St) (I : Nat -> A0 -> Prop) (t : R) (b : Nat) : NxI := ⟨fun τ => ∃ a0, Me t (L b a0) /\ (1 <= b /\ I b a0) /\ Wk τ (S a0)⟩
theorem nx1 {R : Type} {A0 : Type} {L : Nat -> A0 -> R} {S : A0 -> St} {I : Nat -> A0 -> Prop} {t : R} {b : Nat} {a0 : A0} (e : Me t (L b a0)) (hI : 1 <= b /\ I b a0 := by ((try dsimp only); first | omega | (simp at *; omega))) (hw : Wk σ (S a0) := by exact XI (by simp)) : @Nx σ (Q1 L S I t b) := ⟨a0, e, hI, hw⟩
theorem ny1 {R : Type} {A0 : Type} {L : Nat -> A0 -> R} {S : A0 -> St} {I : Nat -> A0 -> Prop} {t : R} {b : Nat} {a0 : A0} {q : Prop} (F : q) (e : Me t (L b a0)) (hI : 1 <= b /\ I b a0 := by ((try dsimp only); first | omega | (simp at *; omega))) (kw : q -> Wk σ (S a0) := by (intro F; exact XI (by simp [F]))) : @Nx σ (Q1 L S I t b) := ⟨a0, e, hI, kw F⟩
theorem lp1 {c : qU} {R : Type} {A0 : Type} {L B : Nat -> A0 -> R} (hL : ∀ (a0 : A0) (n : Nat), L (Nat.succ n) a0 = B n a0) (S : A0 -> St) (I : Nat -> A0 -> Prop) (n0 : Nat) (b0 : A0) {p : Nat -> A0 -> Prop}
  (round : ∀ n (a0 : A0), Me (L n0 b0) (B n a0) -> 1 <= n + 1 /\ I (n + 1) a0 -> p n a0) (hI : 1 <= n0 /\ I n0 b0 := by first | omega | (dsimp only; omega) | simp) (h0 : Wk σ (S b0) := by exact XI (by simp)) (kk : ∀ n (a0 : A0), Bx (p n a0) -> @WI P (S a0) c (.nxt (fun σ' => @Nx σ' (Q1 L S I (L n0 b0) n)) k) := by (intro n_ a0_ z; simp; (repeat (with_reducible refine Go.Mo.sd ?_)); exact z.h)) : @OU P σ c k := by
 refine Ts (ι := { s : Nat × A0 // Me (L n0 b0) (L s.1 s.2) /\ (1 <= s.1 /\ I s.1 s.2) }) (fun s => S s.1.2) (fun s => s.1.1) ⟨(n0, b0), ⟨rfl⟩, hI⟩ h0 ?_
 rintro ⟨⟨n1, a0⟩, e, j⟩
 obtain ⟨n, rfl⟩ : ∃ q, n1 = q + 1 := ⟨n1 - 1, by have := j.1; (try dsimp only at this); omega⟩
 refine Gc (fun σ' hn => ?_) (kk n a0 ⟨round n a0 ⟨by have := e.h; (try dsimp only at this); rw [this, hL]⟩ j⟩)
 obtain ⟨c0, e2, j2, w2⟩ := hn
 exact ⟨⟨(n, c0), e2, j2⟩, Nat.lt_succ_self n, w2⟩
abbrev Q2 {R : Type} {A0 A1 : Type} (L : Nat -> A0 -> A1 -> R) (S : A0 -> A1 -> St) (I : Nat -> A0 -> A1 -> Prop) (t : R) (b : Nat) : NxI := ⟨fun τ => ∃ a0 a1, Me t (L b a0 a1) /\ (1 <= b /\ I b a0 a1) /\ Wk τ (S a0 a1)⟩
theorem nx2 {R : Type} {A0 A1 : Type} {L : Nat -> A0 -> A1 -> R} {S : A0 -> A1 -> St} {I : Nat -> A0 -> A1 -> Prop} {t : R} {b : Nat} {a0 : A0} {a1 : A1} (e : Me t (L b a0 a1)) (hI : 1 <= b /\ I b a0 a1 := by ((try dsimp only); first | omega | (simp at *; omega))) (hw : Wk σ (S a0 a1) := by exact XI (by simp)) : @Nx σ (Q2 L S I t b) := ⟨a0, a1, e, hI, hw⟩
theorem ny2 {R : Type} {A0 A1 : Type} {L : Nat -> A0 -> A1 -> R} {S : A0 -> A1 -> St} {I : Nat -> A0 -> A1 -> Prop} {t : R} {b : Nat} {a0 : A0} {a1 : A1} {q : Prop} (F : q) (e : Me t (L b a0 a1)) (hI : 1 <= b /\ I b a0 a1 := by ((try dsimp only); first | omega | (simp at *; omega))) (kw : q -> Wk σ (S a0 a1) := by (intro F; exact XI (by simp [F]))) : @Nx σ (Q2 L S I t b) := ⟨a0, a1, e, hI, kw F⟩
theorem lp2 {c : qU} {R : Type} {A0 A1 : Type} {L B : Nat -> A0 -> A1 -> R} (hL : ∀ (a0 : A0) (a1 : A1) (n : Nat), L (Nat.succ n) a0 a1 = B n a0 a1) (S : A0 -> A1 -> St) (I : Nat -> A0 -> A1 -> Prop) (n0 : Nat) (b0 : A0) (b1 : A1) {p : Nat -> A0 -> A1 -> Prop}
  (round : ∀ n (a0 : A0) (a1 : A1), Me (L n0 b0 b1) (B n a0 a1) -> 1 <= n + 1 /\ I (n + 1) a0 a1 -> p n a0 a1) (hI : 1 <= n0 /\ I n0 b0 b1 := by first | omega | (dsimp only; omega) | simp) (h0 : Wk σ (S b0 b1) := by exact XI (by simp)) (kk : ∀ n (a0 : A0) (a1 : A1), Bx (p n a0 a1) -> @WI P (S a0 a1) c (.nxt (fun σ' => @Nx σ' (Q2 L S I (L n0 b0 b1) n)) k) := by (intro n_ a0_ a1_ z; simp; (repeat (with_reducible refine Go.Mo.sd ?_)); exact z.h)) : @OU P σ c k := by
 refine Ts (ι := { s : Nat × A0 × A1 // Me (L n0 b0 b1) (L s.1 s.2.1 s.2.2) /\ (1 <= s.1 /\ I s.1 s.2.1 s.2.2) }) (fun s => S s.1.2.1 s.1.2.2) (fun s => s.1.1) ⟨(n0, b0, b1), ⟨rfl⟩, hI⟩ h0 ?_
 rintro ⟨⟨n1, a0, a1⟩, e, j⟩
 obtain ⟨n, rfl⟩ : ∃ q, n1 = q + 1 := ⟨n1 - 1, by have := j.1; (try dsimp only at this); omega⟩
 refine Gc (fun σ' hn => ?_) (kk n a0 a1 ⟨round n a0 a1 ⟨by have := e.h; (try dsimp only at this); rw [this, hL]⟩ j⟩)
 obtain ⟨c0, c1, e2, j2, w2⟩ := hn
 exact ⟨⟨(n, c0, c1), e2, j2⟩, Nat.lt_succ_self n, w2⟩
abbrev Q3 {R : Type} {A0 A1 A2 : Type} (L : Nat -> A0 -> A1 -> A2 -> R) (S : A0 -> A1 -> A2 -> St) (I : Nat -> A0 -> A1 -> A2 -> Prop) (t : R) (b : Nat) : NxI := ⟨fun τ => ∃ a0 a1 a2, Me t (L b a0 a1 a2) /\ (1 <= b /\ I b a0 a1 a2) /\ Wk τ (S a0 a1 a2)⟩
theorem nx3 {R : Type} {A0 A1 A2 : Type} {L : Nat -> A0 -> A1 -> A2 -> R} {S : A0 -> A1 -> A2 -> St} {I : Nat -> A0 -> A1 -> A2 -> Prop} {t : R} {b : Nat} {a0 : A0} {a1 : A1} {a2 : A2} (e : Me t (L b a0 a1 a2)) (hI : 1 <= b /\ I b a0 a1 a2 := by ((try dsimp only); first | omega | (simp at *; omega))) (hw : Wk σ (S a0 a1 a2) := by exact XI (by simp)) : @Nx σ (Q3 L S I t b) := ⟨a0, a1, a2, e, hI, hw⟩
theorem ny3 {R : Type} {A0 A1 A2 : Type} {L : Nat -> A0 -> A1 -> A2 -> R} {S : A0 -> A1 -> A2 -> St} {I : Nat -> A0 -> A1 -> A2 -> Prop} {t : R} {b : Nat} {a0 : A0} {a1 : A1} {a2 : A2} {q : Prop} (F : q) (e : Me t (L b a0 a1 a2)) (hI : 1 <= b /\ I b a0 a1 a2 := by ((try dsimp only); first | omega | (simp at *; omega))) (kw : q -> Wk σ (S a0 a1 a2) := by (intro F; exact XI (by simp [F]))) : @Nx σ (Q3 L S I t b) := ⟨a0, a1, a2, e, hI, kw F⟩
theorem lp3 {c : qU} {R : Type} {A0 A1 A2 : Type} {L B : Nat -> A0 -> A1 -> A2 -> R} (hL : ∀ (a0 : A0) (a1 : A1) (a2 : A2) (n : Nat), L (Nat.succ n) a0 a1 a2 = B n a0 a1 a2) (S : A0 -> A1 -> A2 -> St) (I : Nat -> A0 -> A1 -> A2 -> Prop) (n0 : Nat) (b0 : A0) (b1 : A1) (b2 : A2) {p : Nat -> A0 -> A1 -> A2 -> Prop}
  (round : ∀ n (a0 : A0) (a1 : A1) (a2 : A2), Me (L n0 b0 b1 b2) (B n a0 a1 a2) -> 1 <= n + 1 /\ I (n + 1) a0 a1 a2 -> p n a0 a1 a2) (hI : 1 <= n0 /\ I n0 b0 b1 b2 := by first | omega | (dsimp only; omega) | simp) (h0 : Wk σ (S b0 b1 b2) := by exact XI (by simp)) (kk : ∀ n (a0 : A0) (a1 : A1) (a2 : A2), Bx (p n a0 a1 a2) -> @WI P (S a0 a1 a2) c (.nxt (fun σ' => @Nx σ' (Q3 L S I (L n0 b0 b1 b2) n)) k) := by (intro n_ a0_ a1_ a2_ z; simp; (repeat (with_reducible refine Go.Mo.sd ?_)); exact z.h)) : @OU P σ c k := by
 refine Ts (ι := { s : Nat × A0 × A1 × A2 // Me (L n0 b0 b1 b2) (L s.1 s.2.1 s.2.2.1 s.2.2.2) /\ (1 <= s.1 /\ I s.1 s.2.1 s.2.2.1 s.2.2.2) }) (fun s => S s.1.2.1 s.1.2.2.1 s.1.2.2.2) (fun s => s.1.1) ⟨(n0, b0, b1, b2), ⟨rfl⟩, hI⟩ h0 ?_
 rintro ⟨⟨n1, a0, a1, a2⟩, e, j⟩
 obtain ⟨n, rfl⟩ : ∃ q, n1 = q + 1 := ⟨n1 - 1, by have := j.1; (try dsimp only at this); omega⟩
 refine Gc (fun σ' hn => ?_) (kk n a0 a1 a2 ⟨round n a0 a1 a2 ⟨by have := e.h; (try dsimp only at this); rw [this, hL]⟩ j⟩)
 obtain ⟨c0, c1, c2, e2, j2, w2⟩ := hn
 exact ⟨⟨(n, c0, c1, c2), e2, j2⟩, Nat.lt_succ_self n, w2⟩
abbrev Q4 {R : Type} {A0 A1 A2 A3 : Type} (L : Nat -> A0 -> A1 -> A2 -> A3 -> R) (S : A0 -> A1 -> A2 -> A3 -> St) (I : Nat -> A0 -> A1 -> A2 -> A3 -> Prop) (t : R) (b : Nat) : NxI := ⟨fun τ => ∃ a0 a1 a2 a3, Me t (L b a0 a1 a2 a3) /\ (1 <= b /\ I b a0 a1 a2 a3) /\ Wk τ (S a0 a1 a2 a3)⟩
theorem nx4 {R : Type} {A0 A1 A2 A3 : Type} {L : Nat -> A0 -> A1 -> A2 -> A3 -> R} {S : A0 -> A1 -> A2 -> A3 -> St} {I : Nat -> A0 -> A1 -> A2 -> A3 -> Prop} {t : R} {b : Nat} {a0 : A0} {a1 : A1} {a2 : A2} {a3 : A3} (e : Me t (L b a0 a1 a2 a3)) (hI : 1 <= b /\ I b a0 a1 a2 a3 := by ((try dsimp only); first | omega | (simp at *; omega))) (hw : Wk σ (S a0 a1 a2 a3) := by exact XI (by simp)) : @Nx σ (Q4 L S I t b) := ⟨a0, a1, a2, a3, e, hI, hw⟩
theorem lp4 {c : qU} {R : Type} {A0 A1 A2 A3 : Type} {L B : Nat -> A0 -> A1 -> A2 -> A3 -> R} (hL : ∀ (a0 : A0) (a1 : A1) (a2 : A2) (a3 : A3) (n : Nat), L (Nat.succ n) a0 a1 a2 a3 = B n a0 a1 a2 a3) (S : A0 -> A1 -> A2 -> A3 -> St) (I : Nat -> A0 -> A1 -> A2 -> A3 -> Prop) (n0 : Nat) (b0 : A0) (b1 : A1) (b2 : A2) (b3 : A3) {p : Nat -> A0 -> A1 -> A2 -> A3 -> Prop}
  (round : ∀ n (a0 : A0) (a1 : A1) (a2 : A2) (a3 : A3), Me (L n0 b0 b1 b2 b3) (B n a0 a1 a2 a3) -> 1 <= n + 1 /\ I (n + 1) a0 a1 a2 a3 -> p n a0 a1 a2 a3) (hI : 1 <= n0 /\ I n0 b0 b1 b2 b3 := by first | omega | (dsimp only; omega) | simp) (h0 : Wk σ (S b0 b1 b2 b3) := by exact XI (by simp)) (kk : ∀ n (a0 : A0) (a1 : A1) (a2 : A2) (a3 : A3), Bx (p n a0 a1 a2 a3) -> @WI P (S a0 a1 a2 a3) c (.nxt (fun σ' => @Nx σ' (Q4 L S I (L n0 b0 b1 b2 b3) n)) k) := by (intro n_ a0_ a1_ a2_ a3_ z; simp; (repeat (with_reducible refine Go.Mo.sd ?_)); exact z.h)) : @OU P σ c k := by
 refine Ts (ι := { s : Nat × A0 × A1 × A2 × A3 // Me (L n0 b0 b1 b2 b3) (L s.1 s.2.1 s.2.2.1 s.2.2.2.1 s.2.2.2.2) /\ (1 <= s.1 /\ I s.1 s.2.1 s.2.2.1 s.2.2.2.1 s.2.2.2.2) }) (fun s => S s.1.2.1 s.1.2.2.1 s.1.2.2.2.1 s.1.2.2.2.2) (fun s => s.1.1) ⟨(n0, b0, b1, b2, b3), ⟨rfl⟩, hI⟩ h0 ?_
 rintro ⟨⟨n1, a0, a1, a2, a3⟩, e, j⟩
 obtain ⟨n, rfl⟩ : ∃ q, n1 = q + 1 := ⟨n1 - 1, by have := j.1; (try dsimp only at this); omega⟩
 refine Gc (fun σ' hn => ?_) (kk n a0 a1 a2 a3 ⟨round n a0 a1 a2 a3 ⟨by have := e.h; (try dsimp only at this); rw [this, hL]⟩ j⟩)
 obtain ⟨c0, c1, c2, c3, e2, j2, w2⟩ := hn
 exact ⟨⟨(n, c0, c1, c2, c3), e2, j2⟩, Nat.lt_succ_self n, w2⟩
abbrev Q13 {R : Type} {A0 A1 A2 A3 A4 A5 A6 A7 A8 A9 fx fy fz : Type} (L : Nat -> A0 -> A1 -> A2 -> A3 -> A4 -> A5 -> A6 -> A7 -> A8 -> A9 -> fx -> fy -> fz -> R) (S : A0 -> A1 -> A2 -> A3 -> A4 -> A5 -> A6 -> A7 -> A8 -> A9 -> fx -> fy -> fz -> St) (I : Nat -> A0 -> A1 -> A2 -> A3 -> A4 -> A5 -> A6 -> A7 -> A8 -> A9 -> fx -> fy -> fz -> Prop) (t : R) (b : Nat) : NxI := ⟨fun τ => ∃ a0 a1 a2 a3 a4 a5 a6 a7 a8 a9 fg fh fj, Me t (L b a0 a1 a2 a3 a4 a5 a6 a7 a8 a9 fg fh fj) /\ (1 <= b /\ I b a0 a1 a2 a3 a4 a5 a6 a7 a8 a9 fg fh fj) /\ Wk τ (S a0 a1 a2 a3 a4 a5 a6 a7 a8 a9 fg fh fj)⟩
theorem lP {R : Type} {A0 A1 A2 A3 A4 A5 A6 A7 A8 A9 fx fy fz : Type} {L : Nat -> A0 -> A1 -> A2 -> A3 -> A4 -> A5 -> A6 -> A7 -> A8 -> A9 -> fx -> fy -> fz -> R} {S : A0 -> A1 -> A2 -> A3 -> A4 -> A5 -> A6 -> A7 -> A8 -> A9 -> fx -> fy -> fz -> St} {I : Nat -> A0 -> A1 -> A2 -> A3 -> A4 -> A5 -> A6 -> A7 -> A8 -> A9 -> fx -> fy -> fz -> Prop} {t : R} {b : Nat} {a0 : A0} {a1 : A1} {a2 : A2} {a3 : A3} {a4 : A4} {a5 : A5} {a6 : A6} {a7 : A7} {a8 : A8} {a9 : A9} {fg : fx} {fh : fy} {fj : fz} (e : Me t (L b a0 a1 a2 a3 a4 a5 a6 a7 a8 a9 fg fh fj)) (hI : 1 <= b /\ I b a0 a1 a2 a3 a4 a5 a6 a7 a8 a9 fg fh fj := by ((try dsimp only); first | omega | (simp at *; omega))) (hw : Wk σ (S a0 a1 a2 a3 a4 a5 a6 a7 a8 a9 fg fh fj) := by exact XI (by simp)) : @Nx σ (Q13 L S I t b) := ⟨a0, a1, a2, a3, a4, a5, a6, a7, a8, a9, fg, fh, fj, e, hI, hw⟩
theorem lY {R : Type} {A0 A1 A2 A3 A4 A5 A6 A7 A8 A9 fx fy fz : Type} {L : Nat -> A0 -> A1 -> A2 -> A3 -> A4 -> A5 -> A6 -> A7 -> A8 -> A9 -> fx -> fy -> fz -> R} {S : A0 -> A1 -> A2 -> A3 -> A4 -> A5 -> A6 -> A7 -> A8 -> A9 -> fx -> fy -> fz -> St} {I : Nat -> A0 -> A1 -> A2 -> A3 -> A4 -> A5 -> A6 -> A7 -> A8 -> A9 -> fx -> fy -> fz -> Prop} {t : R} {b : Nat} {a0 : A0} {a1 : A1} {a2 : A2} {a3 : A3} {a4 : A4} {a5 : A5} {a6 : A6} {a7 : A7} {a8 : A8} {a9 : A9} {fg : fx} {fh : fy} {fj : fz} {q : Prop} (F : q) (e : Me t (L b a0 a1 a2 a3 a4 a5 a6 a7 a8 a9 fg fh fj)) (hI : 1 <= b /\ I b a0 a1 a2 a3 a4 a5 a6 a7 a8 a9 fg fh fj := by ((try dsimp only); first | omega | (simp at *; omega))) (kw : q -> Wk σ (S a0 a1 a2 a3 a4 a5 a6 a7 a8 a9 fg fh fj) := by (intro F; exact XI (by simp [F]))) : @Nx σ (Q13 L S I t b) := ⟨a0, a1, a2, a3, a4, a5, a6, a7, a8, a9, fg, fh, fj, e, hI, kw F⟩
theorem mN {c : qU} {R : Type} {A0 A1 A2 A3 A4 A5 A6 A7 A8 A9 fx fy fz : Type} {L B : Nat -> A0 -> A1 -> A2 -> A3 -> A4 -> A5 -> A6 -> A7 -> A8 -> A9 -> fx -> fy -> fz -> R} (hL : ∀ (a0 : A0) (a1 : A1) (a2 : A2) (a3 : A3) (a4 : A4) (a5 : A5) (a6 : A6) (a7 : A7) (a8 : A8) (a9 : A9) (fg : fx) (fh : fy) (fj : fz) (n : Nat), L (Nat.succ n) a0 a1 a2 a3 a4 a5 a6 a7 a8 a9 fg fh fj = B n a0 a1 a2 a3 a4 a5 a6 a7 a8 a9 fg fh fj) (S : A0 -> A1 -> A2 -> A3 -> A4 -> A5 -> A6 -> A7 -> A8 -> A9 -> fx -> fy -> fz -> St) (I : Nat -> A0 -> A1 -> A2 -> A3 -> A4 -> A5 -> A6 -> A7 -> A8 -> A9 -> fx -> fy -> fz -> Prop) (n0 : Nat) (b0 : A0) (b1 : A1) (b2 : A2) (b3 : A3) (b4 : A4) (b5 : A5) (b6 : A6) (b7 : A7) (b8 : A8) (b9 : A9) (b10 : fx) (b11 : fy) (b12 : fz) {p : Nat -> A0 -> A1 -> A2 -> A3 -> A4 -> A5 -> A6 -> A7 -> A8 -> A9 -> fx -> fy -> fz -> Prop}
  (round : ∀ n (a0 : A0) (a1 : A1) (a2 : A2) (a3 : A3) (a4 : A4) (a5 : A5) (a6 : A6) (a7 : A7) (a8 : A8) (a9 : A9) (fg : fx) (fh : fy) (fj : fz), Me (L n0 b0 b1 b2 b3 b4 b5 b6 b7 b8 b9 b10 b11 b12) (B n a0 a1 a2 a3 a4 a5 a6 a7 a8 a9 fg fh fj) -> 1 <= n + 1 /\ I (n + 1) a0 a1 a2 a3 a4 a5 a6 a7 a8 a9 fg fh fj -> p n a0 a1 a2 a3 a4 a5 a6 a7 a8 a9 fg fh fj) (hI : 1 <= n0 /\ I n0 b0 b1 b2 b3 b4 b5 b6 b7 b8 b9 b10 b11 b12 := by first | omega | (dsimp only; omega) | simp) (h0 : Wk σ (S b0 b1 b2 b3 b4 b5 b6 b7 b8 b9 b10 b11 b12) := by exact XI (by simp)) (kk : ∀ n (a0 : A0) (a1 : A1) (a2 : A2) (a3 : A3) (a4 : A4) (a5 : A5) (a6 : A6) (a7 : A7) (a8 : A8) (a9 : A9) (fg : fx) (fh : fy) (fj : fz), Bx (p n a0 a1 a2 a3 a4 a5 a6 a7 a8 a9 fg fh fj) -> @WI P (S a0 a1 a2 a3 a4 a5 a6 a7 a8 a9 fg fh fj) c (.nxt (fun σ' => @Nx σ' (Q13 L S I (L n0 b0 b1 b2 b3 b4 b5 b6 b7 b8 b9 b10 b11 b12) n)) k) := by (intro n_ a0_ a1_ a2_ a3_ a4_ a5_ a6_ a7_ a8_ a9_ a10_ a11_ a12_ z; simp; (repeat (with_reducible refine Go.Mo.sd ?_)); exact z.h)) : @OU P σ c k := by
 refine Ts (ι := { s : Nat × A0 × A1 × A2 × A3 × A4 × A5 × A6 × A7 × A8 × A9 × fx × fy × fz // Me (L n0 b0 b1 b2 b3 b4 b5 b6 b7 b8 b9 b10 b11 b12) (L s.1 s.2.1 s.2.2.1 s.2.2.2.1 s.2.2.2.2.1 s.2.2.2.2.2.1 s.2.2.2.2.2.2.1 s.2.2.2.2.2.2.2.1 s.2.2.2.2.2.2.2.2.1 s.2.2.2.2.2.2.2.2.2.1 s.2.2.2.2.2.2.2.2.2.2.1 s.2.2.2.2.2.2.2.2.2.2.2.1 s.2.2.2.2.2.2.2.2.2.2.2.2.1 s.2.2.2.2.2.2.2.2.2.2.2.2.2) /\ (1 <= s.1 /\ I s.1 s.2.1 s.2.2.1 s.2.2.2.1 s.2.2.2.2.1 s.2.2.2.2.2.1 s.2.2.2.2.2.2.1 s.2.2.2.2.2.2.2.1 s.2.2.2.2.2.2.2.2.1 s.2.2.2.2.2.2.2.2.2.1 s.2.2.2.2.2.2.2.2.2.2.1 s.2.2.2.2.2.2.2.2.2.2.2.1 s.2.2.2.2.2.2.2.2.2.2.2.2.1 s.2.2.2.2.2.2.2.2.2.2.2.2.2) }) (fun s => S s.1.2.1 s.1.2.2.1 s.1.2.2.2.1 s.1.2.2.2.2.1 s.1.2.2.2.2.2.1 s.1.2.2.2.2.2.2.1 s.1.2.2.2.2.2.2.2.1 s.1.2.2.2.2.2.2.2.2.1 s.1.2.2.2.2.2.2.2.2.2.1 s.1.2.2.2.2.2.2.2.2.2.2.1 s.1.2.2.2.2.2.2.2.2.2.2.2.1 s.1.2.2.2.2.2.2.2.2.2.2.2.2.1 s.1.2.2.2.2.2.2.2.2.2.2.2.2.2) (fun s => s.1.1) ⟨(n0, b0, b1, b2, b3, b4, b5, b6, b7, b8, b9, b10, b11, b12), ⟨rfl⟩, hI⟩ h0 ?_
 rintro ⟨⟨n1, a0, a1, a2, a3, a4, a5, a6, a7, a8, a9, fg, fh, fj⟩, e, j⟩
 obtain ⟨n, rfl⟩ : ∃ q, n1 = q + 1 := ⟨n1 - 1, by have := j.1; (try dsimp only at this); omega⟩
 refine Gc (fun σ' hn => ?_) (kk n a0 a1 a2 a3 a4 a5 a6 a7 a8 a9 fg fh fj ⟨round n a0 a1 a2 a3 a4 a5 a6 a7 a8 a9 fg fh fj ⟨by have := e.h; (try dsimp only at this); rw [this, hL]⟩ j⟩)
 obtain ⟨c0, c1, c2, c3, c4, c5, c6, c7, c8, c9, c10, c11, c12, e2, j2, w2⟩ := hn
 exact ⟨⟨(n, c0, c1, c2, c3, c4, c5, c6, c7, c8, c9, c10, c11, c12), e2, j2⟩, Nat.lt_succ_self n, w2⟩
end
section
variable {P : Program} {σ : St} {k : Fr}
theorem W2 {A : zK} {o : OpI} {l : yC} {d : Nat} {T : TypeId} {n : Nat} {parts : Array (Nat × Operand)} (h : @EI P (σ.new d (.one (.sref d 0 0 (zI P σ (ZQ P T) (P.cellsOf (ZQ P T)) parts.toList 0).2.length)) [.lit (P.cellsOf (ZQ P T)) (zI P σ (ZQ P T) (P.cellsOf (ZQ P T)) parts.toList 0).2]) A l k) (iS : o.o.op = .buildSlice T n parts := by exact rfl) (hg : o.o.guard = none := by exact rfl) (hd : o.o.dst = some d := by exact rfl)
  (h1 : σ.fresh d = true /\ XK P T = true /\ QK P (ZQ P T) = true /\ 0 < P.cellsOf (ZQ P T) /\ parts.toList.length = n /\ n * P.cellsOf (ZQ P T) <= 16777216 := by simp) (h2 : (zI P σ (ZQ P T) (P.cellsOf (ZQ P T)) parts.toList 0).1 := by simp)
  (h3 : YU d (zI P σ (ZQ P T) (P.cellsOf (ZQ P T)) parts.toList 0).2.flatten = false := by simp)
  : @SI P σ A o l k := lQ iS hg hd h1 h2 h3 h
theorem UL {A : zK} {o : OpI} {l : yC} {d : Nat} {x y : Operand} {t : TypeId} {iT news : List (List D)} {l1 l2 : List (Nat × Nat)} {size : Nat} (h : @EI P ((σ.Zt (l1 ++ l2)).new d (.one (.sref d 0 0 (iT.length + news.length))) [.arr true size (iT ++ news)]) A l k) (iS : o.o.op = .call ⟨.builtin .append, #[x, y], #[t, t]⟩ := by exact rfl) (hg : o.o.guard = none := by exact rfl) (hd : o.o.dst = some d := by exact rfl) (gO : A.bar o.o = true := by exact rfl)
  (gX : size = P.cellsOf (ZQ P t) := by simp) (h1 : gOf (look P σ t x) = true /\ gOf (look P σ t y) = true /\ XK P t = true /\ QK P (ZQ P t) = true /\ 0 < P.cellsOf (ZQ P t) := by simp)
  (h2 : (V3 σ (unc (look P σ t x)) size).1 /\ (V3 σ (unc (look P σ t x)) size).2 = (iT, l1) := by simp) (h3 : (V1 σ (unc (look P σ t y)) size).1 /\ (V1 σ (unc (look P σ t y)) size).2 = (news, l2) := by simp)
  (h4 : (l1 ++ l2).Nodup /\ (σ.Zt (l1 ++ l2)).fresh d = true := by simp) (h5 : (iT.length + news.length) * P.bytesOf (ZQ P t) <= 140737488355328 /\ iT.length + news.length <= 9223372036854775807 := by (simp; omega))
  : @SI P σ A o l k := lM iS hg hd gO gX h1 h2 h3 h4 h5 h
theorem SE {A : zK} {o : OpI} {l : yC} {T : TypeId} {x y : Operand} {t j i size : Nat} {rows : List (List D)} {ds : List D} {L : List (Nat × Nat)} (h : @EI P ((σ.Zt L).Z5 t j (.arr true size (rows.set i ds))) A l k) (iS : o.o.op = .store T x y := by exact rfl) (hg : o.o.guard = none := by exact rfl) (hd : o.o.dst = none := by exact rfl) (gO : A.bar o.o = true := by exact rfl)
  (hx : unc (look P σ 0 x) = .one (.ptr t j i 0) := by simp) (ho : σ.ob t j = .arr true size rows := by simp) (hi : i < rows.length := by (simp; try omega)) (h1 : qf P T = true /\ gOf (look P σ 0 x) = true /\ gOf (look P σ T y) = true /\ (unc (look P σ T y)).flat = true := by simp)
  (h2 : JF σ (unc (look P σ T y)).cells = some ds := by simp) (h3 : Qn σ (unc (look P σ T y)).cells := by simp) (h4 : Yh (unc (look P σ T y)).cells = L := by simp) (h5 : L.Nodup /\ (t, j) ∉ L /\ (σ.Zt L).yL (At.isT t) = false := by simp) (h6 : ds.length = P.cellsOf T /\ P.cellsOf T = size := by simp)
  : @SI P σ A o l k := lU iS hg hd gO hx ho hi h1 h2 h3 h4 h5 h6 h
end
theorem wkS {σ σ' : St} (ρ : Ren) (F : List (Nat × Nat)) (hR : UD σ' ρ ρ = true := by exact rfl) (h : Ox σ ρ F σ σ' 0 := by simp) : Wk σ σ' := Xf ρ F hR h
theorem drJ {P : Program} {id : Nat} {σ : St} {l : List Oper} {br : Oper -> Bool} {k : Fr} (bs : List Nat) (hm : P.follows .mixedOrders = true) (h : @EI P σ ⟨⟨l⟩, Lm bs⟩ ⟨l⟩ k) (hdr : Vm.Nj ⟨l⟩ (fun i => i) (Lm bs) = true := by kernel_rfl) (gP : yv ⟨l⟩ (fun i => i) σ = true := by kernel_rfl) : @DI P id σ ⟨⟨l⟩, br⟩ k := mI bs hm hdr gP h
theorem rpS {g p : Prop} (h : p) (kk : Bx p -> g := by (intro z; (repeat (with_reducible refine Go.Mo.sd ?_)); exact z.h)) : g := kk ⟨h⟩
theorem rpG {g p : Prop} (h : p) (kk : Bx p -> g := by (intro z; (repeat (with_reducible refine Go.Mo.sdg ?_)); exact z.h)) : g := kk ⟨h⟩
theorem xs {p q : Prop} (u : q) (h : q -> p := by (intro u; simp (maxDischargeDepth := 12) [u])) : p := h u
@[simp] abbrev rI (x : Int) : List D := [.int .i64 x]
@[simp] abbrev rB (b : Bool) : List D := [.bool b]
@[simp] abbrev rS (s : ByteArray) : List D := [.str s]
@[simp] abbrev rL {α : Type} (n : Nat) (f : α -> List D) (l : List α) : List D := [.sl n (l.map f)]
end Go.Vm
