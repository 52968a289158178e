/- An abstract machine Oj the model of Go, by value, and that it is sound: part Ve. No condition. -/
import Derived.Test.YtjflhdkeibijaaaGreatVd
namespace Go.Vm
open Go.RowKit
section
variable {P : Program} {σ : St} {k : Fr}
end
end Go.Vm
namespace Go.Vm
open Go.RowKit
def DD (σ : St) : V → Option Nat
 | .one (.d (.sl _ rows)) => some rows.length
 | .one (.sref t j _ len) => (match σ.ob t j with | .arr _ _ _ => some len | _ => none)
 | .fix _ (.one (.sref t j _ len)) => (match σ.ob t j with | .arr _ _ _ => some len | _ => none)
 | _ => none
def qi (σ : St) : Prop := ∀ t n, DD σ (σ.get t) = some n → n ≤ 9223372036854775807
theorem Du {T : CS} {h : Nat → Nat → Hd} {σ : St} {w : World} : ∀ {v : V} {val : Value} {n : Nat}, DD σ v = some n → XZ T h σ.ob w v val → n ≤ maxLen
 | .one (.d (.sl s rows)), val, n, hn, hv => by
  simp only [DD] at hn
  cases hn
  obtain ⟨base, cap, _, h1, h2⟩ := Gw (r := (show Rd T w val (.sl s rows) from hv))
  omega
 | .one (.sref u j lo len), val, n, hn, hv => by
  simp only [DD] at hn
  split at hn
  ·rename_i q s rows ho
   cases hn
   have hh := (show Z2 T h σ.ob w (.sref u j lo len) val from hv).2.1 _ _ _ ho
   obtain ⟨_, _, _, base, cap, _, h1, h2, _⟩ := hh
   omega
  ·cases hn
 | .fix u0 (.one (.sref u j lo len)), val, n, hn, hv => by
  simp only [DD] at hn
  split at hn
  ·rename_i q s rows ho
   cases hn
   have hh := (show Z2 T h σ.ob w (.sref u j lo len) val from hv.2).2.1 _ _ _ ho
   obtain ⟨_, _, _, base, cap, _, h1, h2, _⟩ := hh
   omega
  ·cases hn
theorem Hw {T0 : CS} {B : Nat → Prop} {σ : St} {a : Act} {w : World} (r : Qo T0 B σ a w) : qi σ := by
 obtain ⟨X, h, r⟩ := r
 intro t n hn
 exact Du hn (r.get t)
theorem Ie {P : Program} {c : Code} {Q : Exit → St → Prop} {σ : St} (h : qi σ → AWP P c Q σ) : AWP P c Q σ := fun T0 B a w r => h (Hw r) T0 B a w r
section
variable {P : Program} {σ : St} {k : Fr}
theorem Be {b : Bool} {x y : zg} (ht : qi σ → b = true → @WI P σ x k) (hf : qi σ → b = false → @WI P σ y k) : @CI P b σ x y k :=
 ⟨fun h => Ie fun hk => jU (ht hk h), fun h => Ie fun hk => jU (hf hk h)⟩
theorem Pr {b c : Bool} {x y : zg} (hc : c = b) (ht : qi σ → c = true → @WI P σ x k) (hf : qi σ → c = false → @WI P σ y k) : @CI P b σ x y k := by
 subst hc; exact Be ht hf
theorem okL {c : zg} (h : qi σ → @TL P σ c k) : @TL P σ c k := Ie h
theorem okD {id : Nat} {A : Kh} (h : qi σ → @DI P id σ A k) : @DI P id σ A k := Ie h
def La : Op → Bool
 | .call _ => true
 | _ => false
theorem GU {A : Kh} {o : OpI} {l : zQ} {j dj d : Nat} {want g : Bool} (hop : La o.o.op = false) (hg : o.o.guard = some (j, want)) (hd : o.o.dst = some d)
  (hdj : (A.ops[j]?).bind (·.dst) = some dj) (hgc : xP want (σ.get dj) = some g) (hlt : dj < σ.length)
  (ht : g = true → ((evV P σ o.o.op o.o.type).1 ∧ gOf (evV P σ o.o.op o.o.type).2 = true ∧ (unc (evV P σ o.o.op o.o.type).2).flat = true) ∧ @EI P (σ.put d (.cnd true (unc (evV P σ o.o.op o.o.type).2))) A l k)
  (hf : g = false → @EI P (σ.put d (.cnd false .any)) A l k) : @SI P σ A o l k := by
 have step : ∀ v, (g = true → (evV P σ o.o.op o.o.type).1 ∧ gOf (evV P σ o.o.op o.o.type).2 = true ∧ v = unc (evV P σ o.o.op o.o.type).2 ∧ v.flat = true) → Yc P A.ops o.o σ (σ.put d (.cnd g v)) := by
  intro v hv
  unfold Yc
  simp only [hg]
  refine ⟨dj, d, g, v, hdj, hlt, hd, hgc, fun hgt => ?_, rfl⟩
  obtain ⟨h1, h2, h3, h4⟩ := hv hgt
  have base : ∃ v0, Z8 P σ o.o.op o.o.type v0 ∧ gOf v0 = true ∧ v = unc v0 ∧ v.flat = true := ⟨_, GP h1, h2, h3, h4⟩
  unfold Tt
  split
  ·rename_i c hc; rw [hc] at hop; cases hop
  ·exact base
 cases g with
 | true =>
  obtain ⟨⟨h1, h2, h3⟩, h4⟩ := ht rfl
  exact ⟨_, .inl (step _ fun _ => ⟨h1, h2, rfl, h3⟩), X3 h4⟩
 | false => exact ⟨_, .inl (step .any (fun h => by cases h)), X3 (hf rfl)⟩
end
theorem CL {P : Program} {σ : St} {k : Fr} {A : Kh} {o : OpI} {l : zQ} {j dj d : Nat} {want g : Bool} (hg : o.o.guard = some (j, want)) (hd : o.o.dst = some d)
  (hdj : (A.ops[j]?).bind (·.dst) = some dj) (hgc : xP want (σ.get dj) = some g) (hlt : dj < σ.length) (hgf : g = false)
  (h : @EI P (σ.put d (.cnd false .any)) A l k) : @SI P σ A o l k := by
 subst hgf
 refine ⟨_, .inl ?_, X3 h⟩
 unfold Yc
 simp only [hg]
 exact ⟨dj, d, false, .any, hdj, hlt, hd, hgc, (fun h => by cases h), rfl⟩
def Wq (P : Program) : List TypeId → List At → List At → Option Bool
 | [], _, _ => some true
 | f :: fs, x :: xs, y :: ys => (match DJ P f x y, Wq P fs xs ys with | some p, some q => some (p && q) | _, _ => none)
 | _, _, _ => none
theorem SO (P : Program) : ∀ (fs : List Field) (xs ys : List At), yA P fs xs ys = Wq P (fs.map (·.type)) xs ys
 | [], _, _ => by simp [yA, Wq]
 | f :: fs, [], _ => by simp [yA, Wq]
 | f :: fs, x :: xs, [] => by simp [yA, Wq]
 | f :: fs, x :: xs, y :: ys => by simp only [yA, List.map_cons, Wq, SO P fs xs ys]; rfl
def JT (P : Program) (T : TypeId) : List TypeId := (P.fieldsOf T).toList.map (·.type)
@[simp] theorem Dv (P : Program) (T : TypeId) (xs ys : List At) : yA P (P.fieldsOf T).toList xs ys = Wq P (JT P T) xs ys := SO P _ _ _
attribute [simp] Wq
def nth {α : Type} [Inhabited α] (l : List α) (i : Nat) : α := l.getD i default
theorem ZD {α : Type} [Inhabited α] {f : α → List D} {l : List α} {i : Nat} (h : i < l.length) : rowAt (l.map f) i = f (nth l i) := by
 simp [rowAt, nth, h]
theorem Zq {α : Type} {f : α → List D} {l : List α} {i : Nat} {x : α} {r : List D} (h : r = f x) : (l.map f).set i r = (l.set i x).map f := by
 rw [h, List.map_set]
abbrev W (x : Int) : Int := IntKind.i64.wrap x
theorem ZT {x : Int} (h1 : -9223372036854775808 ≤ x) (h2 : x ≤ 9223372036854775807) : IntKind.i64.wrap x = x := by
 have hr : IntKind.i64.min ≤ x ∧ x ≤ IntKind.i64.max := by
  constructor
  ·show -9223372036854775808 ≤ x; exact h1
  ·show x ≤ 9223372036854775807; exact h2
 simp only [IntKind.wrap]
 first
  | (simp [IntKind.bits, IntKind.signed]; omega)
  | omega
theorem kU (i : Nat) : ((i : Int) - 1).toNat = i - 1 := by omega
attribute [simp] St.fresh JY V.ref V.UQ YP j9
end Go.Vm
namespace Go.Vm
open Go.RowKit
attribute [simp] St.xL Kz W3 At.Ey Wd
section
variable {P : Program} {σ : St} {k : Fr}
theorem QH {f : FuncId} {fn : Func} {c : Code} (hf : P.funcs[f]? = some fn) (hb : fn.body = some c) (hok : Ts P f = true) {row : List D} {args : List (List D)} {row' : List D} {x : D}
  (hw : ∀ v, @WI P (Wd fn.ntmps v row args) ⟨c⟩ (.fin (Cp P fn v row' x))) : Qq P f row args row' x := O9 hf hb hok (fun v => jU (hw v))
theorem UT {fn : Func} {v : Value} {row' : List D} {x : D} {rv : List ResultVar} (hf : fn.results = rv.toArray) (h : (Ql P σ rv).1 ∧ (Ql P σ rv).2 = [[.d x]] ∧ x.scalar = true ∧ σ.head? = some (.fix v (vOf (QL 0 0 row')), Z3 [] row')) : Cp P fn v row' x .ret σ :=
 ⟨.inl rfl, by rw [hf]; have := W1 h.1; rw [h.2.1] at this; simpa using this, h.2.2⟩
theorem W8 {A : Kh} {o : OpI} {l : zQ} {cl : Call} {f : FuncId} {d : Nat} {x0 : Operand} {xs : List Operand} {t0 : TypeId} {ts : List TypeId} {rows0 : List (List D)} {s s' : List (List D)} {n : Nat} {y : D} {t j i c : Nat} {size : Nat} {rows : List (List D)} (hop : o.o.op = .call cl) (hc : cl.callee = .value (.func f)) (hgd : o.o.guard = none) (hd : o.o.dst = some d) (hbar : A.bar o.o = true)
  (ha : cl.args.toList = x0 :: xs) (hat : cl.argTypes.toList = t0 :: ts) (hs : Qq P f [.sl n s] rows0 [.sl n s'] y) (hx : gOf (look P σ t0 x0) = true ∧ unc (look P σ t0 x0) = .one (.tref t j i c none)) (ho : σ.ob t j = .arr true size rows) (hi : i < rows.length)
  (hcell : (rowAt rows i)[c]? = some (.sl n s)) (hargs : (Y6 P σ xs ts).1) (hrows : (Y6 P σ xs ts).2 = some rows0) (hst : YI P σ xs ts = true)
  (h : @EI P ((σ.Zt t j (.arr true size (rows.set i (place (rowAt rows i) c [.sl n s'])))).put d (.one (.d y))) A l k) : @SI P σ A o l k := I4 hop hc hgd hd hbar ha hat hx.1 hx.2 ho hi hcell (qC hargs hrows) hst hs h
theorem xX {A : Kh} {o : OpI} {l : zQ} {cl : Call} {f : FuncId} {d : Nat} {x0 : Operand} {xs : List Operand} {t0 : TypeId} {ts : List TypeId} {rows0 : List (List D)} {row row' : List D} {y : D} {ats : List At} (hop : o.o.op = .call cl) (hc : cl.callee = .value (.func f)) (hgd : o.o.guard = none) (hd : o.o.dst = some d) (hbar : A.bar o.o = true)
  (ha : cl.args.toList = x0 :: xs) (_hat : cl.argTypes.toList = t0 :: ts) (hs : Qq P f row rows0 row' y) (hx : gOf (look P σ t0 x0) = true ∧ unc (look P σ t0 x0) = vOf ats) (hmv : X1 σ ats = some row) (hdp : W3 σ ats) (hnd : (YF ats).Nodup) (htr : σ.J9 At.Ey = false)
  (hargs : (Y6 P σ xs ts).1) (hrows : (Y6 P σ xs ts).2 = some rows0) (hst : YI P σ xs ts = true) (hlk : Kz row row')
  (h : @EI P ((σ.xL ats row').put d (.one (.d y))) A l k) : @SI P σ A o l k := H9 hop hc hgd hd hbar ha hx.1 hx.2 hmv hdp hnd htr (qC hargs hrows) hst hs hlk h
end
end Go.Vm
namespace Go.Vm
open Go.RowKit
def At.isP (t : Nat) : At → Bool
 | .tref u _ _ _ _ => u == t
 | .ptr u _ _ _ => u == t
 | _ => false
section
variable {P : Program} {T0 : CS} {B : Nat → Prop} {σ : St} {a : Act} {w w' : World} {X X' : Nat → Prop} {h : Nat → Nat → Hd}
theorem Rel.BG (r : Rel T0 B σ a w X h) {t : Nat} {size : Nat} {rows : List (List At)} {news : List (List D)} {L : List (Nat × Nat)} (ho : σ.ob t 0 = .lit size rows) (hmv : JV σ rows = some news) (hok : Qf σ rows)
  (hL : YF rows.flatten = L) (hnd : L.Nodup) (hnt : (t, 0) ∉ L) (hp : (σ.Zn L).J9 (At.isP t) = false) : Qo T0 B ((σ.Zn L).Zt t 0 (.arr true size news)) a w := by
 have hob : σ.ob t 0 ≠ .none := by rw [ho]; simp
 have h0 := r.obj t 0
 rw [ho] at h0
 obtain ⟨e, xs, how, hz, hal⟩ := h0
 obtain ⟨hm1, hm2, hm3⟩ := qv hmv
 have hown := SC r hal hm1 (y7 hok) (by rw [hL]; exact hnd)
 rw [hL] at hown
 have r1 := r.Zn L
 have hfree := r.KP L
 have hdis : ∀ b', (h t 0).u b' → X2 σ h L b' → False := by
  rintro b' hu' ⟨p, hp', hne, hup⟩
  obtain ⟨q1, q2⟩ := r.inj t 0 p.1 p.2 b' hob hne hu' hup
  exact hnt (by rw [q1, q2]; exact hp')
 have hob1 : (σ.Zn L).ob t 0 = .lit size rows := by rw [St.JR, if_neg hnt, ho]
 have hobn : (σ.Zn L).ob t 0 ≠ .none := by rw [hob1]; simp
 have hobs : ∀ u i, ¬ (u = t ∧ i = 0) → ((σ.Zn L).Zt t 0 (.arr true size news)).ob u i = (σ.Zn L).ob u i := by
  intro u i hne
  rw [St.XX _ t 0 _ u i hobn, if_neg hne]
 have hself : ((σ.Zn L).Zt t 0 (.arr true size news)).ob t 0 = .arr true size news := by rw [St.XX _ t 0 _ t 0 hobn]; simp
 generalize hσ : (σ.Zn L).Zt t 0 (.arr true size news) = σ2 at *
 generalize hσ1 : σ.Zn L = σ1 at *
 have hlen : σ2.length = σ1.length := by rw [← hσ, St.XA]
 have hget : ∀ u, σ2.get u = σ1.get u := fun u => by rw [← hσ, St.XJ]
 let hd' : Hd := ⟨(h t 0).v, fun k => (xs[k]?).getD undef, fun b => (h t 0).u b ∨ X2 σ h L b⟩
 let h' : Nat → Nat → Hd := fun u i => if u = t ∧ i = 0 then hd' else h u i
 have hh' : ∀ u i, ¬ (u = t ∧ i = 0) → h' u i = h u i := fun u i hne => if_neg hne
 have hht : h' t 0 = hd' := by simp [h']
 have hv : ∀ u i, (h' u i).v = (h u i).v := by
  intro u i
  by_cases hc : u = t ∧ i = 0
  ·obtain ⟨rfl, rfl⟩ := hc; rw [hht]
  ·rw [hh' u i hc]
 have at_ : ∀ {x : At} {v : Value}, At.isP t x = false → Z2 (Tof T0 X) h σ1.ob w x v → Z2 (Tof T0 X) h' σ2.ob w x v := by
  intro x v hpx rx
  cases x with
  | any => exact rx
  | d x => exact rx
  | nil s => exact rx
  | sref u i lo len =>
   refine ⟨rx.1, fun q s rws hq => ?_, fun s rws hq => ?_⟩
   ·by_cases hc : u = t ∧ i = 0
    ·obtain ⟨rfl, rfl⟩ := hc
     rw [hself] at hq; cases hq
     rw [hv, ← hm2]; exact rx.2.2 _ _ hob1
    ·rw [hobs u i hc] at hq; rw [hv]; exact rx.2.1 _ _ _ hq
   ·by_cases hc : u = t ∧ i = 0
    ·obtain ⟨rfl, rfl⟩ := hc
     rw [hself] at hq; cases hq
    ·rw [hobs u i hc] at hq; rw [hv]; exact rx.2.2 _ _ hq
  | ptr u i k c =>
   refine ⟨rx.1, fun q s rws hq => ?_⟩
   have hc : ¬ (u = t ∧ i = 0) := fun hc => by simp [At.isP, hc.1] at hpx
   rw [hobs u i hc] at hq; rw [hv]; exact rx.2 _ _ _ hq
  | bptr u c =>
   refine ⟨rx.1, fun cells hq => ?_⟩
   by_cases hc : u = t
   ·subst hc; rw [hself] at hq; cases hq
   ·rw [hobs u 0 (fun hh => hc hh.1)] at hq; rw [hv]; exact rx.2 _ hq
  | fn f u =>
   refine ⟨rx.1, fun cells hq => ?_⟩
   by_cases hc : u = t
   ·subst hc; rw [hself] at hq; cases hq
   ·rw [hobs u 0 (fun hh => hc hh.1)] at hq; rw [hv]; exact rx.2 _ hq
  | tref u i k c o =>
   refine ⟨rx.1, fun s rws hq => ?_⟩
   have hc : ¬ (u = t ∧ i = 0) := fun hc => by simp [At.isP, hc.1] at hpx
   rw [hobs u i hc] at hq; rw [hh' u i hc]; exact rx.2 _ _ hq
  | rptr rr c => exact rx
 have hne_ : ∀ u i, σ2.ob u i ≠ .none → σ1.ob u i ≠ .none := by
  intro u i hn
  by_cases hc : u = t ∧ i = 0
  ·obtain ⟨rfl, rfl⟩ := hc; exact hobn
  ·rw [hobs u i hc] at hn; exact hn
 refine ⟨X, h', by rw [r1.size, hlen], r1.defers, r1.hB, r1.hX, r1.hT, fun u hu => ?_, fun u i => ?_, fun u i b hn hb => ?_, fun u i b hn hb => ?_, fun u i u' i' b hn hn' hb hb' => ?_⟩
 ·rw [hlen] at hu
  rw [hget]; exact XZ.map at_ (St.Ug hp u) (r1.slot u hu)
 ·by_cases hc : u = t ∧ i = 0
  ·obtain ⟨rfl, rfl⟩ := hc
   rw [hself, hht]
   refine ⟨e, xs, by rw [← hm2]; exact how, hm3 size hz, hown.mono (fun b hb => ⟨.inr hb, fun hbb => hdis b (r.ub u 0 b hob hbb) hb⟩), fun k x d hx _ _ => by simp [hd', hx]⟩
  ·rw [hobs u i hc, hh' u i hc]
   exact Q5.map at_ (fun b k v hb hc => ⟨hc, hb⟩) (fun ho b => r1.ub u i b ho) (fun _ _ _ => rfl) (St.Rz hp u i) (r1.obj u i)
 ·by_cases hc : u = t ∧ i = 0
  ·obtain ⟨rfl, rfl⟩ := hc
   rw [hht] at hb ⊢; exact .inl (r.ub u 0 b hob hb)
  ·rw [hh' u i hc] at hb ⊢; exact r1.ub u i b (hne_ u i hn) hb
 ·by_cases hc : u = t ∧ i = 0
  ·obtain ⟨rfl, rfl⟩ := hc
   rw [hht] at hb
   rcases hb with hb | hb
   ·exact r.own u 0 b hob hb
   ·have := hfree b hb; exact ⟨this.1, this.2.1, this.2.2.1⟩
  ·rw [hh' u i hc] at hb; exact r1.own u i b (hne_ u i hn) hb
 ·have key : ∀ u i b, ¬ (u = t ∧ i = 0) → σ1.ob u i ≠ .none → (h u i).u b → (h' t 0).u b → False := by
   intro u i b hc hn hb hb'
   rw [hht] at hb'
   rcases hb' with hb' | hb'
   ·exact hc (r1.inj u i t 0 b hn hobn hb hb')
   ·exact (hfree b hb').2.2.2 u i hn hb
  by_cases hc : u = t ∧ i = 0
  ·by_cases hc' : u' = t ∧ i' = 0
   ·exact ⟨hc.1.trans hc'.1.symm, hc.2.trans hc'.2.symm⟩
   ·obtain ⟨rfl, rfl⟩ := hc
    rw [hh' u' i' hc'] at hb'
    exact (key u' i' b hc' (hne_ u' i' hn') hb' hb).elim
  ·rw [hh' u i hc] at hb
   by_cases hc' : u' = t ∧ i' = 0
   ·obtain ⟨rfl, rfl⟩ := hc'
    exact (key u i b hc (hne_ u i hn) hb hb').elim
   ·rw [hh' u' i' hc'] at hb'
    exact r1.inj u i u' i' b (hne_ u i hn) (hne_ u' i' hn') hb hb'
end
section
variable {P : Program} {σ : St} {k : Fr}
theorem Bz {A : Kh} {o : OpI} {l : zQ} {d : Nat} {T : TypeId} {n : Nat} {parts : Array (Nat × Operand)} {news : List (List D)} {L : List (Nat × Nat)} (hop : o.o.op = .buildSlice T n parts) (hg : o.o.guard = none) (hd : o.o.dst = some d) (hbar : A.bar o.o = true)
  (h1 : (σ.fresh d = true ∧ d < σ.length) ∧ Z9 P T = true ∧ Zl P (ZK P T) = true ∧ 0 < P.cellsOf (ZK P T) ∧ parts.toList.length = n ∧ n * P.cellsOf (ZK P T) ≤ 16777216) (h2 : (Jr P σ (ZK P T) (P.cellsOf (ZK P T)) parts.toList 0).1)
  (h3 : Z7 d (Jr P σ (ZK P T) (P.cellsOf (ZK P T)) parts.toList 0).2.flatten = false)
  (h4 : JV (σ.new d (.one (.sref d 0 0 (Jr P σ (ZK P T) (P.cellsOf (ZK P T)) parts.toList 0).2.length)) [.lit (P.cellsOf (ZK P T)) (Jr P σ (ZK P T) (P.cellsOf (ZK P T)) parts.toList 0).2]) (Jr P σ (ZK P T) (P.cellsOf (ZK P T)) parts.toList 0).2 = some news ∧
   Qf (σ.new d (.one (.sref d 0 0 (Jr P σ (ZK P T) (P.cellsOf (ZK P T)) parts.toList 0).2.length)) [.lit (P.cellsOf (ZK P T)) (Jr P σ (ZK P T) (P.cellsOf (ZK P T)) parts.toList 0).2]) (Jr P σ (ZK P T) (P.cellsOf (ZK P T)) parts.toList 0).2)
  (h5 : YF (Jr P σ (ZK P T) (P.cellsOf (ZK P T)) parts.toList 0).2.flatten = L ∧ L.Nodup ∧ (d, 0) ∉ L)
  (h6 : ((σ.new d (.one (.sref d 0 0 (Jr P σ (ZK P T) (P.cellsOf (ZK P T)) parts.toList 0).2.length)) [.lit (P.cellsOf (ZK P T)) (Jr P σ (ZK P T) (P.cellsOf (ZK P T)) parts.toList 0).2]).Zn L).J9 (At.isP d) = false)
  (h : @EI P (((σ.new d (.one (.sref d 0 0 (Jr P σ (ZK P T) (P.cellsOf (ZK P T)) parts.toList 0).2.length)) [.lit (P.cellsOf (ZK P T)) (Jr P σ (ZK P T) (P.cellsOf (ZK P T)) parts.toList 0).2]).Zn L).Zt d 0 (.arr true (P.cellsOf (ZK P T)) news)) A l k) : @SI P σ A o l k := by
 refine ⟨_, .inr ⟨hbar, ?_, fun d' hd' hc => QC (KE (VJ (fun e => hd' (by rw [hd, e])) hc)), fun hh => by simp [UE, hop] at hh, fun hh => by first | (simp [VQ, hop] at hh; done) | (unfold VQ at hh; rw [hop] at hh; split at hh <;> simp_all)⟩, X3 h⟩
 rintro T0 B a w K Q' ⟨X, hh, r⟩ hK
 have hw : Region.wanted o.o (yielded A.ops a.tmps) = true := by simp [Region.wanted, hg]
 rw [if_pos hw]
 refine Wj r hop hd h1.1.1 h1.2.1 h1.2.2.1 h1.2.2.2.1 h1.2.2.2.2.1 h1.2.2.2.2.2 (Od h2) h3 (fun a' w' hr hkp => hK a' w' ?_ hkp)
 obtain ⟨X', hh', r'⟩ := hr
 exact Rel.BG r' (by rw [St.Qg, if_pos ⟨rfl, h1.1.2⟩]; rfl) h4.1 h4.2 h5.1 h5.2.1 h5.2.2 h6
end
attribute [simp] At.isP
theorem Xz.own {P : Program} {f : FuncId} {args res : List (List D)} (hs : Xz P f args res) : X6 P f true args res := by
 refine ⟨hs.1, fun T w vals hT ha => (hs.2 T w vals hT ha).mono ?_⟩
 rintro e w' ⟨vs, css, he, hb, hf, hl, ⟨hlen, Sk, h1, h2, h3⟩⟩
 refine ⟨vs, css, fun b => (w.heap.size ≤ b ∧ b < w'.heap.size) ∧ ∀ (k : Nat) (c : Value) (d : D), css.flatten[k]? = some c → res.flatten[k]? = some d → d.scalar = false → blk c ≠ some b, he, hb, fun b hb => hb.1, hf, yu hl (fun k x d hx hd => ?_), fun _ => ⟨fun i c d b hc hd hsc hbl => ?_, fun i j c c' d d' b hc hd hc' hd' hsc hsc' hbl hbl' => ?_⟩⟩
 ·simp only [Ky, if_true]
  have ho := h1 k x d hx hd
  cases ho with
  | int k n => exact .int _ _
  | bool b => exact .bool _
  | str s => exact .str _
  | unk v h => exact .unk _ h
  | sl v size rows S e' xs Sk' ho hz hb' hl' hk hs' hd' =>
   refine ⟨e', xs, ho, hz, Zp.yG hl' (fun i y dd hy hdd => (hk i y dd hy hdd).rd (fun b k' hb => .inr ⟨h2 k b (hs' i b hb).1, fun k2 c2 d2 hc2 hd2 hsc2 hbl2 => ?_⟩))⟩
   have ho2 := h1 k2 c2 d2 hc2 hd2
   have hin : Sk k2 b := by
    cases ho2 with
    | int k n => cases hsc2
    | bool b => cases hsc2
    | str s => cases hsc2
    | unk => cases hsc2
    | sl v2 size2 rows2 S2 e2 xs2 Sk2 ho2 hz2 hb2 hl2 hk2 hs2 hd2' => exact hb2 b hbl2
   have := h3 k k2 b (hs' i b hb).1 hin
   subst this
   rw [hx] at hc2; cases hc2
   exact (hs' i b hb).2 hbl2
 ·have ho2 := h1 i c d hc hd
  have hin : Sk i b := by
   cases ho2 with
   | int k n => cases hsc
   | bool b => cases hsc
   | str s => cases hsc
   | unk => cases hsc
   | sl v2 size2 rows2 S2 e2 xs2 Sk2 ho2 hz2 hb2 hl2 hk2 hs2 hd2' => exact hb2 b hbl
  have := h2 i b hin
  exact ⟨this.1, this.2, fun hy => hy.2 i c d hc hd hsc hbl⟩
 ·have hin : ∀ (i : Nat) (c : Value) (d : D), css.flatten[i]? = some c → res.flatten[i]? = some d → d.scalar = false → blk c = some b → Sk i b := by
   intro i c d hc hd hsc hbl
   have ho2 := h1 i c d hc hd
   cases ho2 with
   | int k n => cases hsc
   | bool b => cases hsc
   | str s => cases hsc
   | unk => cases hsc
   | sl v2 size2 rows2 S2 e2 xs2 Sk2 ho2 hz2 hb2 hl2 hk2 hs2 hd2' => exact hb2 b hbl
  exact h3 i j b (hin i c d hc hd hsc hbl) (hin j c' d' hc' hd' hsc' hbl')
end Go.Vm
namespace Go.Vm
open Go.RowKit
def Md (σ : St) (F : List (Nat × Nat)) : At → At
 | .sref t j lo len => if inF F t j then (match σ.ob t j with | .arr _ s rows => .d (.sl s (cut rows lo len)) | _ => .any) else .sref t j lo len
 | .ptr t j i c => if inF F t j then .any else .ptr t j i c
 | .tref t j i c o => if inF F t j then .any else .tref t j i c o
 | x => x
def BZ (σ : St) (F : List (Nat × Nat)) : V → V
 | .one x => .one (Md σ F x)
 | .agg xs => .agg (xs.map (Md σ F))
 | .fix u (.one x) => .fix u (.one (Md σ F x))
 | .fix u (.agg xs) => .fix u (.agg (xs.map (Md σ F)))
 | _ => .any
def Cc (σ : St) (F : List (Nat × Nat)) (t j : Nat) (o : Ob) : Ob :=
 if inF F t j then .none else match o with | .box cs => .box (cs.map (Md σ F)) | .lit _ _ => .none | o => o
def G0 (σ : St) (F : List (Nat × Nat)) (t : Nat) : List Ob → Nat → List Ob
 | [], _ => []
 | o :: os, j => Cc σ F t j o :: G0 σ F t os (j + 1)
def IW (σ : St) (F : List (Nat × Nat)) : List Ent → Nat → List Ent
 | [], _ => []
 | e :: es, t => (BZ σ F e.1, G0 σ F t e.2 0) :: IW σ F es (t + 1)
def St.frz (σ : St) (F : List (Nat × Nat)) : St := IW σ F σ 0
section
variable {P : Program} {σ : St} {k : Fr}
end
attribute [simp] Md BZ Cc G0 IW St.frz
end Go.Vm
namespace Go.Vm
end Go.Vm
namespace Go.Vm
open Go.RowKit
abbrev ptr (b : Nat) : Value := .pointer (some ⟨b, 0, none⟩)
def Bp (n : Nat) (pre : List (List D)) (v : Value) (cells : List At) (obs : List Ob) (post : List (List D)) : St :=
 Tp pre ++ (.fix v (.one (.bptr pre.length 0)), .box cells :: obs) :: (Tp post ++ List.replicate (n - (pre.length + 1 + post.length)) (V.any, []))
section
variable {P : Program} {T0 : CS} {B : Nat → Prop} {σ : St} {a : Act} {w w' : World} {X X' : Nat → Prop} {h : Nat → Nat → Hd}
end
end Go.Vm
namespace Go.Vm
open Go.RowKit
section
variable {P : Program} {T0 : CS} {B : Nat → Prop} {σ : St} {a : Act} {w w' : World} {X X' : Nat → Prop} {h : Nat → Nat → Hd}
end
end Go.Vm
namespace Go.Vm
open Go.RowKit
section
variable {P : Program} {T0 : CS} {B : Nat → Prop} {σ : St} {a : Act} {w w' : World} {X X' : Nat → Prop} {h : Nat → Nat → Hd}
def Ab (dp : Bool) (σ : St) (d : Nat) (res : List (List D)) (qs : List Bool) : St := match dp with | true => σ.new d (kT d res) (Z3 qs res.flatten) | false => σ.put d (ya res)
end
section
variable {P : Program} {σ : St} {k : Fr}
attribute [simp] Ab
end
end Go.Vm
namespace Go.Vm
open Go.RowKit
def AE (n : Nat) (sz : Nat) (rows : List (List D)) (args : List (List D)) : St := (.one (.sref 0 0 0 rows.length), [.arr false sz rows]) :: (Tp args ++ List.replicate (n - (args.length + 1)) (V.any, []))
def At.isO (u : Nat) : At → Bool
 | .sref t _ _ _ => t == u
 | .ptr t _ _ _ => t == u
 | .tref t _ _ _ _ => t == u
 | _ => false
section
variable {P : Program} {T0 : CS} {B : Nat → Prop} {σ : St} {a : Act} {w w' : World} {X X' : Nat → Prop} {h : Nat → Nat → Hd}
end
end Go.Vm
namespace Go.Vm
open Go.RowKit
section
variable {P : Program} {T0 : CS} {B : Nat → Prop} {σ : St} {a : Act} {w w' : World} {X X' : Nat → Prop} {h : Nat → Nat → Hd}
end
section
variable {P : Program} {σ : St} {k : Fr}
end
attribute [simp] Bp AE At.isO
end Go.Vm
namespace Go.Vm
open Go.RowKit
section
variable {P : Program} {σ : St} {k : Fr}
end
end Go.Vm
namespace Go.Vm
open Go.RowKit
section
variable {P : Program} {σ : St} {k : Fr}
theorem cR {A : Kh} {o : OpI} {l : zQ} {c : Call} {f : FuncId} {d : Nat} {own : Bool} {rows res : List (List D)} (hs : X6 P f own rows res) (h : @EI P (σ.put d (ya res)) A l k) (hop : o.o.op = .call c := by exact rfl) (hc : c.callee = .value (.func f) := by exact rfl) (hg : o.o.guard = none := by exact rfl) (hd : o.o.dst = some d := by exact rfl)
  (hrows : (Y6 P σ c.args.toList c.argTypes.toList).2 = some rows := by simp) (hargs : (Y6 P σ c.args.toList c.argTypes.toList).1 := by simp) (hst : YI P σ c.args.toList c.argTypes.toList = true ∨ Jz own res := by simp) : @SI P σ A o l k :=
 Rx hop hc hg hd hs hrows hargs hst h
theorem cC {b : Bool} {x y : zg} (c : Bool) (ht : qi σ → c = true → @WI P σ x k) (hf : qi σ → c = false → @WI P σ y k) (hc : c = b := by simp) : @CI P b σ x y k := Pr hc ht hf
end
section
variable {P : Program} {σ : St} {k : Fr}
end
@[simp] abbrev eI (t : Nat) (n : Int) : Nat × V × List Ob := (t, .one (.d (.int .i64 n)), [])
@[simp] abbrev eB (t : Nat) (b : Bool) : Nat × V × List Ob := (t, .one (.d (.bool b)), [])
@[simp] abbrev eL {α : Type} (t s : Nat) (l : List α) (f : α → List D) : Nat × V × List Ob := (t, .one (.d (.sl s (l.map f))), [])
@[simp] abbrev eP (t u c : Nat) : Nat × V × List Ob := (t, .one (.bptr u c), [])
@[simp] abbrev eG (t : Nat) (xs : List At) : Nat × V × List Ob := (t, .agg xs, [])
@[simp] abbrev eX (t : Nat) (xs : List At) : Nat × V × List Ob := (t, .one (.bptr t 0), [.box xs])
end Go.Vm
namespace Go.Vm
open Go.RowKit
structure Me {α : Type} (x y : α) : Prop where
 h : x = y
structure Bx (p : Prop) : Prop where
 h : p
theorem me {α : Type} {x y : α} (h : x = y) : Me x y := ⟨h⟩
theorem ms {α β : Type} {x y y' : α} {l r : β} (f : Me x y) (e : Me l r) (h : l = r → y = y' := by intro e; simp only [e]; exact rfl) : Me x y' := ⟨f.h.trans (h e.h)⟩
theorem an {p q : Prop} (h : p) (k : q) : p ∧ q := ⟨h, k⟩
theorem ix {α : Type} {v : Nat} {l : List α} (h : decide ((v : Int) < (l.length : Int)) = true) : v < l.length := by simpa using h
theorem ml {α : Type} {q : Prop} (l : List α) (m : q) (h : q → l.length ≤ 9223372036854775807 := by intro m; simpa using m) : l.length ≤ 9223372036854775807 := h m
theorem wr (n : Nat) (h : (n : Int) + 1 ≤ 9223372036854775807 := by first | omega | (simp only [decide_eq_true_eq, decide_eq_false_iff_not, beq_iff_eq, beq_eq_false_iff_ne, bne_iff_ne, ne_eq, Bool.or_eq_false_iff, Bool.or_eq_true, Bool.and_eq_true, Bool.not_eq_true', Bool.not_eq_false'] at *; omega)) : IntKind.i64.wrap ((n : Int) + 1) = (n : Int) + 1 := ZT (by omega) (by omega)
section
variable {P : Program} {σ : St} {k : Fr}
theorem so {f : FuncId} {fn : Func} {n : Nat} {own : Bool} {args res : List (List D)} {p : Prop} (hf : P.funcs[f]? = some fn) (hn : fn.ntmps = n) (h : p) {c : Code} (hb : fn.body = some c := by exact rfl) (hok : Ts P f = true := by kernel_rfl)
  (kk : Bx p → @WI P (xa n args) ⟨c⟩ (.fin (I7 P fn own res)) := by (intro z; simp; (repeat (with_reducible refine Go.Mo.sd ?_)); exact z.h)) : X6 P f own args res := Ef hf hb hok (by rw [hn]; exact kk ⟨h⟩)
theorem soD {f : FuncId} {fn : Func} {n : Nat} {args res : List (List D)} {p : Prop} (hf : P.funcs[f]? = some fn) (hn : fn.ntmps = n) (h : p) {c : Code} (hb : fn.body = some c := by exact rfl) (hok : Ts P f = true := by kernel_rfl)
  (kk : Bx p → @WI P (xa n args) ⟨c⟩ (.fin (F0 P fn res)) := by (intro z; simp; (repeat (with_reducible refine Go.Mo.sd ?_)); exact z.h)) : Xz P f args res := FV hf hb hok (by rw [hn]; exact kk ⟨h⟩)
theorem cF {α : Type} {u y z : α} {b c : Bool} {xc yc : zg} {p q : Prop} (f : Me u (bif c then y else z)) (ht : qi σ → c = true → Me u y → p) (hf : qi σ → c = false → Me u z → q) (hc : c = b := by simp) (kt : Bx p → @WI P σ xc k := by (intro z; simp; (repeat (with_reducible refine Go.Mo.sd ?_)); exact z.h)) (kf : Bx q → @WI P σ yc k := by (intro z; simp; (repeat (with_reducible refine Go.Mo.sd ?_)); exact z.h)) : @CI P b σ xc yc k :=
 Pr hc (fun s h => kt ⟨(ht s h ⟨f.h.trans (by rw [h]; rfl)⟩)⟩) (fun s h => kf ⟨(hf s h ⟨f.h.trans (by rw [h]; rfl)⟩)⟩)
theorem cFt {α : Type} {u y z : α} {b c : Bool} {xc yc : zg} {p : Prop} (f : Me u (bif c then y else z)) (ht : qi σ → c = true → Me u y → p) (hf : qi σ → c = false → Me u z → @WI P σ yc k) (hc : c = b := by simp) (kt : Bx p → @WI P σ xc k := by (intro z; simp; (repeat (with_reducible refine Go.Mo.sd ?_)); exact z.h)) : @CI P b σ xc yc k :=
 Pr hc (fun s h => kt ⟨(ht s h ⟨f.h.trans (by rw [h]; rfl)⟩)⟩) (fun s h => (hf s h ⟨f.h.trans (by rw [h]; rfl)⟩))
theorem cFf {α : Type} {u y z : α} {b c : Bool} {xc yc : zg} {q : Prop} (f : Me u (bif c then y else z)) (ht : qi σ → c = true → Me u y → @WI P σ xc k) (hf : qi σ → c = false → Me u z → q) (hc : c = b := by simp) (kf : Bx q → @WI P σ yc k := by (intro z; simp; (repeat (with_reducible refine Go.Mo.sd ?_)); exact z.h)) : @CI P b σ xc yc k :=
 Pr hc (fun s h => (ht s h ⟨f.h.trans (by rw [h]; rfl)⟩)) (fun s h => kf ⟨(hf s h ⟨f.h.trans (by rw [h]; rfl)⟩)⟩)
theorem cFo {α : Type} {u y z : α} {b c : Bool} {xc yc : zg} (f : Me u (bif c then y else z)) (ht : qi σ → c = true → Me u y → @WI P σ xc k) (hf : qi σ → c = false → Me u z → @WI P σ yc k) (hc : c = b := by simp) : @CI P b σ xc yc k :=
 Pr hc (fun s h => (ht s h ⟨f.h.trans (by rw [h]; rfl)⟩)) (fun s h => (hf s h ⟨f.h.trans (by rw [h]; rfl)⟩))
theorem cK {α : Type} {u y z : α} {b c : Bool} {xc yc : zg} {p q : Prop} (f : Me u (bif c then y else z)) (ht : qi σ → c = true → Me u y → p) (hf : qi σ → c = false → Me u z → q) (hc : c = b := by first | (simp [G]; done) | grind) (kt : Bx p → @WI P σ xc k := by (intro z; simp [G, Go.Vm.ZD]; (repeat (with_reducible refine Go.Mo.sdg ?_)); exact z.h)) (kf : Bx q → @WI P σ yc k := by (intro z; simp [G, Go.Vm.ZD]; (repeat (with_reducible refine Go.Mo.sdg ?_)); exact z.h)) : @CI P b σ xc yc k :=
 Pr hc (fun s h => kt ⟨(ht s h ⟨f.h.trans (by rw [h]; rfl)⟩)⟩) (fun s h => kf ⟨(hf s h ⟨f.h.trans (by rw [h]; rfl)⟩)⟩)
theorem cKo {α : Type} {u y z : α} {b c : Bool} {xc yc : zg} (f : Me u (bif c then y else z)) (ht : qi σ → c = true → Me u y → @WI P σ xc k) (hf : qi σ → c = false → Me u z → @WI P σ yc k) (hc : c = b := by first | (simp [G]; done) | grind) : @CI P b σ xc yc k :=
 Pr hc (fun s h => (ht s h ⟨f.h.trans (by rw [h]; rfl)⟩)) (fun s h => (hf s h ⟨f.h.trans (by rw [h]; rfl)⟩))
theorem cRg {A : Kh} {o : OpI} {l : zQ} {c : Call} {f : FuncId} {d : Nat} {own : Bool} {rows res : List (List D)} {p : Prop} (hs : X6 P f own rows res) (h : p) (hop : o.o.op = .call c := by exact rfl) (hc : c.callee = .value (.func f) := by exact rfl) (hg : o.o.guard = none := by exact rfl) (hd : o.o.dst = some d := by exact rfl) (hrows : (Y6 P σ c.args.toList c.argTypes.toList).2 = some rows := by simp) (hargs : (Y6 P σ c.args.toList c.argTypes.toList).1 := by simp) (hst : YI P σ c.args.toList c.argTypes.toList = true ∨ Jz own res := by simp) (kk : Bx p → @EI P (σ.put d (ya res)) A l k := by (intro z; simp [G, Go.Vm.ZD]; (repeat (with_reducible refine Go.Mo.sdg ?_)); exact z.h)) : @SI P σ A o l k := Rx hop hc hg hd hs hrows hargs hst (kk ⟨h⟩)
theorem cRs {A : Kh} {o : OpI} {l : zQ} {c : Call} {f : FuncId} {d : Nat} {own : Bool} {rows res : List (List D)} {p : Prop} (hs : X6 P f own rows res) (h : p) (hop : o.o.op = .call c := by exact rfl) (hc : c.callee = .value (.func f) := by exact rfl) (hg : o.o.guard = none := by exact rfl) (hd : o.o.dst = some d := by exact rfl) (hrows : (Y6 P σ c.args.toList c.argTypes.toList).2 = some rows := by simp) (hargs : (Y6 P σ c.args.toList c.argTypes.toList).1 := by simp) (hst : YI P σ c.args.toList c.argTypes.toList = true ∨ Jz own res := by simp) (kk : Bx p → @EI P (σ.put d (ya res)) A l k := by (intro z; simp; (repeat (with_reducible refine Go.Mo.sd ?_)); exact z.h)) : @SI P σ A o l k := Rx hop hc hg hd hs hrows hargs hst (kk ⟨h⟩)
theorem cRf {A : Kh} {o : OpI} {l : zQ} {c : Call} {f : FuncId} {d : Nat} {own : Bool} {rows res : List (List D)} {p q : Prop} (F : q) (hs : X6 P f own rows res) (h : p) (hop : o.o.op = .call c := by exact rfl) (hc : c.callee = .value (.func f) := by exact rfl) (hg : o.o.guard = none := by exact rfl) (hd : o.o.dst = some d := by exact rfl) (hrows : (Y6 P σ c.args.toList c.argTypes.toList).2 = some rows := by simp) (hargs : (Y6 P σ c.args.toList c.argTypes.toList).1 := by simp) (hst : YI P σ c.args.toList c.argTypes.toList = true ∨ Jz own res := by simp) (kk : q → Bx p → @EI P (σ.put d (ya res)) A l k := by (intro F z; simp [F, Go.Vm.ZD]; (repeat (with_reducible refine Go.Mo.sd ?_)); exact z.h)) : @SI P σ A o l k := Rx hop hc hg hd hs hrows hargs hst (kk F ⟨h⟩)
theorem cDg {A : Kh} {o : OpI} {l : zQ} {c : Call} {f : FuncId} {d : Nat} {rows res : List (List D)} {p : Prop} (qs : List Bool) (hs : Xz P f rows res) (h : p) (hop : o.o.op = .call c := by exact rfl) (hc : c.callee = .value (.func f) := by exact rfl) (hg : o.o.guard = none := by exact rfl) (hd : o.o.dst = some d := by exact rfl) (hrows : (Y6 P σ c.args.toList c.argTypes.toList).2 = some rows := by simp) (hargs : (Y6 P σ c.args.toList c.argTypes.toList).1 := by simp) (hq : ks qs res.flatten := by simp) (hf : σ.fresh d = true := by simp) (kk : Bx p → @EI P (σ.new d (kT d res) (Z3 qs res.flatten)) A l k := by (intro z; simp [G, Go.Vm.ZD]; (repeat (with_reducible refine Go.Mo.sdg ?_)); exact z.h)) : @SI P σ A o l k := GO qs hop hc hg hd hs hrows hargs hq hf (kk ⟨h⟩)
theorem cDs {A : Kh} {o : OpI} {l : zQ} {c : Call} {f : FuncId} {d : Nat} {rows res : List (List D)} {p : Prop} (qs : List Bool) (hs : Xz P f rows res) (h : p) (hop : o.o.op = .call c := by exact rfl) (hc : c.callee = .value (.func f) := by exact rfl) (hg : o.o.guard = none := by exact rfl) (hd : o.o.dst = some d := by exact rfl) (hrows : (Y6 P σ c.args.toList c.argTypes.toList).2 = some rows := by simp) (hargs : (Y6 P σ c.args.toList c.argTypes.toList).1 := by simp) (hq : ks qs res.flatten := by simp) (hf : σ.fresh d = true := by simp) (kk : Bx p → @EI P (σ.new d (kT d res) (Z3 qs res.flatten)) A l k := by (intro z; simp; (repeat (with_reducible refine Go.Mo.sd ?_)); exact z.h)) : @SI P σ A o l k := GO qs hop hc hg hd hs hrows hargs hq hf (kk ⟨h⟩)
theorem cDf {A : Kh} {o : OpI} {l : zQ} {c : Call} {f : FuncId} {d : Nat} {rows res : List (List D)} {p q : Prop} (F : q) (qs : List Bool) (hs : Xz P f rows res) (h : p) (hop : o.o.op = .call c := by exact rfl) (hc : c.callee = .value (.func f) := by exact rfl) (hg : o.o.guard = none := by exact rfl) (hd : o.o.dst = some d := by exact rfl) (hrows : (Y6 P σ c.args.toList c.argTypes.toList).2 = some rows := by simp) (hargs : (Y6 P σ c.args.toList c.argTypes.toList).1 := by simp) (hq : ks qs res.flatten := by simp) (hf : σ.fresh d = true := by simp) (kk : q → Bx p → @EI P (σ.new d (kT d res) (Z3 qs res.flatten)) A l k := by (intro F z; simp [F, Go.Vm.ZD]; (repeat (with_reducible refine Go.Mo.sd ?_)); exact z.h)) : @SI P σ A o l k := GO qs hop hc hg hd hs hrows hargs hq hf (kk F ⟨h⟩)
theorem cGg {A : Kh} {o : OpI} {l : zQ} {c : Call} {f : FuncId} {d : Nat} {j dj : Nat} {want g own : Bool} {rows : List (List D)} {res : List D} {p : Prop} (hs : g = true → X6 P f own rows [res]) (h : p) (hop : o.o.op = .call c := by exact rfl) (hc : c.callee = .value (.func f) := by exact rfl) (hg : o.o.guard = some (j, want) := by exact rfl) (hd : o.o.dst = some d := by exact rfl) (hdj : (A.ops[j]?).bind (·.dst) = some dj := by exact rfl) (hgc : xP want (σ.get dj) = some g := by exact rfl) (hrows : (Y6 P σ c.args.toList c.argTypes.toList).2 = some rows := by first | (simp; done) | (simp [G]; done) | (simp [G]; omega) | (simp_all; done)) (hlt : dj < σ.length := by first | (simp; done) | (simp [G]; done) | (simp [G]; omega) | (simp_all; done)) (hargs : g = true → (Y6 P σ c.args.toList c.argTypes.toList).1 := by first | (simp; done) | (simp [G]; done) | (simp [G]; omega) | (simp_all; done)) (hst : YI P σ c.args.toList c.argTypes.toList = true ∨ Jz own [res] := by first | (simp; done) | (simp [G]; done) | (simp [G]; omega) | (simp_all; done)) (kk : Bx p → @EI P (σ.put d (.cnd g (ya [res]))) A l k := by (intro z; simp [G, Go.Vm.ZD]; (repeat (with_reducible refine Go.Mo.sdg ?_)); exact z.h)) : @SI P σ A o l k := DS hop hc hg hd hdj hgc hs hrows hlt hargs hst (kk ⟨h⟩)
theorem cGs {A : Kh} {o : OpI} {l : zQ} {c : Call} {f : FuncId} {d : Nat} {j dj : Nat} {want g own : Bool} {rows : List (List D)} {res : List D} {p : Prop} (hs : g = true → X6 P f own rows [res]) (h : p) (hop : o.o.op = .call c := by exact rfl) (hc : c.callee = .value (.func f) := by exact rfl) (hg : o.o.guard = some (j, want) := by exact rfl) (hd : o.o.dst = some d := by exact rfl) (hdj : (A.ops[j]?).bind (·.dst) = some dj := by exact rfl) (hgc : xP want (σ.get dj) = some g := by exact rfl) (hrows : (Y6 P σ c.args.toList c.argTypes.toList).2 = some rows := by simp) (hlt : dj < σ.length := by simp) (hargs : g = true → (Y6 P σ c.args.toList c.argTypes.toList).1 := by simp) (hst : YI P σ c.args.toList c.argTypes.toList = true ∨ Jz own [res] := by simp) (kk : Bx p → @EI P (σ.put d (.cnd g (ya [res]))) A l k := by (intro z; simp; (repeat (with_reducible refine Go.Mo.sd ?_)); exact z.h)) : @SI P σ A o l k := DS hop hc hg hd hdj hgc hs hrows hlt hargs hst (kk ⟨h⟩)
theorem dIo {id : Nat} {l : List Oper} {br : Oper → Bool} (hm : P.follows .mixedOrders = true) (h : @EI P σ ⟨⟨l⟩, fun _ => false⟩ ⟨l⟩ k) (hdr : OM ⟨l⟩ (fun i => i) (fun _ => false) = true := by kernel_rfl) (hcl : zC ⟨l⟩ (fun i => i) σ = true := by kernel_rfl) : @DI P id σ ⟨⟨l⟩, br⟩ k := CZ hm hdr hcl h
theorem dIs {id : Nat} {l : List Oper} {br : Oper → Bool} {p : Prop} (hm : P.follows .mixedOrders = true) (h : p) (hdr : OM ⟨l⟩ (fun i => i) (fun _ => false) = true := by kernel_rfl) (hcl : zC ⟨l⟩ (fun i => i) σ = true := by kernel_rfl) (kk : Bx p → @EI P σ ⟨⟨l⟩, fun _ => false⟩ ⟨l⟩ k := by (intro z; simp; (repeat (with_reducible refine Go.Mo.sd ?_)); exact z.h)) : @DI P id σ ⟨⟨l⟩, br⟩ k := CZ hm hdr hcl (kk ⟨h⟩)
theorem eIs {A : Kh} {o : OpI} {l : zQ} {d : Nat} {p : Prop}  (h : p) (hp : IJ o.o = true := by exact rfl) (hg : o.o.guard = none := by exact rfl) (hd : o.o.dst = some d := by exact rfl) (kk : Bx p → (evS P σ o.o d).1 ∧ @EI P (evS P σ o.o d).2 A l k := by (intro z; simp; (repeat (with_reducible refine Go.Mo.sd ?_)); exact z.h)) : @SI P σ A o l k := evI hp hg hd (kk ⟨h⟩)
theorem sGo {A : Kh} {o : OpI} {l : zQ} {j dj d : Nat} {want g : Bool}  (h : @EI P (σ.put d (.cnd false .any)) A l k) (hg : o.o.guard = some (j, want) := by exact rfl) (hd : o.o.dst = some d := by exact rfl) (hdj : (A.ops[j]?).bind (·.dst) = some dj := by exact rfl) (hgc : xP want (σ.get dj) = some g := by exact rfl) (hlt : dj < σ.length := by simp) (hgf : g = false := by simp [G]) : @SI P σ A o l k := CL hg hd hdj hgc hlt hgf h
theorem sGg {A : Kh} {o : OpI} {l : zQ} {j dj d : Nat} {want g : Bool} {p : Prop}  (h : p) (hg : o.o.guard = some (j, want) := by exact rfl) (hd : o.o.dst = some d := by exact rfl) (hdj : (A.ops[j]?).bind (·.dst) = some dj := by exact rfl) (hgc : xP want (σ.get dj) = some g := by exact rfl) (hlt : dj < σ.length := by simp) (hgf : g = false := by simp [G]) (kk : Bx p → @EI P (σ.put d (.cnd false .any)) A l k := by (intro z; simp [G, Go.Vm.ZD]; (repeat (with_reducible refine Go.Mo.sdg ?_)); exact z.h)) : @SI P σ A o l k := CL hg hd hdj hgc hlt hgf (kk ⟨h⟩)
theorem gIf {A : Kh} {o : OpI} {l : zQ} {j dj d : Nat} {want g : Bool} {r1 r2 : Prop} {q : Prop} (ht : r1 → ((evV P σ o.o.op o.o.type).1 ∧ gOf (evV P σ o.o.op o.o.type).2 = true ∧ (unc (evV P σ o.o.op o.o.type).2).flat = true) ∧ @EI P (σ.put d (.cnd true (unc (evV P σ o.o.op o.o.type).2))) A l k) (hf : r2 → q) (hop : La o.o.op = false := by exact rfl) (hg : o.o.guard = some (j, want) := by exact rfl) (hd : o.o.dst = some d := by exact rfl) (hdj : (A.ops[j]?).bind (·.dst) = some dj := by exact rfl) (hgc : xP want (σ.get dj) = some g := by exact rfl) (hlt : dj < σ.length := by simp) (k1 : g = true → r1 := by (intro h; (try simp only [beq_true, beq_false, Bool.not_eq_true', Bool.not_eq_false', Bool.true_and, Bool.and_true] at h); exact h)) (k2 : g = false → r2 := by (intro h; (try simp only [beq_true, beq_false, Bool.not_eq_true', Bool.not_eq_false', Bool.true_and, Bool.and_true] at h); exact h)) (kf : r2 → Bx q → @EI P (σ.put d (.cnd false .any)) A l k := by (intro G z; simp [G, Go.Vm.ZD]; (repeat (with_reducible refine Go.Mo.sdg ?_)); exact z.h)) : @SI P σ A o l k := GU hop hg hd hdj hgc hlt (fun h => ht (k1 h)) (fun h => (fun G => kf G ⟨hf G⟩) (k2 h))
theorem gJf {A : Kh} {o : OpI} {l : zQ} {j dj d : Nat} {want g : Bool} {r1 r2 s : Prop} {q : Prop} (G : s) (ht : s ∧ r1 → ((evV P σ o.o.op o.o.type).1 ∧ gOf (evV P σ o.o.op o.o.type).2 = true ∧ (unc (evV P σ o.o.op o.o.type).2).flat = true) ∧ @EI P (σ.put d (.cnd true (unc (evV P σ o.o.op o.o.type).2))) A l k) (hf : s ∧ r2 → q) (hop : La o.o.op = false := by exact rfl) (hg : o.o.guard = some (j, want) := by exact rfl) (hd : o.o.dst = some d := by exact rfl) (hdj : (A.ops[j]?).bind (·.dst) = some dj := by exact rfl) (hgc : xP want (σ.get dj) = some g := by exact rfl) (hlt : dj < σ.length := by simp) (k1 : g = true → r1 := by (intro h; (try simp only [beq_true, beq_false, Bool.not_eq_true', Bool.not_eq_false', Bool.true_and, Bool.and_true] at h); exact h)) (k2 : g = false → r2 := by (intro h; (try simp only [beq_true, beq_false, Bool.not_eq_true', Bool.not_eq_false', Bool.true_and, Bool.and_true] at h); exact h)) (kf : s ∧ r2 → Bx q → @EI P (σ.put d (.cnd false .any)) A l k := by (intro G z; simp [G, Go.Vm.ZD]; (repeat (with_reducible refine Go.Mo.sdg ?_)); exact z.h)) : @SI P σ A o l k := GU hop hg hd hdj hgc hlt (fun h => ht ⟨G, k1 h⟩) (fun h => (fun G => kf G ⟨hf G⟩) ⟨G, k2 h⟩)
theorem gK {A : Kh} {o : OpI} {l : zQ} {j dj d : Nat} {want g : Bool} {r1 : Prop} (ht : r1 → ((evV P σ o.o.op o.o.type).1 ∧ gOf (evV P σ o.o.op o.o.type).2 = true ∧ (unc (evV P σ o.o.op o.o.type).2).flat = true) ∧ @EI P (σ.put d (.cnd true (unc (evV P σ o.o.op o.o.type).2))) A l k) (hop : La o.o.op = false := by exact rfl) (hg : o.o.guard = some (j, want) := by exact rfl) (hd : o.o.dst = some d := by exact rfl) (hdj : (A.ops[j]?).bind (·.dst) = some dj := by exact rfl) (hgc : xP want (σ.get dj) = some g := by exact rfl) (hlt : dj < σ.length := by simp) (k1 : g = true → r1 := by (intro h; (try simp only [beq_true, beq_false, Bool.not_eq_true', Bool.not_eq_false', Bool.true_and, Bool.and_true] at h); exact h)) (k2 : g = false → False := by first | (intro g0; simp at g0; done) | (intro g0; simp [G] at g0; done)) : @SI P σ A o l k := GU hop hg hd hdj hgc hlt (fun h => ht (k1 h)) (fun h => (k2 h).elim)
theorem rt {α : Type} {x y : α} {fn : Func} {res : List (List D)} (rv : List ResultVar) (f : Me x y) (hf : fn.results = rv.toArray := by exact rfl) (h : x = y → (Ql P σ rv).1 ∧ kQ σ (Ql P σ rv).2 = some res := by (intro f; simp [f])) : I7 P fn false res .ret σ := Ce hf (h f.h)
theorem rtg {α : Type} {x y : α} {fn : Func} {res : List (List D)} (rv : List ResultVar) (f : Me x y) (hf : fn.results = rv.toArray := by exact rfl) (h : x = y → (Ql P σ rv).1 ∧ kQ σ (Ql P σ rv).2 = some res := by (intro f; simp [f, G])) : I7 P fn false res .ret σ := Ce hf (h f.h)
theorem rtO {α : Type} {x y : α} {fn : Func} {res : List (List D)} (rv : List ResultVar) (f : Me x y) (hf : fn.results = rv.toArray := by exact rfl) (h : x = y → (Ql P σ rv).1 ∧ jG σ (Ql P σ rv).2 = some res ∧ (YF (Ql P σ rv).2.flatten).Nodup := by (intro f; simp [f])) : I7 P fn true res .ret σ := BJ hf (h f.h)
theorem rtD {α : Type} {x y : α} {fn : Func} {res : List (List D)} (rv : List ResultVar) (f : Me x y) (hf : fn.results = rv.toArray := by exact rfl) (h : x = y → (Ql P σ rv).1 ∧ JV σ (Ql P σ rv).2 = some res ∧ Qf σ (Ql P σ rv).2 ∧ (YF (Ql P σ rv).2.flatten).Nodup := by (intro f; simp [f])) : F0 P fn res .ret σ := B8 hf (h f.h)
theorem Dn {α : Type} {x y : α} {fn : Func} {res : List (List D)} (rv : List ResultVar) (f : Me x y) (hf : fn.results = rv.toArray := by exact rfl) (h : x = y → (Ql P σ rv).1 ∧ JV σ (Ql P σ rv).2 = some res ∧ Qf σ (Ql P σ rv).2 ∧ (YF (Ql P σ rv).2.flatten).Nodup := by (intro f; simp [f, G])) : F0 P fn res .ret σ := B8 hf (h f.h)
end
class NxI where
 p : St → Prop
def Nx (σ : St) [n : NxI] : Prop := n.p σ
section
variable {P : Program} {σ : St} {k : Fr}
theorem IC {c : zg} {n n' : St → Prop} (hn : ∀ σ', n σ' → n' σ') (h : @WI P σ c (.nxt n k)) : AWP P c.c (Fr.run P (.nxt n' k)) σ :=
 Hr (fun e σ' hq => by cases e <;> first | exact hn _ hq | exact hq) (jU h)
abbrev Q1 {R : Type} {A0 : Type} (L : Nat → A0 → R) (S : A0 → St) (I : Nat → A0 → Prop) (t : R) (b : Nat) : NxI := ⟨fun τ => ∃ a0, Me t (L b a0) ∧ (1 ≤ b ∧ I b a0) ∧ Wk τ (S a0)⟩
theorem nx1 {R : Type} {A0 : Type} {L : Nat → A0 → R} {S : A0 → St} {I : Nat → A0 → Prop} {t : R} {b : Nat} {a0 : A0} (e : Me t (L b a0)) (hI : 1 ≤ b ∧ I b a0 := by ((try dsimp only); first | omega | (simp at *; omega))) (hw : Wk σ (S a0) := by exact Yi (by simp)) : @Nx σ (Q1 L S I t b) := ⟨a0, e, hI, hw⟩
theorem ny1 {R : Type} {A0 : Type} {L : Nat → A0 → R} {S : A0 → St} {I : Nat → A0 → Prop} {t : R} {b : Nat} {a0 : A0} {q : Prop} (F : q) (e : Me t (L b a0)) (hI : 1 ≤ b ∧ I b a0 := by ((try dsimp only); first | omega | (simp at *; omega))) (kw : q → Wk σ (S a0) := by (intro F; exact Yi (by simp [F]))) : @Nx σ (Q1 L S I t b) := ⟨a0, e, hI, kw F⟩
theorem lp1 {c : zg} {R : Type} {A0 : Type} {L B : Nat → A0 → R} (hL : ∀ (a0 : A0) (n : Nat), L (Nat.succ n) a0 = B n a0) (S : A0 → St) (I : Nat → A0 → Prop) (n0 : Nat) (b0 : A0) {p : Nat → A0 → Prop}
  (round : ∀ n (a0 : A0), Me (L n0 b0) (B n a0) → 1 ≤ n + 1 ∧ I (n + 1) a0 → p n a0) (hI : 1 ≤ n0 ∧ I n0 b0 := by first | omega | (dsimp only; omega) | simp) (h0 : Wk σ (S b0) := by exact Yi (by simp)) (kk : ∀ n (a0 : A0), Bx (p n a0) → @WI P (S a0) c (.nxt (fun σ' => @Nx σ' (Q1 L S I (L n0 b0) n)) k) := by (intro n_ a0_ z; simp; (repeat (with_reducible refine Go.Mo.sd ?_)); exact z.h)) : @TL P σ c k := by
 refine Wu (ι := { s : Nat × A0 // Me (L n0 b0) (L s.1 s.2) ∧ (1 ≤ s.1 ∧ I s.1 s.2) }) (fun s => S s.1.2) (fun s => s.1.1) ⟨(n0, b0), ⟨rfl⟩, hI⟩ h0 ?_
 rintro ⟨⟨n1, a0⟩, e, j⟩
 obtain ⟨n, rfl⟩ : ∃ q, n1 = q + 1 := ⟨n1 - 1, by have := j.1; (try dsimp only at this); omega⟩
 refine IC (fun σ' hn => ?_) (kk n a0 ⟨round n a0 ⟨by have := e.h; (try dsimp only at this); rw [this, hL]⟩ j⟩)
 obtain ⟨c0, e2, j2, w2⟩ := hn
 exact ⟨⟨(n, c0), e2, j2⟩, Nat.lt_succ_self n, w2⟩
abbrev Q2 {R : Type} {A0 A1 : Type} (L : Nat → A0 → A1 → R) (S : A0 → A1 → St) (I : Nat → A0 → A1 → Prop) (t : R) (b : Nat) : NxI := ⟨fun τ => ∃ a0 a1, Me t (L b a0 a1) ∧ (1 ≤ b ∧ I b a0 a1) ∧ Wk τ (S a0 a1)⟩
theorem nx2 {R : Type} {A0 A1 : Type} {L : Nat → A0 → A1 → R} {S : A0 → A1 → St} {I : Nat → A0 → A1 → Prop} {t : R} {b : Nat} {a0 : A0} {a1 : A1} (e : Me t (L b a0 a1)) (hI : 1 ≤ b ∧ I b a0 a1 := by ((try dsimp only); first | omega | (simp at *; omega))) (hw : Wk σ (S a0 a1) := by exact Yi (by simp)) : @Nx σ (Q2 L S I t b) := ⟨a0, a1, e, hI, hw⟩
theorem ny2 {R : Type} {A0 A1 : Type} {L : Nat → A0 → A1 → R} {S : A0 → A1 → St} {I : Nat → A0 → A1 → Prop} {t : R} {b : Nat} {a0 : A0} {a1 : A1} {q : Prop} (F : q) (e : Me t (L b a0 a1)) (hI : 1 ≤ b ∧ I b a0 a1 := by ((try dsimp only); first | omega | (simp at *; omega))) (kw : q → Wk σ (S a0 a1) := by (intro F; exact Yi (by simp [F]))) : @Nx σ (Q2 L S I t b) := ⟨a0, a1, e, hI, kw F⟩
theorem lp2 {c : zg} {R : Type} {A0 A1 : Type} {L B : Nat → A0 → A1 → R} (hL : ∀ (a0 : A0) (a1 : A1) (n : Nat), L (Nat.succ n) a0 a1 = B n a0 a1) (S : A0 → A1 → St) (I : Nat → A0 → A1 → Prop) (n0 : Nat) (b0 : A0) (b1 : A1) {p : Nat → A0 → A1 → Prop}
  (round : ∀ n (a0 : A0) (a1 : A1), Me (L n0 b0 b1) (B n a0 a1) → 1 ≤ n + 1 ∧ I (n + 1) a0 a1 → p n a0 a1) (hI : 1 ≤ n0 ∧ I n0 b0 b1 := by first | omega | (dsimp only; omega) | simp) (h0 : Wk σ (S b0 b1) := by exact Yi (by simp)) (kk : ∀ n (a0 : A0) (a1 : A1), Bx (p n a0 a1) → @WI P (S a0 a1) c (.nxt (fun σ' => @Nx σ' (Q2 L S I (L n0 b0 b1) n)) k) := by (intro n_ a0_ a1_ z; simp; (repeat (with_reducible refine Go.Mo.sd ?_)); exact z.h)) : @TL P σ c k := by
 refine Wu (ι := { s : Nat × A0 × A1 // Me (L n0 b0 b1) (L s.1 s.2.1 s.2.2) ∧ (1 ≤ s.1 ∧ I s.1 s.2.1 s.2.2) }) (fun s => S s.1.2.1 s.1.2.2) (fun s => s.1.1) ⟨(n0, b0, b1), ⟨rfl⟩, hI⟩ h0 ?_
 rintro ⟨⟨n1, a0, a1⟩, e, j⟩
 obtain ⟨n, rfl⟩ : ∃ q, n1 = q + 1 := ⟨n1 - 1, by have := j.1; (try dsimp only at this); omega⟩
 refine IC (fun σ' hn => ?_) (kk n a0 a1 ⟨round n a0 a1 ⟨by have := e.h; (try dsimp only at this); rw [this, hL]⟩ j⟩)
 obtain ⟨c0, c1, e2, j2, w2⟩ := hn
 exact ⟨⟨(n, c0, c1), e2, j2⟩, Nat.lt_succ_self n, w2⟩
abbrev Q3 {R : Type} {A0 A1 A2 : Type} (L : Nat → A0 → A1 → A2 → R) (S : A0 → A1 → A2 → St) (I : Nat → A0 → A1 → A2 → Prop) (t : R) (b : Nat) : NxI := ⟨fun τ => ∃ a0 a1 a2, Me t (L b a0 a1 a2) ∧ (1 ≤ b ∧ I b a0 a1 a2) ∧ Wk τ (S a0 a1 a2)⟩
theorem nx3 {R : Type} {A0 A1 A2 : Type} {L : Nat → A0 → A1 → A2 → R} {S : A0 → A1 → A2 → St} {I : Nat → A0 → A1 → A2 → Prop} {t : R} {b : Nat} {a0 : A0} {a1 : A1} {a2 : A2} (e : Me t (L b a0 a1 a2)) (hI : 1 ≤ b ∧ I b a0 a1 a2 := by ((try dsimp only); first | omega | (simp at *; omega))) (hw : Wk σ (S a0 a1 a2) := by exact Yi (by simp)) : @Nx σ (Q3 L S I t b) := ⟨a0, a1, a2, e, hI, hw⟩
theorem lp3 {c : zg} {R : Type} {A0 A1 A2 : Type} {L B : Nat → A0 → A1 → A2 → R} (hL : ∀ (a0 : A0) (a1 : A1) (a2 : A2) (n : Nat), L (Nat.succ n) a0 a1 a2 = B n a0 a1 a2) (S : A0 → A1 → A2 → St) (I : Nat → A0 → A1 → A2 → Prop) (n0 : Nat) (b0 : A0) (b1 : A1) (b2 : A2) {p : Nat → A0 → A1 → A2 → Prop}
  (round : ∀ n (a0 : A0) (a1 : A1) (a2 : A2), Me (L n0 b0 b1 b2) (B n a0 a1 a2) → 1 ≤ n + 1 ∧ I (n + 1) a0 a1 a2 → p n a0 a1 a2) (hI : 1 ≤ n0 ∧ I n0 b0 b1 b2 := by first | omega | (dsimp only; omega) | simp) (h0 : Wk σ (S b0 b1 b2) := by exact Yi (by simp)) (kk : ∀ n (a0 : A0) (a1 : A1) (a2 : A2), Bx (p n a0 a1 a2) → @WI P (S a0 a1 a2) c (.nxt (fun σ' => @Nx σ' (Q3 L S I (L n0 b0 b1 b2) n)) k) := by (intro n_ a0_ a1_ a2_ z; simp; (repeat (with_reducible refine Go.Mo.sd ?_)); exact z.h)) : @TL P σ c k := by
 refine Wu (ι := { s : Nat × A0 × A1 × A2 // Me (L n0 b0 b1 b2) (L s.1 s.2.1 s.2.2.1 s.2.2.2) ∧ (1 ≤ s.1 ∧ I s.1 s.2.1 s.2.2.1 s.2.2.2) }) (fun s => S s.1.2.1 s.1.2.2.1 s.1.2.2.2) (fun s => s.1.1) ⟨(n0, b0, b1, b2), ⟨rfl⟩, hI⟩ h0 ?_
 rintro ⟨⟨n1, a0, a1, a2⟩, e, j⟩
 obtain ⟨n, rfl⟩ : ∃ q, n1 = q + 1 := ⟨n1 - 1, by have := j.1; (try dsimp only at this); omega⟩
 refine IC (fun σ' hn => ?_) (kk n a0 a1 a2 ⟨round n a0 a1 a2 ⟨by have := e.h; (try dsimp only at this); rw [this, hL]⟩ j⟩)
 obtain ⟨c0, c1, c2, e2, j2, w2⟩ := hn
 exact ⟨⟨(n, c0, c1, c2), e2, j2⟩, Nat.lt_succ_self n, w2⟩
abbrev Q4 {R : Type} {A0 A1 A2 A3 : Type} (L : Nat → A0 → A1 → A2 → A3 → R) (S : A0 → A1 → A2 → A3 → St) (I : Nat → A0 → A1 → A2 → A3 → Prop) (t : R) (b : Nat) : NxI := ⟨fun τ => ∃ a0 a1 a2 a3, Me t (L b a0 a1 a2 a3) ∧ (1 ≤ b ∧ I b a0 a1 a2 a3) ∧ Wk τ (S a0 a1 a2 a3)⟩
theorem nx4 {R : Type} {A0 A1 A2 A3 : Type} {L : Nat → A0 → A1 → A2 → A3 → R} {S : A0 → A1 → A2 → A3 → St} {I : Nat → A0 → A1 → A2 → A3 → Prop} {t : R} {b : Nat} {a0 : A0} {a1 : A1} {a2 : A2} {a3 : A3} (e : Me t (L b a0 a1 a2 a3)) (hI : 1 ≤ b ∧ I b a0 a1 a2 a3 := by ((try dsimp only); first | omega | (simp at *; omega))) (hw : Wk σ (S a0 a1 a2 a3) := by exact Yi (by simp)) : @Nx σ (Q4 L S I t b) := ⟨a0, a1, a2, a3, e, hI, hw⟩
theorem lp4 {c : zg} {R : Type} {A0 A1 A2 A3 : Type} {L B : Nat → A0 → A1 → A2 → A3 → R} (hL : ∀ (a0 : A0) (a1 : A1) (a2 : A2) (a3 : A3) (n : Nat), L (Nat.succ n) a0 a1 a2 a3 = B n a0 a1 a2 a3) (S : A0 → A1 → A2 → A3 → St) (I : Nat → A0 → A1 → A2 → A3 → Prop) (n0 : Nat) (b0 : A0) (b1 : A1) (b2 : A2) (b3 : A3) {p : Nat → A0 → A1 → A2 → A3 → Prop}
  (round : ∀ n (a0 : A0) (a1 : A1) (a2 : A2) (a3 : A3), Me (L n0 b0 b1 b2 b3) (B n a0 a1 a2 a3) → 1 ≤ n + 1 ∧ I (n + 1) a0 a1 a2 a3 → p n a0 a1 a2 a3) (hI : 1 ≤ n0 ∧ I n0 b0 b1 b2 b3 := by first | omega | (dsimp only; omega) | simp) (h0 : Wk σ (S b0 b1 b2 b3) := by exact Yi (by simp)) (kk : ∀ n (a0 : A0) (a1 : A1) (a2 : A2) (a3 : A3), Bx (p n a0 a1 a2 a3) → @WI P (S a0 a1 a2 a3) c (.nxt (fun σ' => @Nx σ' (Q4 L S I (L n0 b0 b1 b2 b3) n)) k) := by (intro n_ a0_ a1_ a2_ a3_ z; simp; (repeat (with_reducible refine Go.Mo.sd ?_)); exact z.h)) : @TL P σ c k := by
 refine Wu (ι := { s : Nat × A0 × A1 × A2 × A3 // Me (L n0 b0 b1 b2 b3) (L s.1 s.2.1 s.2.2.1 s.2.2.2.1 s.2.2.2.2) ∧ (1 ≤ s.1 ∧ I s.1 s.2.1 s.2.2.1 s.2.2.2.1 s.2.2.2.2) }) (fun s => S s.1.2.1 s.1.2.2.1 s.1.2.2.2.1 s.1.2.2.2.2) (fun s => s.1.1) ⟨(n0, b0, b1, b2, b3), ⟨rfl⟩, hI⟩ h0 ?_
 rintro ⟨⟨n1, a0, a1, a2, a3⟩, e, j⟩
 obtain ⟨n, rfl⟩ : ∃ q, n1 = q + 1 := ⟨n1 - 1, by have := j.1; (try dsimp only at this); omega⟩
 refine IC (fun σ' hn => ?_) (kk n a0 a1 a2 a3 ⟨round n a0 a1 a2 a3 ⟨by have := e.h; (try dsimp only at this); rw [this, hL]⟩ j⟩)
 obtain ⟨c0, c1, c2, c3, e2, j2, w2⟩ := hn
 exact ⟨⟨(n, c0, c1, c2, c3), e2, j2⟩, Nat.lt_succ_self n, w2⟩
end
@[simp] abbrev rI (x : Int) : List D := [.int .i64 x]
@[simp] abbrev rB (b : Bool) : List D := [.bool b]
@[simp] abbrev rS (s : ByteArray) : List D := [.str s]
@[simp] abbrev rL {α : Type} (n : Nat) (f : α → List D) (l : List α) : List D := [.sl n (l.map f)]
end Go.Vm
