/- An abstract machine over the model of Go, by value, and that it is sound: part Ve. No condition. -/
import Derived.Test.YtdbglcndfmdlfaaGreatVd
namespace Go.Vm
open Go.RowKit
section
variable {P : Program} {σ : St} {k : Fr}
theorem awp_join {c : Code} {Q : Exit → St → Prop} {S : St} (h : AWP P c (thenA (fun σ' => Wk σ' S) Q) σ) (hS : Q .normal S) : AWP P c Q σ := by
 intro T0 B a w r
 refine wp_mono (h T0 B a w r) ?_
 rintro e a' w' ⟨σ', hq, hr, hb⟩
 cases e with
 | normal => exact ⟨S, hS, hq T0 B a' w' hr, hb⟩
 | exit id => exact ⟨σ', hq, hr, hb⟩
 | goto l => exact ⟨σ', hq, hr, hb⟩
 | ret => exact ⟨σ', hq, hr, hb⟩
 | panic ch => exact ⟨σ', hq, hr, hb⟩
 | outgrown => exact ⟨σ', hq, hr, hb⟩
def Joins (S : St) (σ : St) : Prop := Wk σ S
theorem joins {S : St} (h : Wk σ S) : Joins S σ := h
theorem joinI {b : Bool} {x y : CodeI} (S : St) (ht : b = true → @WI P σ x (.nxt (Joins S) k)) (hf : b = false → @WI P σ y (.nxt (Joins S) k)) (h : @LI P .normal S k) : @CI P b σ x y k :=
 ⟨fun hb => awp_join (wx_awp (ht hb)) h, fun hb => awp_join (wx_awp (hf hb)) h⟩
end
end Go.Vm
namespace Go.Vm
open Go.RowKit

def vLen (σ : St) : V → Option Nat
 | .one (.d (.sl _ rows)) => some rows.length
 | .one (.sref t j _ len) => (match σ.ob t j with | .arr _ _ _ => some len | _ => none)
 | .fix _ (.one (.sref t j _ len)) => (match σ.ob t j with | .arr _ _ _ => some len | _ => none)
 | _ => none
def StOk (σ : St) : Prop := ∀ t n, vLen σ (σ.get t) = some n → n ≤ 9223372036854775807
theorem vLen_le {T : CS} {h : Nat → Nat → Hd} {σ : St} {w : World} : ∀ {v : V} {val : Value} {n : Nat}, vLen σ v = some n → VRel T h σ.ob w v val → n ≤ maxLen
 | .one (.d (.sl s rows)), val, n, hn, hv => by
  simp only [vLen] at hn
  cases hn
  obtain ⟨base, cap, _, h1, h2⟩ := rd_len (r := (show Rd T w val (.sl s rows) from hv))
  omega
 | .one (.sref u j lo len), val, n, hn, hv => by
  simp only [vLen] at hn
  split at hn
  ·rename_i q s rows ho
   cases hn
   have hh := (show AtRel T h σ.ob w (.sref u j lo len) val from hv).2.1 _ _ _ ho
   obtain ⟨_, _, base, cap, _, h1, h2, _⟩ := hh
   omega
  ·cases hn
 | .fix u0 (.one (.sref u j lo len)), val, n, hn, hv => by
  simp only [vLen] at hn
  split at hn
  ·rename_i q s rows ho
   cases hn
   have hh := (show AtRel T h σ.ob w (.sref u j lo len) val from hv.2).2.1 _ _ _ ho
   obtain ⟨_, _, base, cap, _, h1, h2, _⟩ := hh
   omega
  ·cases hn
theorem stOk_of_rel {T0 : CS} {B : Nat → Prop} {σ : St} {a : Act} {w : World} (r : RelE T0 B σ a w) : StOk σ := by
 obtain ⟨X, h, r⟩ := r
 intro t n hn
 exact vLen_le hn (r.get t)
theorem awp_ok {P : Program} {c : Code} {Q : Exit → St → Prop} {σ : St} (h : StOk σ → AWP P c Q σ) : AWP P c Q σ := fun T0 B a w r => h (stOk_of_rel r) T0 B a w r
section
variable {P : Program} {σ : St} {k : Fr}
theorem condB {b : Bool} {x y : CodeI} (ht : StOk σ → b = true → @WI P σ x k) (hf : StOk σ → b = false → @WI P σ y k) : @CI P b σ x y k :=
 ⟨fun h => awp_ok fun hk => wx_awp (ht hk h), fun h => awp_ok fun hk => wx_awp (hf hk h)⟩
theorem condR {b c : Bool} {x y : CodeI} (hc : c = b) (ht : StOk σ → c = true → @WI P σ x k) (hf : StOk σ → c = false → @WI P σ y k) : @CI P b σ x y k := by
 subst hc; exact condB ht hf
theorem okL {c : CodeI} (h : StOk σ → @LoopI P σ c k) : @LoopI P σ c k := awp_ok h
theorem okD {id : Nat} {A : AllI} (h : StOk σ → @DI P id σ A k) : @DI P id σ A k := awp_ok h
def callOp : Op → Bool
 | .call _ => true
 | _ => false
theorem guardI {A : AllI} {o : OpI} {l : OpsI} {j dj d : Nat} {want g : Bool} (hop : callOp o.o.op = false) (hg : o.o.guard = some (j, want)) (hd : o.o.dst = some d)
  (hdj : (A.ops[j]?).bind (·.dst) = some dj) (hgc : gCond want (σ.get dj) = some g) (hlt : dj < σ.length)
  (ht : g = true → ((evV P σ o.o.op o.o.type).1 ∧ gOf (evV P σ o.o.op o.o.type).2 = true ∧ (unc (evV P σ o.o.op o.o.type).2).flat = true) ∧ @EI P (σ.put d (.cnd true (unc (evV P σ o.o.op o.o.type).2))) A l k)
  (hf : g = false → @EI P (σ.put d (.cnd false .any)) A l k) : @SI P σ A o l k := by
 have step : ∀ v, (g = true → (evV P σ o.o.op o.o.type).1 ∧ gOf (evV P σ o.o.op o.o.type).2 = true ∧ v = unc (evV P σ o.o.op o.o.type).2 ∧ v.flat = true) → StepG P A.ops o.o σ (σ.put d (.cnd g v)) := by
  intro v hv
  unfold StepG
  simp only [hg]
  refine ⟨dj, d, g, v, hdj, hlt, hd, hgc, fun hgt => ?_, rfl⟩
  obtain ⟨h1, h2, h3, h4⟩ := hv hgt
  have base : ∃ v0, StepV P σ o.o.op o.o.type v0 ∧ gOf v0 = true ∧ v = unc v0 ∧ v.flat = true := ⟨_, evV_ok h1, h2, h3, h4⟩
  unfold StepGV
  split
  ·rename_i c hc; rw [hc] at hop; cases hop
  ·exact base
 cases g with
 | true =>
  obtain ⟨⟨h1, h2, h3⟩, h4⟩ := ht rfl
  exact ⟨_, .inl (step _ fun _ => ⟨h1, h2, rfl, h3⟩), ev_run h4⟩
 | false => exact ⟨_, .inl (step .any (fun h => by cases h)), ev_run (hf rfl)⟩
end

theorem skipG {P : Program} {σ : St} {k : Fr} {A : AllI} {o : OpI} {l : OpsI} {j dj d : Nat} {want g : Bool} (hg : o.o.guard = some (j, want)) (hd : o.o.dst = some d)
  (hdj : (A.ops[j]?).bind (·.dst) = some dj) (hgc : gCond want (σ.get dj) = some g) (hlt : dj < σ.length) (hgf : g = false)
  (h : @EI P (σ.put d (.cnd false .any)) A l k) : @SI P σ A o l k := by
 subst hgf
 refine ⟨_, .inl ?_, ev_run h⟩
 unfold StepG
 simp only [hg]
 exact ⟨dj, d, false, .any, hdj, hlt, hd, hgc, (fun h => by cases h), rfl⟩
def eqRowT (P : Program) : List TypeId → List At → List At → Option Bool
 | [], _, _ => some true
 | f :: fs, x :: xs, y :: ys => (match eqAt P f x y, eqRowT P fs xs ys with | some p, some q => some (p && q) | _, _ => none)
 | _, _, _ => none
theorem eqRow_types (P : Program) : ∀ (fs : List Field) (xs ys : List At), eqRow P fs xs ys = eqRowT P (fs.map (·.type)) xs ys
 | [], _, _ => by simp [eqRow, eqRowT]
 | f :: fs, [], _ => by simp [eqRow, eqRowT]
 | f :: fs, x :: xs, [] => by simp [eqRow, eqRowT]
 | f :: fs, x :: xs, y :: ys => by simp only [eqRow, List.map_cons, eqRowT, eqRow_types P fs xs ys]; rfl
def fieldTs (P : Program) (T : TypeId) : List TypeId := (P.fieldsOf T).toList.map (·.type)
@[simp] theorem eqRow_fields (P : Program) (T : TypeId) (xs ys : List At) : eqRow P (P.fieldsOf T).toList xs ys = eqRowT P (fieldTs P T) xs ys := eqRow_types P _ _ _
attribute [simp] eqRowT

def nth {α : Type} [Inhabited α] (l : List α) (i : Nat) : α := l.getD i default
theorem rowAt_map {α : Type} [Inhabited α] {f : α → List D} {l : List α} {i : Nat} (h : i < l.length) : rowAt (l.map f) i = f (nth l i) := by
 simp [rowAt, nth, h]
theorem rowAt_mapc {α : Type} [Inhabited α] {f : α → List D} {l : List α} {i : Nat} (h : i < l.length) (m : List (List D)) : rowAt (l.map f ++ m) i = f (nth l i) := by
 simp [rowAt, nth, h, List.getElem?_append]
theorem set_map {α : Type} {f : α → List D} {l : List α} {i : Nat} {x : α} {r : List D} (h : r = f x) : (l.map f).set i r = (l.set i x).map f := by
 rw [h, List.map_set]
abbrev W (x : Int) : Int := IntKind.i64.wrap x
theorem wrap_of {x : Int} (h1 : -9223372036854775808 ≤ x) (h2 : x ≤ 9223372036854775807) : IntKind.i64.wrap x = x := by
 have hr : IntKind.i64.min ≤ x ∧ x ≤ IntKind.i64.max := by
  constructor
  ·show -9223372036854775808 ≤ x; exact h1
  ·show x ≤ 9223372036854775807; exact h2
 simp only [IntKind.wrap]
 first
  | (simp [IntKind.bits, IntKind.signed]; omega)
  | omega
theorem wrap_succ {i n : Nat} (h : i < n) (hn : n ≤ maxLen) : IntKind.i64.wrap ((i : Int) + 1) = (i : Int) + 1 := by
 have : n ≤ 9223372036854775807 := hn
 exact wrap_of (by omega) (by omega)
theorem wrap_pred {i n : Nat} (h : 0 < i) (h2 : i < n) (hn : n ≤ maxLen) : IntKind.i64.wrap ((i : Int) - 1) = (i : Int) - 1 := by
 have : n ≤ 9223372036854775807 := hn
 exact wrap_of (by omega) (by omega)
theorem toNat_pred (i : Nat) : ((i : Int) - 1).toNat = i - 1 := by omega
attribute [simp] St.fresh freshFrom V.ref V.ref1 obsRef vsRef
end Go.Vm
namespace Go.Vm
open Go.RowKit
attribute [simp] St.mset likeRow deepOk At.isTr initM
section
variable {P : Program} {σ : St} {k : Fr}
theorem sound_ofM {f : FuncId} {fn : Func} {c : Code} (hf : P.funcs[f]? = some fn) (hb : fn.body = some c) (hok : fnOk P f = true) {row : List D} {args : List (List D)} {row' : List D} {x : D}
  (hw : ∀ v, @WI P (initM fn.ntmps v row args) ⟨c⟩ (.fin (RetM P fn v row' x))) : SoundM P f row args row' x := sound_of_awpM hf hb hok (fun v => wx_awp (hw v))
theorem retM {fn : Func} {v : Value} {row' : List D} {x : D} {rv : List ResultVar} (hf : fn.results = rv.toArray) (h : (evRes P σ rv).1 ∧ (evRes P σ rv).2 = [[.d x]] ∧ x.scalar = true ∧ σ.head? = some (.fix v (vOf (resAts 0 0 row')), resObsQ [] row')) : RetM P fn v row' x .ret σ :=
 ⟨.inl rfl, by rw [hf]; have := evRes_ok h.1; rw [h.2.1] at this; simpa using this, h.2.2⟩
theorem callMT {A : AllI} {o : OpI} {l : OpsI} {cl : Call} {f : FuncId} {d : Nat} {x0 : Operand} {xs : List Operand} {t0 : TypeId} {ts : List TypeId} {rows0 : List (List D)} {s s' : List (List D)} {n : Nat} {y : D} {t j i c : Nat} {size : Nat} {rows : List (List D)} (hop : o.o.op = .call cl) (hc : cl.callee = .value (.func f)) (hgd : o.o.guard = none) (hd : o.o.dst = some d) (hbar : A.bar o.o = true)
  (ha : cl.args.toList = x0 :: xs) (hat : cl.argTypes.toList = t0 :: ts) (hs : SoundM P f [.sl n s] rows0 [.sl n s'] y) (hx : gOf (look P σ t0 x0) = true ∧ unc (look P σ t0 x0) = .one (.tref t j i c)) (ho : σ.ob t j = .arr true size rows) (hi : i < rows.length)
  (hcell : (rowAt rows i)[c]? = some (.sl n s)) (hargs : (evArgs P σ xs ts).1) (hrows : (evArgs P σ xs ts).2 = some rows0) (hst : argsStable P σ xs ts = true)
  (h : @EI P ((σ.setOb t j (.arr true size (rows.set i (place (rowAt rows i) c [.sl n s'])))).put d (.one (.d y))) A l k) : @SI P σ A o l k := stop_callMT hop hc hgd hd hbar ha hat hx.1 hx.2 ho hi hcell (evArgs_ok hargs hrows) hst hs h
theorem callMO {A : AllI} {o : OpI} {l : OpsI} {cl : Call} {f : FuncId} {d : Nat} {x0 : Operand} {xs : List Operand} {t0 : TypeId} {ts : List TypeId} {rows0 : List (List D)} {row row' : List D} {y : D} {ats : List At} (hop : o.o.op = .call cl) (hc : cl.callee = .value (.func f)) (hgd : o.o.guard = none) (hd : o.o.dst = some d) (hbar : A.bar o.o = true)
  (ha : cl.args.toList = x0 :: xs) (_hat : cl.argTypes.toList = t0 :: ts) (hs : SoundM P f row rows0 row' y) (hx : gOf (look P σ t0 x0) = true ∧ unc (look P σ t0 x0) = vOf ats) (hmv : mvRow σ ats = some row) (hdp : deepOk σ ats) (hnd : (srefs ats).Nodup) (htr : σ.anyA At.isTr = false)
  (hargs : (evArgs P σ xs ts).1) (hrows : (evArgs P σ xs ts).2 = some rows0) (hst : argsStable P σ xs ts = true) (hlk : likeRow row row')
  (h : @EI P ((σ.mset ats row').put d (.one (.d y))) A l k) : @SI P σ A o l k := stop_callMO hop hc hgd hd hbar ha hx.1 hx.2 hmv hdp hnd htr (evArgs_ok hargs hrows) hst hs hlk h
end
end Go.Vm
namespace Go.Vm
open Go.RowKit
def At.isP (t : Nat) : At → Bool
 | .tref u _ _ _ => u == t
 | .ptr u _ _ _ => u == t
 | _ => false
section
variable {P : Program} {T0 : CS} {B : Nat → Prop} {σ : St} {a : Act} {w w' : World} {X X' : Nat → Prop} {h : Nat → Nat → Hd}
theorem Rel.litArr (r : Rel T0 B σ a w X h) {t : Nat} {size : Nat} {rows : List (List At)} {news : List (List D)} {L : List (Nat × Nat)} (ho : σ.ob t 0 = .lit size rows) (hmv : mvRows σ rows = some news) (hok : mvRowsOk σ rows)
  (hL : srefs rows.flatten = L) (hnd : L.Nodup) (hnt : (t, 0) ∉ L) (hp : (σ.dropAll L).anyA (At.isP t) = false) : RelE T0 B ((σ.dropAll L).setOb t 0 (.arr true size news)) a w := by
 have hob : σ.ob t 0 ≠ .none := by rw [ho]; simp
 have h0 := r.obj t 0
 rw [ho] at h0
 obtain ⟨e, xs, how, hz, hal⟩ := h0
 obtain ⟨hm1, hm2, hm3⟩ := mvRows_flat hmv
 have hown := mv_own r hal hm1 (mvRowsOk_flat hok) (by rw [hL]; exact hnd)
 rw [hL] at hown
 have r1 := r.dropAll L
 have hfree := r.given_free L
 have hdis : ∀ b', (h t 0).u b' → Given σ h L b' → False := by
  rintro b' hu' ⟨p, hp', hne, hup⟩
  obtain ⟨q1, q2⟩ := r.inj t 0 p.1 p.2 b' hob hne hu' hup
  exact hnt (by rw [q1, q2]; exact hp')
 have hob1 : (σ.dropAll L).ob t 0 = .lit size rows := by rw [St.dropAll_ob, if_neg hnt, ho]
 have hobn : (σ.dropAll L).ob t 0 ≠ .none := by rw [hob1]; simp
 have hobs : ∀ u i, ¬ (u = t ∧ i = 0) → ((σ.dropAll L).setOb t 0 (.arr true size news)).ob u i = (σ.dropAll L).ob u i := by
  intro u i hne
  rw [St.ob_setOb _ t 0 _ u i hobn, if_neg hne]
 have hself : ((σ.dropAll L).setOb t 0 (.arr true size news)).ob t 0 = .arr true size news := by rw [St.ob_setOb _ t 0 _ t 0 hobn]; simp
 generalize hσ : (σ.dropAll L).setOb t 0 (.arr true size news) = σ2 at *
 generalize hσ1 : σ.dropAll L = σ1 at *
 have hlen : σ2.length = σ1.length := by rw [← hσ, St.setOb_length]
 have hget : ∀ u, σ2.get u = σ1.get u := fun u => by rw [← hσ, St.get_setOb]
 let hd' : Hd := ⟨(h t 0).v, fun k => (xs[k]?).getD undef, fun b => (h t 0).u b ∨ Given σ h L b⟩
 let h' : Nat → Nat → Hd := fun u i => if u = t ∧ i = 0 then hd' else h u i
 have hh' : ∀ u i, ¬ (u = t ∧ i = 0) → h' u i = h u i := fun u i hne => if_neg hne
 have hht : h' t 0 = hd' := by simp [h']
 have hv : ∀ u i, (h' u i).v = (h u i).v := by
  intro u i
  by_cases hc : u = t ∧ i = 0
  ·obtain ⟨rfl, rfl⟩ := hc; rw [hht]
  ·rw [hh' u i hc]
 have at_ : ∀ {x : At} {v : Value}, At.isP t x = false → AtRel (Tof T0 X) h σ1.ob w x v → AtRel (Tof T0 X) h' σ2.ob w x v := by
  intro x v hpx rx
  cases x with
  | any => exact rx
  | d x => exact rx
  | nil s => exact rx
  | sref u i lo len =>
   refine ⟨rx.1, fun q s rws hq => ?_, fun s rws hq => ?_⟩
   ·by_cases hc : u = t ∧ i = 0
    ·obtain ⟨rfl, rfl⟩ := hc
     rw [hself] at hq; cases hq
     rw [hv, ← hm2]; exact rx.2.2 _ _ hob1
    ·rw [hobs u i hc] at hq; rw [hv]; exact rx.2.1 _ _ _ hq
   ·by_cases hc : u = t ∧ i = 0
    ·obtain ⟨rfl, rfl⟩ := hc
     rw [hself] at hq; cases hq
    ·rw [hobs u i hc] at hq; rw [hv]; exact rx.2.2 _ _ hq
  | ptr u i k c =>
   refine ⟨rx.1, fun q s rws hq => ?_⟩
   have hc : ¬ (u = t ∧ i = 0) := fun hc => by simp [At.isP, hc.1] at hpx
   rw [hobs u i hc] at hq; rw [hv]; exact rx.2 _ _ _ hq
  | bptr u c =>
   refine ⟨rx.1, fun cells hq => ?_⟩
   by_cases hc : u = t
   ·subst hc; rw [hself] at hq; cases hq
   ·rw [hobs u 0 (fun hh => hc hh.1)] at hq; rw [hv]; exact rx.2 _ hq
  | fn f u =>
   refine ⟨rx.1, fun cells hq => ?_⟩
   by_cases hc : u = t
   ·subst hc; rw [hself] at hq; cases hq
   ·rw [hobs u 0 (fun hh => hc hh.1)] at hq; rw [hv]; exact rx.2 _ hq
  | tref u i k c =>
   refine ⟨rx.1, fun s rws hq => ?_⟩
   have hc : ¬ (u = t ∧ i = 0) := fun hc => by simp [At.isP, hc.1] at hpx
   rw [hobs u i hc] at hq; rw [hh' u i hc]; exact rx.2 _ _ hq
  | rptr rr c => exact rx
 have hne_ : ∀ u i, σ2.ob u i ≠ .none → σ1.ob u i ≠ .none := by
  intro u i hn
  by_cases hc : u = t ∧ i = 0
  ·obtain ⟨rfl, rfl⟩ := hc; exact hobn
  ·rw [hobs u i hc] at hn; exact hn
 refine ⟨X, h', by rw [r1.size, hlen], r1.defers, r1.hB, r1.hX, r1.hT, fun u hu => ?_, fun u i => ?_, fun u i b hn hb => ?_, fun u i b hn hb => ?_, fun u i u' i' b hn hn' hb hb' => ?_⟩
 ·rw [hlen] at hu
  rw [hget]; exact VRel.map at_ (St.anyA_get hp u) (r1.slot u hu)
 ·by_cases hc : u = t ∧ i = 0
  ·obtain ⟨rfl, rfl⟩ := hc
   rw [hself, hht]
   refine ⟨e, xs, by rw [← hm2]; exact how, hm3 size hz, hown.mono (fun b hb => ⟨.inr hb, fun hbb => hdis b (r.ub u 0 b hob hbb) hb⟩), fun k x d hx _ _ => by simp [hd', hx]⟩
  ·rw [hobs u i hc, hh' u i hc]
   exact ObRel.map at_ (fun b k v hb hc => ⟨hc, hb⟩) (fun ho b => r1.ub u i b ho) (fun _ _ _ => rfl) (St.anyA_ob hp u i) (r1.obj u i)
 ·by_cases hc : u = t ∧ i = 0
  ·obtain ⟨rfl, rfl⟩ := hc
   rw [hht] at hb ⊢; exact .inl (r.ub u 0 b hob hb)
  ·rw [hh' u i hc] at hb ⊢; exact r1.ub u i b (hne_ u i hn) hb
 ·by_cases hc : u = t ∧ i = 0
  ·obtain ⟨rfl, rfl⟩ := hc
   rw [hht] at hb
   rcases hb with hb | hb
   ·exact r.own u 0 b hob hb
   ·have := hfree b hb; exact ⟨this.1, this.2.1, this.2.2.1⟩
  ·rw [hh' u i hc] at hb; exact r1.own u i b (hne_ u i hn) hb
 ·have key : ∀ u i b, ¬ (u = t ∧ i = 0) → σ1.ob u i ≠ .none → (h u i).u b → (h' t 0).u b → False := by
   intro u i b hc hn hb hb'
   rw [hht] at hb'
   rcases hb' with hb' | hb'
   ·exact hc (r1.inj u i t 0 b hn hobn hb hb')
   ·exact (hfree b hb').2.2.2 u i hn hb
  by_cases hc : u = t ∧ i = 0
  ·by_cases hc' : u' = t ∧ i' = 0
   ·exact ⟨hc.1.trans hc'.1.symm, hc.2.trans hc'.2.symm⟩
   ·obtain ⟨rfl, rfl⟩ := hc
    rw [hh' u' i' hc'] at hb'
    exact (key u' i' b hc' (hne_ u' i' hn') hb' hb).elim
  ·rw [hh' u i hc] at hb
   by_cases hc' : u' = t ∧ i' = 0
   ·obtain ⟨rfl, rfl⟩ := hc'
    exact (key u i b hc (hne_ u i hn) hb hb').elim
   ·rw [hh' u' i' hc'] at hb'
    exact r1.inj u i u' i' b (hne_ u i hn) (hne_ u' i' hn') hb hb'
end
section
variable {P : Program} {σ : St} {k : Fr}
theorem litDI {A : AllI} {o : OpI} {l : OpsI} {d : Nat} {T : TypeId} {n : Nat} {parts : Array (Nat × Operand)} {news : List (List D)} {L : List (Nat × Nat)} (hop : o.o.op = .buildSlice T n parts) (hg : o.o.guard = none) (hd : o.o.dst = some d) (hbar : A.bar o.o = true)
  (h1 : (σ.fresh d = true ∧ d < σ.length) ∧ sliceT P T = true ∧ zeroOk P (elemT P T) = true ∧ 0 < P.cellsOf (elemT P T) ∧ parts.toList.length = n ∧ n * P.cellsOf (elemT P T) ≤ 16777216) (h2 : (evLit P σ (elemT P T) (P.cellsOf (elemT P T)) parts.toList 0).1)
  (h3 : atsRef d (evLit P σ (elemT P T) (P.cellsOf (elemT P T)) parts.toList 0).2.flatten = false)
  (h4 : mvRows (σ.new d (.one (.sref d 0 0 (evLit P σ (elemT P T) (P.cellsOf (elemT P T)) parts.toList 0).2.length)) [.lit (P.cellsOf (elemT P T)) (evLit P σ (elemT P T) (P.cellsOf (elemT P T)) parts.toList 0).2]) (evLit P σ (elemT P T) (P.cellsOf (elemT P T)) parts.toList 0).2 = some news ∧
   mvRowsOk (σ.new d (.one (.sref d 0 0 (evLit P σ (elemT P T) (P.cellsOf (elemT P T)) parts.toList 0).2.length)) [.lit (P.cellsOf (elemT P T)) (evLit P σ (elemT P T) (P.cellsOf (elemT P T)) parts.toList 0).2]) (evLit P σ (elemT P T) (P.cellsOf (elemT P T)) parts.toList 0).2)
  (h5 : srefs (evLit P σ (elemT P T) (P.cellsOf (elemT P T)) parts.toList 0).2.flatten = L ∧ L.Nodup ∧ (d, 0) ∉ L)
  (h6 : ((σ.new d (.one (.sref d 0 0 (evLit P σ (elemT P T) (P.cellsOf (elemT P T)) parts.toList 0).2.length)) [.lit (P.cellsOf (elemT P T)) (evLit P σ (elemT P T) (P.cellsOf (elemT P T)) parts.toList 0).2]).dropAll L).anyA (At.isP d) = false)
  (h : @EI P (((σ.new d (.one (.sref d 0 0 (evLit P σ (elemT P T) (P.cellsOf (elemT P T)) parts.toList 0).2.length)) [.lit (P.cellsOf (elemT P T)) (evLit P σ (elemT P T) (P.cellsOf (elemT P T)) parts.toList 0).2]).dropAll L).setOb d 0 (.arr true (P.cellsOf (elemT P T)) news)) A l k) : @SI P σ A o l k := by
 refine ⟨_, .inr ⟨hbar, ?_, fun d' hd' hc => clean_setOb (clean_dropAll (clean_new (fun e => hd' (by rw [hd, e])) hc))⟩, ev_run h⟩
 rintro T0 B a w K Q' ⟨X, hh, r⟩ hK
 have hw : Region.wanted o.o (yielded A.ops a.tmps) = true := by simp [Region.wanted, hg]
 rw [if_pos hw]
 refine sound_buildLit r hop hd h1.1.1 h1.2.1 h1.2.2.1 h1.2.2.2.1 h1.2.2.2.2.1 h1.2.2.2.2.2 (evLit_ok h2) h3 (fun a' w' hr hkp => hK a' w' ?_ hkp)
 obtain ⟨X', hh', r'⟩ := hr
 exact Rel.litArr r' (by rw [St.ob_new, if_pos ⟨rfl, h1.1.2⟩]; rfl) h4.1 h4.2 h5.1 h5.2.1 h5.2.2 h6
end
attribute [simp] At.isP
theorem SoundD.own {P : Program} {f : FuncId} {args res : List (List D)} (hs : SoundD P f args res) : SoundAt P f true args res := by
 refine ⟨hs.1, fun T w vals hT ha => (hs.2 T w vals hT ha).mono ?_⟩
 rintro e w' ⟨vs, css, he, hb, hf, hl, ⟨hlen, Sk, h1, h2, h3⟩⟩
 refine ⟨vs, css, fun b => (w.heap.size ≤ b ∧ b < w'.heap.size) ∧ ∀ (k : Nat) (c : Value) (d : D), css.flatten[k]? = some c → res.flatten[k]? = some d → d.scalar = false → blk c ≠ some b, he, hb, fun b hb => hb.1, hf, all2_flat_get hl (fun k x d hx hd => ?_), fun _ => ⟨fun i c d b hc hd hsc hbl => ?_, fun i j c c' d d' b hc hd hc' hd' hsc hsc' hbl hbl' => ?_⟩⟩
 ·simp only [CellRel, if_true]
  have ho := h1 k x d hx hd
  cases ho with
  | int k n => exact .int _ _
  | bool b => exact .bool _
  | str s => exact .str _
  | sl v size rows S e' xs Sk' ho hz hb' hl' hk hs' hd' =>
   refine ⟨e', xs, ho, hz, All2.of_get hl' (fun i y dd hy hdd => (hk i y dd hy hdd).rd (fun b k' hb => .inr ⟨h2 k b (hs' i b hb).1, fun k2 c2 d2 hc2 hd2 hsc2 hbl2 => ?_⟩))⟩
   have ho2 := h1 k2 c2 d2 hc2 hd2
   have hin : Sk k2 b := by
    cases ho2 with
    | int k n => cases hsc2
    | bool b => cases hsc2
    | str s => cases hsc2
    | sl v2 size2 rows2 S2 e2 xs2 Sk2 ho2 hz2 hb2 hl2 hk2 hs2 hd2' => exact hb2 b hbl2
   have := h3 k k2 b (hs' i b hb).1 hin
   subst this
   rw [hx] at hc2; cases hc2
   exact (hs' i b hb).2 hbl2
 ·have ho2 := h1 i c d hc hd
  have hin : Sk i b := by
   cases ho2 with
   | int k n => cases hsc
   | bool b => cases hsc
   | str s => cases hsc
   | sl v2 size2 rows2 S2 e2 xs2 Sk2 ho2 hz2 hb2 hl2 hk2 hs2 hd2' => exact hb2 b hbl
  have := h2 i b hin
  exact ⟨this.1, this.2, fun hy => hy.2 i c d hc hd hsc hbl⟩
 ·have hin : ∀ (i : Nat) (c : Value) (d : D), css.flatten[i]? = some c → res.flatten[i]? = some d → d.scalar = false → blk c = some b → Sk i b := by
   intro i c d hc hd hsc hbl
   have ho2 := h1 i c d hc hd
   cases ho2 with
   | int k n => cases hsc
   | bool b => cases hsc
   | str s => cases hsc
   | sl v2 size2 rows2 S2 e2 xs2 Sk2 ho2 hz2 hb2 hl2 hk2 hs2 hd2' => exact hb2 b hbl
  exact h3 i j b (hin i c d hc hd hsc hbl) (hin j c' d' hc' hd' hsc' hbl')
end Go.Vm
namespace Go.Vm
open Go.RowKit
def frzAt (σ : St) (F : List (Nat × Nat)) : At → At
 | .sref t j lo len => if inF F t j then (match σ.ob t j with | .arr _ s rows => .d (.sl s (cut rows lo len)) | _ => .any) else .sref t j lo len
 | .ptr t j i c => if inF F t j then .any else .ptr t j i c
 | .tref t j i c => if inF F t j then .any else .tref t j i c
 | x => x
def frzV (σ : St) (F : List (Nat × Nat)) : V → V
 | .one x => .one (frzAt σ F x)
 | .agg xs => .agg (xs.map (frzAt σ F))
 | .fix u (.one x) => .fix u (.one (frzAt σ F x))
 | .fix u (.agg xs) => .fix u (.agg (xs.map (frzAt σ F)))
 | _ => .any
def frzOb (σ : St) (F : List (Nat × Nat)) (t j : Nat) (o : Ob) : Ob :=
 if inF F t j then .none else match o with | .box cs => .box (cs.map (frzAt σ F)) | .lit _ _ => .none | o => o
def frzObs (σ : St) (F : List (Nat × Nat)) (t : Nat) : List Ob → Nat → List Ob
 | [], _ => []
 | o :: os, j => frzOb σ F t j o :: frzObs σ F t os (j + 1)
def frzEnts (σ : St) (F : List (Nat × Nat)) : List Ent → Nat → List Ent
 | [], _ => []
 | e :: es, t => (frzV σ F e.1, frzObs σ F t e.2 0) :: frzEnts σ F es (t + 1)
def St.frz (σ : St) (F : List (Nat × Nat)) : St := frzEnts σ F σ 0
def cleanE : Ent → Bool
 | (.any, []) => true
 | (.one (.d _), []) => true
 | _ => false
theorem clean_frz {F : List (Nat × Nat)} : ∀ {σ0 : St} {es : List Ent} {t d : Nat}, cleanB es d = true → cleanB (frzEnts σ0 F es t) d = true
 | σ0, [], t, d, h => by simp [cleanB] at h
 | σ0, e :: es, t, 0, h => by
  rw [clean_iff] at h ⊢
  rcases h with h | ⟨x, h⟩
  ·left; simp only [List.getElem?_cons_zero, Option.some.injEq] at h; subst h; rfl
  ·right; simp only [List.getElem?_cons_zero, Option.some.injEq] at h; subst h; exact ⟨x, rfl⟩
 | σ0, e :: es, t, d + 1, h => by
  have : cleanB es d = true := by rw [clean_iff] at h ⊢; simpa using h
  have := clean_frz (F := F) (σ0 := σ0) (es := es) (t := t + 1) this
  rw [clean_iff] at this ⊢
  simpa [frzEnts] using this
section
variable {P : Program} {σ : St} {k : Fr}
theorem weakS {A : AllI} {o : OpI} {l : OpsI} {σ' : St} (hbar : A.bar o.o = true) (hw : Wk σ σ') (hc : ∀ d, cleanB σ d = true → cleanB σ' d = true) (h : @SI P σ' A o l k) : @SI P σ A o l k := by
 obtain ⟨σ'', hs, hr⟩ := h
 refine ⟨σ'', .inr ⟨hbar, fun T0 B a w K Q hrel hK => stepX_sound hs T0 B a w K Q (hw T0 B a w hrel) hK, fun d hd hcl => ?_⟩, hr⟩
 have h1 := hc d hcl
 rcases hs with hs | hs
 ·exact clean_step hs hd h1
 ·exact hs.2.2 d hd h1
theorem weakF {A : AllI} {o : OpI} {l : OpsI} (F : List (Nat × Nat)) (hbar : A.bar o.o = true) (hw : wkEnts σ [] F σ (σ.frz F) 0) (h : @SI P (σ.frz F) A o l k) : @SI P σ A o l k :=
 weakS hbar (wk_of [] F rfl hw) (fun _ hd => clean_frz hd) h
end
attribute [simp] frzAt frzV frzOb frzObs frzEnts St.frz
end Go.Vm
namespace Go.Vm
theorem wkLit {σ σ' : St} {t size : Nat} {rows : List (List At)} {news : List (List D)} {L : List (Nat × Nat)} (ho : σ.ob t 0 = .lit size rows) (hmv : mvRows σ rows = some news) (hok : mvRowsOk σ rows) (hL : srefs rows.flatten = L) (hnd : L.Nodup ∧ (t, 0) ∉ L)
  (hp : (σ.dropAll L).anyA (At.isP t) = false) (h : Wk ((σ.dropAll L).setOb t 0 (.arr true size news)) σ') : Wk σ σ' :=
 fun T0 B a w ⟨_, _, r⟩ => h T0 B a w (Rel.litArr r ho hmv hok hL hnd.1 hnd.2 hp)
end Go.Vm
namespace Go.Vm
open Go.RowKit
abbrev ptr (b : Nat) : Value := .pointer (some ⟨b, 0, none⟩)
abbrev AllRd (T : CS) (w : World) (vals : List Value) (args : List (List D)) : Prop := All2 (fun v row => ∃ cs, Formed v cs ∧ All2 (Rd T w) cs row) vals args
def initX (n : Nat) (pre : List (List D)) (v : Value) (cells : List At) (obs : List Ob) (post : List (List D)) : St :=
 argV pre ++ (.fix v (.one (.bptr pre.length 0)), .box cells :: obs) :: (argV post ++ List.replicate (n - (pre.length + 1 + post.length)) (V.any, []))
section
variable {P : Program} {T0 : CS} {B : Nat → Prop} {σ : St} {a : Act} {w w' : World} {X X' : Nat → Prop} {h : Nat → Nat → Hd}
theorem argV_rest (post : List (List D)) (m t : Nat) : ∃ x, (match (argV post ++ List.replicate m ((V.any, []) : Ent))[t]? with | some e => e | none => (V.any, [])) = (x, []) ∧ (x = .any ∨ ∃ r, post[t]? = some r ∧ x = vOf (r.map .d)) := by
 rcases Nat.lt_or_ge t post.length with h | h
 ·rw [List.getElem?_append_left (by rw [argV_length]; exact h), argV_get, List.getElem?_eq_getElem h]
  exact ⟨_, rfl, .inr ⟨_, rfl, rfl⟩⟩
 ·rw [List.getElem?_append_right (by rw [argV_length]; exact h), List.getElem?_replicate]
  refine ⟨.any, ?_, .inl rfl⟩
  split
  ·rename_i e he
   split at he
   ·cases he; rfl
   ·cases he
  ·rfl
theorem initX_at (n : Nat) (pre : List (List D)) (v : Value) (cells : List At) (obs : List Ob) (post : List (List D)) (t : Nat) :
  (t = pre.length ∧ (initX n pre v cells obs post)[t]? = some (.fix v (.one (.bptr pre.length 0)), .box cells :: obs)) ∨
  (t ≠ pre.length ∧ (∀ j, (initX n pre v cells obs post).ob t j = .none) ∧ ((initX n pre v cells obs post).get t = .any ∨ ∃ r, (initX n pre v cells obs post).get t = vOf (r.map .d) ∧ ((t < pre.length ∧ pre[t]? = some r) ∨ (pre.length < t ∧ post[t - pre.length - 1]? = some r)))) := by
 rcases Nat.lt_trichotomy t pre.length with h | h | h
 ·refine .inr ⟨by omega, ?_⟩
  have : (initX n pre v cells obs post)[t]? = some (vOf (pre[t].map .d), []) := by
   unfold initX
   rw [List.getElem?_append_left (by rw [argV_length]; exact h), argV_get, List.getElem?_eq_getElem h]; rfl
  refine ⟨fun j => by unfold St.ob; rw [this]; simp [obIn], .inr ⟨pre[t], by unfold St.get; rw [this], .inl ⟨h, List.getElem?_eq_getElem h⟩⟩⟩
 ·refine .inl ⟨h, ?_⟩
  unfold initX
  rw [List.getElem?_append_right (by rw [argV_length]; omega), argV_length, h, Nat.sub_self]; rfl
 ·refine .inr ⟨by omega, ?_⟩
  have e1 : (initX n pre v cells obs post)[t]? = (argV post ++ List.replicate (n - (pre.length + 1 + post.length)) ((V.any, []) : Ent))[t - pre.length - 1]? := by
   unfold initX
   rw [List.getElem?_append_right (by rw [argV_length]; omega), argV_length, show t - pre.length = (t - pre.length - 1) + 1 by omega, List.getElem?_cons_succ]; rfl
  obtain ⟨x, hx, hr⟩ := argV_rest post (n - (pre.length + 1 + post.length)) (t - pre.length - 1)
  rw [← e1] at hx
  constructor
  ·intro j
   unfold St.ob
   cases hq : (initX n pre v cells obs post)[t]? with
   | none => rfl
   | some e => rw [hq] at hx; simp only at hx; rw [hx]; simp [obIn]
  ·have hg : (initX n pre v cells obs post).get t = x := by
    unfold St.get
    cases hq : (initX n pre v cells obs post)[t]? with
    | none => rw [hq] at hx; simp only at hx; injection hx
    | some e => rw [hq] at hx; simp only at hx; rw [hx]
   rcases hr with rfl | ⟨r, hr, rfl⟩
   ·exact .inl hg
   ·exact .inr ⟨r, hg, .inr ⟨h, hr⟩⟩
theorem initX_rel {T : CS} {S : Nat → Prop} {n b : Nat} {pre post : List (List D)} {cells : List At} {obs : List Ob} {vals1 vals2 : List Value} (hd : Nat → Hd)
  (hT : ∀ k i, T k i → k < w.heap.size ∧ k ≠ b ∧ ¬ S k) (hS : ∀ k, S k → k < w.heap.size ∧ k ≠ b) (hb : b < w.heap.size) (h0 : hd 0 = Hd.of (ptr b))
  (hbox : ∀ (h : Nat → Nat → Hd) (ob : Nat → Nat → Ob), (∀ j, h pre.length j = hd j) → (∀ j, ob pre.length j = obIn (.box cells :: obs) j) → ObRel (Tof T (fun _ => False)) h ob w (hd 0) (.box cells))
  (hobs : ∀ (h : Nat → Nat → Hd) (ob : Nat → Nat → Ob) (j : Nat), ObRel (Tof T (fun _ => False)) h ob w (hd (j + 1)) (obIn obs j))
  (hub : ∀ j k, obIn obs j ≠ .none → blk (hd (j + 1)).v = some k → (hd (j + 1)).u k) (hown : ∀ j k, obIn obs j ≠ .none → (hd (j + 1)).u k → S k)
  (hinj : ∀ i j k, obIn obs i ≠ .none → obIn obs j ≠ .none → (hd (i + 1)).u k → (hd (j + 1)).u k → i = j) (ha1 : AllRd T w vals1 pre) (ha2 : AllRd T w vals2 post) :
  RelE T (fun k => k < w.heap.size ∧ k ≠ b ∧ ¬ S k) (initX n pre (ptr b) cells obs post) { tmps := (vals1 ++ ptr b :: vals2).toArray ++ Array.replicate (n - (vals1 ++ ptr b :: vals2).toArray.size) undef, defers := [] } w := by
 have hl1 := ha1.length
 have hl2 := ha2.length
 have hat := initX_at n pre (ptr b) cells obs post
 have hob0 : ∀ j, (initX n pre (ptr b) cells obs post).ob pre.length j = obIn (.box cells :: obs) j := by
  intro j
  rcases hat pre.length with ⟨_, h⟩ | ⟨h, _⟩
  ·unfold St.ob; rw [h]
  ·exact absurd rfl h
 have hne0 : ∀ t j, (initX n pre (ptr b) cells obs post).ob t j ≠ .none → t = pre.length := by
  intro t j hn
  rcases hat t with ⟨h, _⟩ | ⟨_, h, _⟩
  ·exact h
  ·exact absurd (h j) hn
 have hTT : ∀ b k v, T b k → w.cell? ⟨b, k, none⟩ = some v → w.cell? ⟨b, k, none⟩ = some v ∧ Tof T (fun _ => False) b k := fun b k v hb hc => ⟨hc, .inl hb⟩
 have hu0 : ∀ k, (hd 0).u k ↔ k = b := fun k => by rw [h0]; simp [Hd.of, blk, eq_comm]
 have hobj : ∀ j, obIn (.box cells :: obs) j ≠ .none → (j = 0 ∨ ∃ i, j = i + 1 ∧ obIn obs i ≠ .none) := by
  intro j hn
  cases j with
  | zero => exact .inl rfl
  | succ j => exact .inr ⟨j, rfl, by rw [obIn_succ] at hn; exact hn⟩
 have hS' : ∀ j k, obIn (.box cells :: obs) j ≠ .none → (hd j).u k → k = b ∨ S k := by
  intro j k hn hu
  rcases hobj j hn with rfl | ⟨i, rfl, hi⟩
  ·exact .inl ((hu0 k).1 hu)
  ·exact .inr (hown i k hi hu)
 have argrd : ∀ {vals : List Value} {args : List (List D)} {t : Nat} {r : List D}, AllRd T w vals args → args[t]? = some r → ∃ v, vals[t]? = some v ∧ VRel (Tof T (fun _ => False)) (fun t j => if t = pre.length then hd j else Hd.of undef) (initX n pre (ptr b) cells obs post).ob w (vOf (r.map .d)) v := by
  intro vals args t r ha hr
  obtain ⟨v, hv, cs, hf, hal⟩ := ha.get' t r hr
  exact ⟨v, hv, (vOf_rel hf (map_d_rel (hal.imp fun _ _ => Rd.mono hTT))).up⟩
 refine ⟨fun _ => False, fun t j => if t = pre.length then hd j else Hd.of undef, ?_⟩
 refine ⟨?_, rfl, (fun k hk => hk.1), (fun b hb => hb.elim), (fun k i hk => hT k i hk), fun t ht => ?_, fun t j => ?_, fun t j k hn hk => ?_, fun t j k hn hk => ?_, fun t j t' j' k hn hn' hk hk' => ?_⟩
 ·simp [initX, argV_length, hl1, hl2]; omega
 ·rcases hat t with ⟨rfl, h⟩ | ⟨hne, _, h⟩
  ·have hval : ((vals1 ++ ptr b :: vals2).toArray ++ Array.replicate (n - (vals1 ++ ptr b :: vals2).toArray.size) undef).getD pre.length undef = ptr b := by
    rw [Array.getD_eq_getD_getElem?, Array.getElem?_append_left (by simp; omega)]
    simp [← hl1]
   rw [hval]
   unfold St.get; rw [h]
   exact ⟨rfl, rfl, fun cells' _ => ⟨b, by simp [h0, Hd.of], rfl⟩⟩
  ·rcases h with h | ⟨r, h, hr⟩
   ·rw [h]; trivial
   ·rw [h]
    rcases hr with ⟨hlt, hr⟩ | ⟨hlt, hr⟩
    ·obtain ⟨v, hv, hrel⟩ := argrd ha1 hr
     have hval : ((vals1 ++ ptr b :: vals2).toArray ++ Array.replicate (n - (vals1 ++ ptr b :: vals2).toArray.size) undef).getD t undef = v := by
      rw [Array.getD_eq_getD_getElem?, Array.getElem?_append_left (by simp; omega)]
      simp [List.getElem?_append_left (show t < vals1.length by omega), hv]
     simp only [hval]; exact hrel
    ·obtain ⟨v, hv, hrel⟩ := argrd ha2 hr
     have hlt2 := (List.getElem?_eq_some_iff.1 hv).1
     have hval : ((vals1 ++ ptr b :: vals2).toArray ++ Array.replicate (n - (vals1 ++ ptr b :: vals2).toArray.size) undef).getD t undef = v := by
      rw [Array.getD_eq_getD_getElem?, Array.getElem?_append_left (by simp; omega)]
      simp only [List.getElem?_toArray]
      rw [List.getElem?_append_right (by omega), show t - vals1.length = (t - pre.length - 1) + 1 by omega, List.getElem?_cons_succ, hv]; rfl
     simp only [hval]; exact hrel
 ·by_cases hn : (initX n pre (ptr b) cells obs post).ob t j = .none
  ·rw [hn]; trivial
  ·obtain rfl := hne0 t j hn
   rw [hob0]
   simp only [if_true]
   cases j with
   | zero => exact hbox _ _ (fun j => by simp) hob0
   | succ j => rw [obIn_succ]; exact hobs _ _ j
 ·obtain rfl := hne0 t j hn
  rw [hob0] at hn
  simp only [if_true] at hk ⊢
  rcases hobj j hn with rfl | ⟨i, rfl, hi⟩
  ·rw [h0] at hk ⊢; exact hk
  ·exact hub i k hi hk
 ·obtain rfl := hne0 t j hn
  rw [hob0] at hn
  simp only [if_true] at hk
  rcases hS' j k hn hk with rfl | hs
  ·exact ⟨fun hh => hh.2.1 rfl, fun hh => hh, hb⟩
  ·exact ⟨fun hh => hh.2.2 hs, fun hh => hh, (hS k hs).1⟩
 ·obtain rfl := hne0 t j hn
  obtain rfl := hne0 t' j' hn'
  rw [hob0] at hn hn'
  simp only [if_true] at hk hk'
  refine ⟨rfl, ?_⟩
  rcases hobj j hn with rfl | ⟨i, rfl, hi⟩
  ·rcases hobj j' hn' with rfl | ⟨i', rfl, hi'⟩
   ·rfl
   ·exact absurd ((hu0 k).1 hk) (hS k (hown i' k hi' hk')).2
  ·rcases hobj j' hn' with rfl | ⟨i', rfl, hi'⟩
   ·exact absurd ((hu0 k).1 hk') (hS k (hown i k hi hk)).2
   ·rw [hinj i i' k hi hi' hk hk']
end
end Go.Vm
namespace Go.Vm
open Go.RowKit
def PostB (dp : Bool) (T : CS) (w : World) (b : Nat) (row' : List D) (res : List (List D)) (e : Ending) (w' : World) : Prop :=
 ∃ (vs : List Value) (css : List (List Value)) (Y : Nat → Prop), e = .returned (retOf vs) ∧ Keep (fun k => k < w.heap.size ∧ k ≠ b) w w' ∧ (∀ k, Y k → w.heap.size ≤ k ∧ k < w'.heap.size) ∧
  (∃ cs e', w'.heap[b]? = some (.cells cs e' (0, 0)) ∧ All2 (Rd (Tof T Y) w') cs.toList row') ∧ All2 Formed vs css ∧ All2 (fun (cs : List Value) (row : List D) => cs.length = row.length) css res ∧
  (if dp then OwnC w' css.flatten res.flatten (fun k => w.heap.size ≤ k ∧ k < w'.heap.size ∧ ¬ Y k) else All2 (fun cs row => All2 (Rd (Tof T Y) w') cs row) css res)
def SoundB (P : Program) (f : FuncId) (dp : Bool) (row : List D) (args : List (List D)) (row' : List D) (res : List (List D)) : Prop :=
 fnOk P f = true ∧ ∀ (T : CS) (w : World) (b : Nat) (vals : List Value), (∀ k i, T k i → k < w.heap.size ∧ k ≠ b) → b < w.heap.size → (∃ cs e, w.heap[b]? = some (.cells cs e (0, 0)) ∧ All2 (Rd T w) cs.toList row) →
  AllRd T w vals args → Calls P f (ptr b :: vals).toArray w (PostB dp T w b row' res)
def RetB (P : Program) (fn : Func) (v : Value) (dp : Bool) (row' : List D) (res : List (List D)) (e : Exit) (σ : St) : Prop :=
 (e = .ret ∨ e = .normal) ∧ (∃ obs, σ.head? = some (.fix v (.one (.bptr 0 0)), .box (row'.map .d) :: obs)) ∧ ∃ xss, AllRes P σ fn.results.toList xss ∧
  (if dp then mvRows σ xss = some res ∧ mvRowsOk σ xss ∧ (srefs xss.flatten).Nodup else rdRows σ xss = some res)
def SoundN (P : Program) (f : FuncId) (args : List (List D)) (row' : List D) : Prop :=
 fnOk P f = true ∧ ∀ (T : CS) (w : World) (vals : List Value), (∀ k i, T k i → k < w.heap.size) → AllRd T w vals args →
  Calls P f vals.toArray w fun e w' => ∃ b Y, e = .returned (ptr b) ∧ Below w.heap.size w w' ∧ w.heap.size ≤ b ∧ b < w'.heap.size ∧ (∀ k, Y k → w.heap.size ≤ k ∧ k < w'.heap.size ∧ k ≠ b) ∧ ∃ cs e', w'.heap[b]? = some (.cells cs e' (0, 0)) ∧ All2 (Rd (Tof T Y) w') cs.toList row'
def RetN (P : Program) (fn : Func) (row' : List D) (e : Exit) (σ : St) : Prop :=
 (e = .ret ∨ e = .normal) ∧ ∃ u, AllRes P σ fn.results.toList [[.bptr u 0]] ∧ σ.ob u 0 = .box (row'.map .d)
section
variable {P : Program} {T0 : CS} {B : Nat → Prop} {σ : St} {a : Act} {w w' : World} {X X' : Nat → Prop} {h : Nat → Nat → Hd}
theorem d_map_rd {T : CS} {ob : Nat → Nat → Ob} : ∀ {row : List D} {cs : List Value}, All2 (AtRel T h ob w) (row.map .d) cs → All2 (Rd T w) cs row
 | [], _, hal => by cases hal; exact .nil
 | _ :: _, _, hal => by cases hal with | cons h1 h2 => exact .cons h1 (d_map_rd h2)
theorem sound_of_awpB {f : FuncId} {fn : Func} {c : Code} (hf : P.funcs[f]? = some fn) (hb : fn.body = some c) (hok : fnOk P f = true) {dp : Bool} {row : List D} {args : List (List D)} {row' : List D} {res : List (List D)}
  (hw : ∀ v, AWP P c (RetB P fn v dp row' res) (initX fn.ntmps [] v (row.map .d) [] args)) : SoundB P f dp row args row' res := by
 refine ⟨hok, fun T w b vals hT hb' ⟨cs0, e0, hh0, hal0⟩ hargs => calls_of_wp hf hb ?_⟩
 have hinit := initX_rel (w := w) (T := T) (S := fun _ => False) (n := fn.ntmps) (b := b) (pre := []) (post := args) (cells := row.map .d) (obs := []) (vals1 := []) (vals2 := vals) (fun _ => Hd.of (ptr b))
  (fun k i hk => ⟨(hT k i hk).1, (hT k i hk).2, fun hh => hh⟩) (fun k hk => hk.elim) hb' rfl
  (fun h ob _ _ => ⟨b, cs0, e0, rfl, hh0, map_d_rel (hal0.imp fun _ _ => Rd.mono (fun b k v hb hc => ⟨hc, .inl hb⟩))⟩) (fun h ob j => by simp [obIn, ObRel]) (fun j k hn => by simp [obIn] at hn) (fun j k hn => by simp [obIn] at hn) (fun i j k hn => by simp [obIn] at hn) .nil hargs
 simp only [List.nil_append] at hinit
 refine wp_mono (hw (ptr b) T _ _ w hinit) ?_
 rintro e a' w' ⟨σ', ⟨he, ⟨obs, hhd⟩, xss, hres, hcell⟩, ⟨X, h, r⟩, hkeep⟩
 obtain ⟨vs, css, hrun, hform, hal⟩ := results_run r hres
 have hpos : 0 < σ'.length := by
  cases σ' with
  | nil => simp at hhd
  | cons e σ => simp
 have hg0 : σ'.get 0 = .fix (ptr b) (.one (.bptr 0 0)) := by
  cases σ' with
  | nil => simp at hhd
  | cons e σ => simp at hhd; simp [St.get, hhd]
 have ho0 : σ'.ob 0 0 = .box (row'.map .d) := by
  cases σ' with
  | nil => simp at hhd
  | cons e σ => simp at hhd; simp [St.ob, hhd, obIn]
 have hslot := r.slot 0 hpos
 rw [hg0] at hslot
 obtain ⟨hveq, hv1⟩ := hslot
 obtain ⟨b1, hb1, hv2⟩ := hv1.2 _ ho0
 rw [hveq] at hv2
 have hbb : b1 = b := by injection hv2 with hv2; injection hv2 with hv2; injection hv2 with hv2; exact hv2.symm
 subst hbb
 have hobj := r.obj 0 0
 rw [ho0] at hobj
 obtain ⟨b2, cs', e', hb2, hh', hal'⟩ := hobj
 rw [hb1] at hb2
 have hbb : b2 = b1 := by injection hb2 with hb2; injection hb2 with hb2; injection hb2 with hb2; exact hb2.symm
 subst hbb
 have hkeep' : Keep (fun k => k < w.heap.size ∧ k ≠ b2) w w' := ⟨hkeep.os, hkeep.tape, hkeep.output, hkeep.size, fun k hk => hkeep.block k ⟨hk.1, hk.2, fun hh => hh⟩⟩
 have hnX : ∀ k, X k → k = b2 → False := by
  rintro k hx rfl
  have hub := r.ub 0 0 k (by rw [ho0]; simp) (by rw [hb1]; rfl)
  exact (r.own 0 0 k (by rw [ho0]; simp) hub).2.1 hx
 have hXn : ∀ k, X k → w.heap.size ≤ k ∧ k < w'.heap.size := by
  intro k hk
  have h1 := r.hX k hk
  refine ⟨?_, h1.2⟩
  rcases Nat.lt_or_ge k w.heap.size with hlt | hge
  ·exact absurd ⟨hlt, fun hh => hnX k hk hh, fun hh => hh⟩ h1.1
  ·exact hge
 have goal : a'.defers = [] ∧ ∃ v, (results fn a'.tmps).run P w' = .ok v w' ∧ PostB dp T w b2 row' res (.returned v) w' := by
  refine ⟨r.defers, _, hrun, ?_⟩
  cases dp with
  | true =>
   simp only [if_true] at hcell
   obtain ⟨hmv, hmok, hnd⟩ := hcell
   refine ⟨vs, css, X, rfl, hkeep', hXn, ⟨cs', e', hh', d_map_rd hal'⟩, hform, ?_, ?_⟩
   ·clear hnd hmok hres hrun hform hw
    induction hal generalizing res with
    | nil => simp [mvRows] at hmv; subst hmv; exact .nil
    | cons h1 _ ih =>
     simp only [mvRows] at hmv
     split at hmv
     ·rename_i row rs hrow hrs
      cases hmv
      exact .cons (by rw [← h1.length]; exact (mvRow_get hrow).1) (ih hrs)
     ·cases hmv
   ·simp only [if_true]
    refine (mv_own r (all2_flatten hal) (mvRows_flat hmv).1 (mvRowsOk_flat hmok) hnd).mono (fun k hk => ?_)
    have hg := r.given_free _ k hk
    refine ⟨?_, hg.2.2.1, hg.2.1⟩
    rcases Nat.lt_or_ge k w.heap.size with hlt | hge
    ·refine absurd ⟨hlt, ?_, fun hh => hh⟩ hg.1
     rintro rfl
     obtain ⟨p, hp, hne, hu⟩ := hk
     have hub := r.ub 0 0 k (by rw [ho0]; simp) (by rw [hb1]; rfl)
     obtain ⟨e1, e2⟩ := r.inj p.1 p.2 0 0 k hne (by rw [ho0]; simp) hu hub
     obtain ⟨i, lo, len, hx⟩ := srefs_get hp
     have hm := mvRowOk_get (mvRowsOk_flat hmok) i _ hx
     rw [e1, e2] at hm
     obtain ⟨d, hd, hmd⟩ := (All2.get (R := fun x d => mvD σ' x = some d) (All2.of_get (mvRow_get (mvRows_flat hmv).1).1 (fun i a b h1 h2 => (mvRow_get (mvRows_flat hmv).1).2 i a b h1 h2)) i _ hx)
     rw [e1, e2] at hmd
     simp [mvD, ho0] at hmd
    ·exact hge
  | false =>
   simp only [Bool.false_eq_true, if_false] at hcell
   refine ⟨vs, css, fun k => w.heap.size ≤ k ∧ k < w'.heap.size, rfl, hkeep', fun k hk => hk, ⟨cs', e', hh', (d_map_rd hal').imp fun _ _ => Rd.mono (fun k i v hk hc => ⟨hc, ?_⟩)⟩, hform, ?_, ?_⟩
   ·rcases hk with hk | hk
    ·exact .inl hk
    ·exact .inr (hXn k hk)
   ·clear hres hrun hform hw
    induction hal generalizing res with
    | nil => simp [rdRows] at hcell; subst hcell; exact .nil
    | cons h1 _ ih =>
     simp only [rdRows] at hcell
     split at hcell
     ·rename_i row rs hrow hrs
      cases hcell
      exact .cons ((r.rowOf false hrow h1 (fun hh => by cases hh)).length) (ih hrs)
     ·cases hcell
   ·simp only [Bool.false_eq_true, if_false]
    refine rdRows_cells r (fun k i hk => ?_) hcell hal
    rcases hk with hk | ⟨t, j, q, size, rows, ho, hk⟩
    ·rcases hk with hk | hk
     ·exact .inl hk
     ·exact .inr (hXn k hk)
    ·have hne : σ'.ob t j ≠ .none := by rw [ho]; simp
     have hown := r.own t j k hne hk
     refine .inr ⟨?_, hown.2.2⟩
     rcases Nat.lt_or_ge k w.heap.size with hlt | hge
     ·refine absurd ⟨hlt, ?_, fun hh => hh⟩ hown.1
      rintro rfl
      have hub := r.ub 0 0 k (by rw [ho0]; simp) (by rw [hb1]; rfl)
      obtain ⟨e1, e2⟩ := r.inj t j 0 0 k hne (by rw [ho0]; simp) hk hub
      rw [e1, e2, ho0] at ho; cases ho
     ·exact hge
 rcases he with rfl | rfl
 ·exact goal
 ·exact goal
theorem sound_of_awpN {f : FuncId} {fn : Func} {c : Code} (hf : P.funcs[f]? = some fn) (hb : fn.body = some c) (hok : fnOk P f = true) {args : List (List D)} {row' : List D}
  (hw : AWP P c (RetN P fn row') (initSt fn.ntmps args)) : SoundN P f args row' := by
 refine ⟨hok, fun T w vals hT hargs => calls_of_wp hf hb ?_⟩
 refine wp_mono (hw T (fun b => b < w.heap.size) _ w (init_rel hT hargs)) ?_
 rintro e a' w' ⟨σ', ⟨he, u, hres, hobx⟩, ⟨X, h, r⟩, hkeep⟩
 have hbel : Below w.heap.size w w' := ⟨hkeep.os, hkeep.tape, hkeep.output, hkeep.size, hkeep.block⟩
 obtain ⟨vs, css, hrun, hform, hal⟩ := results_run r hres
 cases hal with
 | cons h1 hal =>
  cases hal
  cases h1 with
  | @cons _ c0 _ _ hx h1 =>
   cases h1
   cases hform with
   | @cons v0 _ _ _ hu hn =>
    cases hn
    have hu' : v0 = c0 := by
     rcases hu with ⟨c', he', rfl, _⟩ | ⟨hn, _⟩
     ·cases he'; rfl
     ·simp at hn
    subst hu'
    obtain ⟨b, hb1, hv⟩ := hx.2 _ hobx
    have hobj := r.obj u 0
    rw [hobx] at hobj
    obtain ⟨b2, cs', e', hb2, hh', hal'⟩ := hobj
    rw [hb1] at hb2
    have hbb : b2 = b := by injection hb2 with hb2; injection hb2 with hb2; injection hb2 with hb2; exact hb2.symm
    subst hbb
    have hne : σ'.ob u 0 ≠ .none := by rw [hobx]; simp
    have hub := r.ub u 0 b2 hne (by rw [hb1]; rfl)
    have hown := r.own u 0 b2 hne hub
    have goal : a'.defers = [] ∧ ∃ v, (results fn a'.tmps).run P w' = .ok v w' ∧ ∃ b Y, Ending.returned v = .returned (ptr b) ∧ Below w.heap.size w w' ∧ w.heap.size ≤ b ∧ b < w'.heap.size ∧ (∀ k, Y k → w.heap.size ≤ k ∧ k < w'.heap.size ∧ k ≠ b) ∧ ∃ cs e', w'.heap[b]? = some (.cells cs e' (0, 0)) ∧ All2 (Rd (Tof T Y) w') cs.toList row' := by
     refine ⟨r.defers, _, hrun, b2, X, by rw [hv]; rfl, hbel, by have := hown.1; omega, hown.2.2, fun k hk => ?_, cs', e', hh', d_map_rd hal'⟩
     have hk' := r.hX k hk
     refine ⟨by have := hk'.1; omega, hk'.2, ?_⟩
     rintro rfl
     exact hown.2.1 hk
    rcases he with rfl | rfl
    ·exact goal
    ·exact goal
end
end Go.Vm
namespace Go.Vm
open Go.RowKit
section
variable {P : Program} {T0 : CS} {B : Nat → Prop} {σ : St} {a : Act} {w w' : World} {X X' : Nat → Prop} {h : Nat → Nat → Hd}
theorem ob_flat {T : CS} {ob : Nat → Nat → Ob} {hd : Hd} {size : Nat} {rows : List (List D)} (hr : ObRel T h ob w hd (.arr true size rows)) (hf : ∀ r ∈ rows, ∀ x ∈ r, x.scalar = true) : ObRel T h ob w hd (.arr false size rows) := by
 obtain ⟨e, xs, ho, hz, ⟨hl, Sk, hk, _, _⟩, _⟩ := hr
 refine ⟨e, xs, ho, hz, All2.of_get hl (fun k x d hx hd => ?_)⟩
 obtain ⟨r0, hr0, hdr⟩ := List.mem_flatten.1 (List.mem_of_getElem? hd)
 have hsc := hf r0 hr0 d hdr
 have := hk k x d hx hd
 cases this with
 | int k n => exact .int _ _
 | bool b => exact .bool _
 | str s => exact .str _
 | sl => cases hsc
theorem Rel.newRes (r : Rel T0 B σ a w X h) {d : Nat} (hf : σ.fresh d = true) (M : Nat → Prop) (hM : ∀ b, M b → ¬ B b ∧ ¬ X b ∧ b < w.heap.size ∧ ∀ t j, σ.ob t j ≠ .none → ¬ (h t j).u b) {vs : List Value} {css : List (List Value)} {res : List (List D)} (qs : List Bool)
  (hform : All2 Formed vs css) (hlen : All2 (fun (cs : List Value) (row : List D) => cs.length = row.length) css res) (hown : OwnC w css.flatten res.flatten M) (hq : flatQ qs res.flatten) : RelE T0 B (σ.new d (resV d res) (resObsQ qs res.flatten)) (a.put (some d) (retOf vs)) w := by
 have hlt := St.fresh_lt hf
 obtain ⟨hfd, Sk, k1, k2, k3, k4⟩ := own_hds hown
 have hob : ∀ j, (σ.new d (resV d res) (resObsQ qs res.flatten)).ob d j = obIn (resObsQ qs res.flatten) j := fun j => by rw [St.ob_new]; simp [hlt]
 have htop := hown.top (T := Tof T0 X)
 have hcells : All2 (fun cs row => All2 (CellTop (Tof T0 X) w) cs row) css res := all2_flat_get hlen (fun k x d hx hd => by
  obtain ⟨c, hc, ht⟩ := htop.get' k d hd
  rw [hx] at hc; cases hc; exact ht)
 refine ⟨X, fun t j => if t = d then hfd j else h t j, ?_⟩
 refine r.newG hf M (Nat.le_refl _) (fun _ _ _ => rfl) (fun b hb => ⟨(hM b hb).1, (hM b hb).2.1, fun t j _ hn => (hM b hb).2.2.2 t j hn⟩) (fun b hb => hb) (fun b hb => .inl hb) (resV d res) (retOf vs) (resObsQ qs res.flatten) hfd ?_ (fun j => ?_) (fun j b hne hb => ?_) (fun j b hne hb => ?_) (fun j j' b hne hne' hb hb' => ?_)
 ·exact resV_rel (h := fun t j => if t = d then hfd j else h t j) (ob := (σ.new d (resV d res) (resObsQ qs res.flatten)).ob) (t := d) hform hcells (fun i size rows hi => by
   obtain ⟨q, hq', _⟩ := (resObsQ_get qs res.flatten i hq).1 size rows hi
   exact ⟨q, by rw [hob]; exact hq'⟩) (fun i c hi => by simp only [if_true]; exact k1 i c hi)
 ·by_cases hne : obIn (resObsQ qs res.flatten) j = .none
  ·rw [hne]; trivial
  ·obtain ⟨size, rows, hj⟩ := (resObsQ_get qs res.flatten j hq).2 hne
   obtain ⟨q, hq', hqf⟩ := (resObsQ_get qs res.flatten j hq).1 size rows hj
   rw [hq']
   have := (k4 j size rows hj).2.2 (Tof T0 X) (fun t j => if t = d then hfd j else h t j) (σ.new d (resV d res) (resObsQ qs res.flatten)).ob
   cases q with
   | true => exact this
   | false => exact ob_flat this (hqf rfl)
 ·obtain ⟨size, rows, hj⟩ := (resObsQ_get qs res.flatten j hq).2 hne
  exact (k4 j size rows hj).2.1 b hb
 ·obtain ⟨size, rows, hj⟩ := (resObsQ_get qs res.flatten j hq).2 hne
  have := k2 j b ((k4 j size rows hj).1 b hb)
  exact ⟨.inr this, (hM b this).2.1, (hM b this).2.2.1⟩
 ·obtain ⟨size, rows, hj⟩ := (resObsQ_get qs res.flatten j hq).2 hne
  obtain ⟨size', rows', hj'⟩ := (resObsQ_get qs res.flatten j' hq).2 hne'
  exact k3 j j' b ((k4 j size rows hj).1 b hb) ((k4 j' size' rows' hj').1 b hb')
theorem Rel.changeBox (r : Rel T0 B σ a w X h) {t b : Nat} {cells : List At} {row' : List D} (ho : σ.ob t 0 = .box cells) (hv : (h t 0).v = ptr b) (hsz : w.heap.size ≤ w'.heap.size) (hw : ∀ k, k < w.heap.size → k ≠ b → w'.heap[k]? = w.heap[k]?)
  (hX : ∀ b, X b → X' b) (hX' : ∀ b, X' b → X b ∨ (w.heap.size ≤ b ∧ b < w'.heap.size)) (hnew : ∃ cs e, w'.heap[b]? = some (.cells cs e (0, 0)) ∧ All2 (Rd (Tof T0 X') w') cs.toList row') : Rel T0 B (σ.setOb t 0 (.box (row'.map .d))) a w' X' h := by
 have hob : σ.ob t 0 ≠ .none := by rw [ho]; simp
 have hblk : blk (h t 0).v = some b := by rw [hv]; rfl
 have hub := r.ub t 0 b hob hblk
 have hbB := r.own t 0 b hob hub
 have hT : ∀ k i v, Tof T0 X k i → w.cell? ⟨k, i, none⟩ = some v → w'.cell? ⟨k, i, none⟩ = some v ∧ Tof T0 X' k i := by
  intro k i v hk hc
  refine ⟨?_, hk.imp id (hX k)⟩
  have hne : k ≠ b := by
   rintro rfl
   rcases hk with hk | hk
   ·exact hbB.1 (r.hT _ _ hk)
   ·exact hbB.2.1 hk
  rw [World.cell?_of_block (hw k (r.Tlt hk) hne)]; exact hc
 have hobs : ∀ u i, ¬ (u = t ∧ i = 0) → (σ.setOb t 0 (.box (row'.map .d))).ob u i = σ.ob u i := by
  intro u i hne
  rw [St.ob_setOb σ t 0 _ u i hob, if_neg hne]
 have hself : (σ.setOb t 0 (.box (row'.map .d))).ob t 0 = .box (row'.map .d) := by rw [St.ob_setOb σ t 0 _ t 0 hob]; simp
 have hcp : ∀ u i, Cpt h h σ.ob (σ.setOb t 0 (.box (row'.map .d))).ob u i := by
  intro u i
  by_cases hu : u = t ∧ i = 0
  ·obtain ⟨rfl, rfl⟩ := hu
   refine ⟨fun q size rows ho' => ?_, fun size rows ho' => ?_, fun cells' ho' => ⟨rfl, cells, ho⟩⟩
   ·rw [hself] at ho'; cases ho'
   ·rw [hself] at ho'; cases ho'
  ·exact Cpt.same rfl (hobs u i hu)
 have at_ : ∀ {x : At} {v : Value}, (fun _ => false : At → Bool) x = false → AtRel (Tof T0 X) h σ.ob w x v → AtRel (Tof T0 X') h (σ.setOb t 0 (.box (row'.map .d))).ob w' x v := fun _ rx => AtRel.carry0 hT hcp rx
 have hne_ : ∀ u i, (σ.setOb t 0 (.box (row'.map .d))).ob u i ≠ .none → σ.ob u i ≠ .none := by
  intro u i hn
  by_cases hu : u = t ∧ i = 0
  ·obtain ⟨rfl, rfl⟩ := hu; exact hob
  ·rw [hobs u i hu] at hn; exact hn
 refine ⟨by rw [r.size, St.setOb_length], r.defers, fun b hb => Nat.lt_of_lt_of_le (r.hB b hb) hsz, fun k hk => ?_, r.hT, fun u hu => ?_, fun u i => ?_, fun u i k hn => r.ub u i k (hne_ u i hn), fun u i k hn hk => ?_, fun u i u' i' k hn hn' => r.inj u i u' i' k (hne_ u i hn) (hne_ u' i' hn')⟩
 ·rcases hX' k hk with hk | hk
  ·have := r.hX k hk; exact ⟨this.1, by omega⟩
  ·exact ⟨fun hbb => by have := r.hB k hbb; omega, hk.2⟩
 ·rw [St.setOb_length] at hu
  rw [St.get_setOb]; exact VRel.map at_ (anyA_false _) (r.slot u hu)
 ·by_cases hu : u = t ∧ i = 0
  ·obtain ⟨rfl, rfl⟩ := hu
   rw [hself]
   obtain ⟨cs, e, hh, hal⟩ := hnew
   exact ⟨b, cs, e, hv, hh, map_d_rel hal⟩
  ·rw [hobs u i hu]
   exact ObRel.map at_ hT (fun ho b => r.ub u i b ho) (fun hn k hk => hw k (r.own u i k hn hk).2.2 (fun e => by
    rw [e] at hk
    obtain ⟨e1, e2⟩ := r.inj u i t 0 b hn hob hk hub
    exact hu ⟨e1, e2⟩)) (obsAny_false _) (r.obj u i)
 ·have := r.own u i k (hne_ u i hn) hk
  refine ⟨this.1, fun hx => ?_, by omega⟩
  rcases hX' k hx with hx | hx
  ·exact this.2.1 hx
  ·omega
theorem map_d_inj : ∀ {xs ys : List D}, xs.map At.d = ys.map At.d → xs = ys
 | [], [], _ => rfl
 | x :: xs, y :: ys, e => by simp at e; rw [e.1, map_d_inj (xs := xs) (ys := ys) (by simpa using e.2)]
 | [], _ :: _, e => by simp at e
 | _ :: _, [], e => by simp at e
def resS (dp : Bool) (σ : St) (d : Nat) (res : List (List D)) (qs : List Bool) : St := match dp with | true => σ.new d (resV d res) (resObsQ qs res.flatten) | false => σ.put d (resVd res)
theorem sound_callB (r : Rel T0 B σ a w X h) {o : Oper} {cl : Call} {f : FuncId} {d : Nat} {x0 : Operand} {xs : List Operand} {t0 : TypeId} {ts : List TypeId} {rows0 res : List (List D)} {row row' : List D} {dp : Bool} (qs : List Bool) (hop : o.op = .call cl) (hc : cl.callee = .value (.func f)) (hd : o.dst = some d)
  (ha : cl.args.toList = x0 :: xs) {t : Nat} (hg : gOf (look P σ t0 x0) = true) (hx : unc (look P σ t0 x0) = .one (.bptr t 0)) (ho : σ.ob t 0 = .box (row.map .d)) (hargs : argRows P σ xs ts rows0) (hst : argsStable P σ xs ts = true) (hs : SoundB P f dp row rows0 row' res)
  (hfr : dp = true → (σ.setOb t 0 (.box (row'.map .d))).fresh d = true ∧ flatQ qs res.flatten)
  {K : Act → World → Prop} {Q : Exit → Act → World → Prop} (hK : ∀ a' w', RelE T0 B (resS dp (σ.setOb t 0 (.box (row'.map .d))) d res qs) a' w' → Keep B w w' → K a' w') : o.wp P a w K Q := by
 have hob : σ.ob t 0 ≠ .none := by rw [ho]; simp
 have har := r.arg (P := P) t0 x0 hx hg
 obtain ⟨b, hb1, hv⟩ := har.2 _ ho
 have hobj := r.obj t 0
 rw [ho] at hobj
 obtain ⟨b2, cs, e, hb2, hh, hal⟩ := hobj
 rw [hb1] at hb2
 have hbb : b2 = b := by injection hb2 with hb2; injection hb2 with hb2; injection hb2 with hb2; exact hb2.symm
 subst hbb
 have hblk : blk (h t 0).v = some b2 := by rw [hb1]; rfl
 have hub := r.ub t 0 b2 hob hblk
 have hown := r.own t 0 b2 hob hub
 have hvals := r.argRows true hargs (fun _ => hst)
 simp only [if_true] at hvals
 unfold Oper.wp
 rw [run_callOp hop hc hs.1, Oper.upon_enter]
 rw [show (cl.args.toList.map a.eval).toArray = (ptr b2 :: xs.map a.eval).toArray by rw [ha]; simp [hv]]
 have hT : ∀ k i, Tof T0 X k i → k < w.heap.size ∧ k ≠ b2 := by
  intro k i hk
  refine ⟨r.Tlt hk, ?_⟩
  rintro rfl
  rcases hk with hk | hk
  ·exact hown.1 (r.hT _ _ hk)
  ·exact hown.2.1 hk
 refine (hs.2 (Tof T0 X) w b2 _ hT hown.2.2 ⟨cs, e, hh, d_map_rd hal⟩ hvals).mono ?_
 rintro e' w' ⟨vs, css, Y, rfl, hkeep, hY, ⟨cs', e2, hh', hal'⟩, hform, hlen, hres⟩
 rw [hd]
 have hTT : ∀ {v : Value} {x : D}, Rd (Tof (Tof T0 X) Y) w' v x → Rd (Tof T0 (fun k => X k ∨ Y k)) w' v x := fun hr => hr.mono (fun k i v hk hc => ⟨hc, by
  rcases hk with (hk | hk) | hk
  ·exact .inl hk
  ·exact .inr (.inl hk)
  ·exact .inr (.inr hk)⟩)
 have r1 := r.changeBox (w' := w') (X' := fun k => X k ∨ Y k) (row' := row') ho hb1 hkeep.size (fun k hk hne => hkeep.block k ⟨hk, hne⟩) (fun k hk => .inl hk) (fun k hk => hk.imp id (hY k)) ⟨cs', e2, hh', hal'.imp fun _ _ => hTT⟩
 have hBk : Keep B w w' := ⟨hkeep.os, hkeep.tape, hkeep.output, hkeep.size, fun k hk => hkeep.block k ⟨r.hB k hk, fun e => hown.1 (e ▸ hk)⟩⟩
 cases dp with
 | false =>
  simp only [Bool.false_eq_true, if_false] at hres
  exact hK _ _ ⟨_, _, r1.put d _ _ (resVd_rel hform (all2_all2 (fun _ _ _ _ _ => hTT) hres))⟩ hBk
 | true =>
  simp only [if_true] at hres
  obtain ⟨hfr1, hq⟩ := hfr rfl
  refine hK _ _ (r1.newRes hfr1 (fun k => w.heap.size ≤ k ∧ k < w'.heap.size ∧ ¬ Y k) (fun k hk => ⟨fun hb => by have := r.hB k hb; omega, ?_, hk.2.1, fun u j hn hu => ?_⟩) qs hform hlen hres hq) hBk
  ·rintro (hx | hy)
   ·have := (r.hX k hx).2; omega
   ·exact hk.2.2 hy
  ·have hn' : σ.ob u j ≠ .none := by
    by_cases hc : u = t ∧ j = 0
    ·obtain ⟨rfl, rfl⟩ := hc; exact hob
    ·rw [St.ob_setOb σ t 0 _ u j hob, if_neg hc] at hn; exact hn
   have := (r.own u j k hn' hu).2.2; omega
theorem sound_callN (r : Rel T0 B σ a w X h) {o : Oper} {cl : Call} {f : FuncId} {d : Nat} {rows0 : List (List D)} {row' : List D} (hop : o.op = .call cl) (hc : cl.callee = .value (.func f)) (hd : o.dst = some d) (hfr : σ.fresh d = true)
  (hargs : argRows P σ cl.args.toList cl.argTypes.toList rows0) (hst : argsStable P σ cl.args.toList cl.argTypes.toList = true) (hs : SoundN P f rows0 row')
  {K : Act → World → Prop} {Q : Exit → Act → World → Prop} (hK : ∀ a' w', RelE T0 B (σ.new d (.one (.bptr d 0)) [.box (row'.map .d)]) a' w' → Keep B w w' → K a' w') : o.wp P a w K Q := by
 have hlt := St.fresh_lt hfr
 have hvals := r.argRows true hargs (fun _ => hst)
 simp only [if_true] at hvals
 unfold Oper.wp
 rw [run_callOp hop hc hs.1, Oper.upon_enter]
 refine (hs.2 (Tof T0 X) w _ (fun k i hk => r.Tlt hk) hvals).mono ?_
 rintro e' w' ⟨b, Y, rfl, hbel, hb1, hb2, hY, cs', e2, hh', hal'⟩
 rw [hd]
 have hTT : ∀ {v : Value} {x : D}, Rd (Tof (Tof T0 X) Y) w' v x → Rd (Tof T0 (fun k => X k ∨ Y k)) w' v x := fun hr => hr.mono (fun k i v hk hc => ⟨hc, by
  rcases hk with (hk | hk) | hk
  ·exact .inl hk
  ·exact .inr (.inl hk)
  ·exact .inr (.inr hk)⟩)
 have hob : (σ.new d (.one (.bptr d 0)) [.box (row'.map .d)]).ob d 0 = .box (row'.map .d) := by rw [St.ob_new]; simp [hlt, obIn]
 refine hK _ _ ⟨fun k => X k ∨ Y k, fun t j => if t = d then Hd.of (ptr b) else h t j, ?_⟩ (Keep.of_below hbel r.hB)
 refine r.new hfr (Below.grownBy hbel) (fun k hk => .inl hk) (fun k hk => hk.imp id (fun hy => ⟨(hY k hy).1, (hY k hy).2.1⟩)) _ _ _ (fun _ => Hd.of (ptr b)) ⟨rfl, fun cells _ => ⟨b, by simp [Hd.of], rfl⟩⟩ (fun j => ?_) (fun j k _ hk => hk) (fun j k _ hk => ?_) (fun i j k hi hj _ _ => ?_)
 ·cases j with
  | zero => exact ⟨b, cs', e2, rfl, hh', map_d_rel (hal'.imp fun _ _ => hTT)⟩
  | succ j => simp [obIn, ObRel]
 ·simp [Hd.of, blk] at hk; subst hk
  refine ⟨hb1, ?_, hb2⟩
  rintro (hx | hy)
  ·have := (r.hX _ hx).2; omega
  ·exact (hY _ hy).2.2 rfl
 ·have hz : ∀ j, obIn [Ob.box (row'.map .d)] j ≠ .none → j = 0 := by
   intro j hj
   cases j with
   | zero => rfl
   | succ j => simp [obIn] at hj
  rw [hz i hi, hz j hj]
end
section
variable {P : Program} {σ : St} {k : Fr}
theorem clean_resS {dp : Bool} {d d' : Nat} {res : List (List D)} {qs : List Bool} (hne : d ≠ d') (hcl : cleanB σ d = true) : cleanB (resS dp σ d' res qs) d = true := by
 cases dp with
 | false => exact clean_put hne hcl
 | true => exact clean_new hne hcl
attribute [simp] resS
theorem sound_ofB {f : FuncId} {fn : Func} {c : Code} (hf : P.funcs[f]? = some fn) (hb : fn.body = some c) (hok : fnOk P f = true) {dp : Bool} {row : List D} {args : List (List D)} {row' : List D} {res : List (List D)}
  (hw : ∀ v, @WI P (initX fn.ntmps [] v (row.map .d) [] args) ⟨c⟩ (.fin (RetB P fn v dp row' res))) : SoundB P f dp row args row' res := sound_of_awpB hf hb hok (fun v => wx_awp (hw v))
theorem retB {fn : Func} {v : Value} {dp : Bool} {row' : List D} {res : List (List D)} {rv : List ResultVar} (hf : fn.results = rv.toArray) (h : (evRes P σ rv).1 ∧ σ.head? = some (.fix v (.one (.bptr 0 0)), .box (row'.map .d) :: (σ.head?.map (fun e => e.2.tail)).getD []) ∧
  (if dp then mvRows σ (evRes P σ rv).2 = some res ∧ mvRowsOk σ (evRes P σ rv).2 ∧ (srefs (evRes P σ rv).2.flatten).Nodup else rdRows σ (evRes P σ rv).2 = some res)) : RetB P fn v dp row' res .ret σ :=
 ⟨.inl rfl, ⟨_, h.2.1⟩, _, by rw [hf]; exact evRes_ok h.1, h.2.2⟩
theorem sound_ofN {f : FuncId} {fn : Func} {c : Code} (hf : P.funcs[f]? = some fn) (hb : fn.body = some c) (hok : fnOk P f = true) {args : List (List D)} {row' : List D}
  (hw : @WI P (initSt fn.ntmps args) ⟨c⟩ (.fin (RetN P fn row'))) : SoundN P f args row' := sound_of_awpN hf hb hok (wx_awp hw)
theorem retN {fn : Func} {row' : List D} {rv : List ResultVar} (u : Nat) (hf : fn.results = rv.toArray) (h : (evRes P σ rv).1 ∧ (evRes P σ rv).2 = [[.bptr u 0]] ∧ σ.ob u 0 = .box (row'.map .d)) : RetN P fn row' .ret σ :=
 ⟨.inl rfl, u, by rw [hf, ← h.2.1]; exact evRes_ok h.1, h.2.2⟩
theorem callB {A : AllI} {o : OpI} {l : OpsI} {cl : Call} {f : FuncId} {d : Nat} {x0 : Operand} {xs : List Operand} {t0 : TypeId} {ts : List TypeId} {rows0 res : List (List D)} {row row' : List D} {dp : Bool} {t : Nat} (qs : List Bool) (hop : o.o.op = .call cl) (hc : cl.callee = .value (.func f)) (hgd : o.o.guard = none) (hd : o.o.dst = some d) (hbar : A.bar o.o = true)
  (ha : cl.args.toList = x0 :: xs) (_hat : cl.argTypes.toList = t0 :: ts) (hs : SoundB P f dp row rows0 row' res) (hx : gOf (look P σ t0 x0) = true ∧ unc (look P σ t0 x0) = .one (.bptr t 0)) (ho : σ.ob t 0 = .box (row.map .d))
  (hargs : (evArgs P σ xs ts).1) (hrows : (evArgs P σ xs ts).2 = some rows0) (hst : argsStable P σ xs ts = true) (hfr : dp = true → (σ.setOb t 0 (.box (row'.map .d))).fresh d = true ∧ flatQ qs res.flatten)
  (h : @EI P (resS dp (σ.setOb t 0 (.box (row'.map .d))) d res qs) A l k) : @SI P σ A o l k := by
 refine ⟨_, .inr ⟨hbar, ?_, fun d' hd' hcl => clean_resS (fun e => hd' (by rw [hd, e])) (clean_setOb hcl)⟩, ev_run h⟩
 rintro T0 B a w K Q' ⟨X, hh, r⟩ hK
 have hw : Region.wanted o.o (yielded A.ops a.tmps) = true := by simp [Region.wanted, hgd]
 rw [if_pos hw]
 exact sound_callB r qs hop hc hd ha hx.1 hx.2 ho (evArgs_ok hargs hrows) hst hs hfr hK
theorem callN {A : AllI} {o : OpI} {l : OpsI} {cl : Call} {f : FuncId} {d : Nat} {rows0 : List (List D)} {row' : List D} (hop : o.o.op = .call cl) (hc : cl.callee = .value (.func f)) (hgd : o.o.guard = none) (hd : o.o.dst = some d) (hbar : A.bar o.o = true) (hs : SoundN P f rows0 row')
  (hargs : (evArgs P σ cl.args.toList cl.argTypes.toList).1) (hrows : (evArgs P σ cl.args.toList cl.argTypes.toList).2 = some rows0) (hst : argsStable P σ cl.args.toList cl.argTypes.toList = true) (hfr : σ.fresh d = true)
  (h : @EI P (σ.new d (.one (.bptr d 0)) [.box (row'.map .d)]) A l k) : @SI P σ A o l k := by
 refine ⟨_, .inr ⟨hbar, ?_, fun d' hd' hcl => clean_new (fun e => hd' (by rw [hd, e])) hcl⟩, ev_run h⟩
 rintro T0 B a w K Q' ⟨X, hh, r⟩ hK
 have hw : Region.wanted o.o (yielded A.ops a.tmps) = true := by simp [Region.wanted, hgd]
 rw [if_pos hw]
 exact sound_callN r hop hc hd hfr (evArgs_ok hargs hrows) hst hs hK
end
end Go.Vm
namespace Go.Vm
open Go.RowKit
def PostC (w : World) (S : Nat → Prop) (b : Nat) (row' : List D) (e : Ending) (w' : World) : Prop :=
 e = .returned (.tuple #[]) ∧ Keep (fun k => k < w.heap.size ∧ k ≠ b ∧ ¬ S k) w w' ∧ ∃ cs e', w'.heap[b]? = some (.cells cs e' (0, 0)) ∧ OwnC w' cs.toList row' (fun k => (S k ∨ (w.heap.size ≤ k ∧ k < w'.heap.size)) ∧ k ≠ b)
def SoundC (P : Program) (f : FuncId) (args : List (List D)) (row row' : List D) : Prop :=
 fnOk P f = true ∧ ∀ (T : CS) (S : Nat → Prop) (w : World) (b : Nat) (vals : List Value), (∀ k i, T k i → k < w.heap.size ∧ k ≠ b ∧ ¬ S k) → (∀ k, S k → k < w.heap.size ∧ k ≠ b) → b < w.heap.size →
  (∃ cs e, w.heap[b]? = some (.cells cs e (0, 0)) ∧ OwnC w cs.toList row S) → AllRd T w vals args → Calls P f (vals ++ [ptr b]).toArray w (PostC w S b row')
def RetC (P : Program) (fn : Func) (p : Nat) (v : Value) (row' : List D) (e : Exit) (σ : St) : Prop :=
 (e = .ret ∨ e = .normal) ∧ AllRes P σ fn.results.toList [] ∧ ∃ ats obs, σ[p]? = some (.fix v (.one (.bptr p 0)), .box ats :: obs) ∧ mvRow σ ats = some row' ∧ mvRowOk σ ats ∧ (srefs ats).Nodup
def PostQ (w : World) (S : Nat → Prop) (sz : Nat) (rows' : List (List D)) (e : Ending) (w' : World) : Prop :=
 ∃ u, e = .returned u ∧ Keep (fun k => k < w.heap.size ∧ ¬ S k) w w' ∧ Own w' u (.sl sz rows') (fun k => S k ∨ (w.heap.size ≤ k ∧ k < w'.heap.size))
def SoundQ (P : Program) (f : FuncId) (sz : Nat) (rows : List (List D)) (args : List (List D)) (rows' : List (List D)) : Prop :=
 fnOk P f = true ∧ ∀ (T : CS) (S : Nat → Prop) (w : World) (v : Value) (vals : List Value), (∀ k i, T k i → k < w.heap.size ∧ ¬ S k) → (∀ k, S k → k < w.heap.size) → Own w v (.sl sz rows) S →
  AllRd T w vals args → Calls P f (v :: vals).toArray w (PostQ w S sz rows')
def RetQ (P : Program) (fn : Func) (sz : Nat) (rows' : List (List D)) (e : Exit) (σ : St) : Prop :=
 (e = .ret ∨ e = .normal) ∧ ∃ x, AllRes P σ fn.results.toList [[x]] ∧ mvRow σ [x] = some [.sl sz rows'] ∧ mvRowOk σ [x]
def initQ (n : Nat) (sz : Nat) (rows : List (List D)) (args : List (List D)) : St := (.one (.sref 0 0 0 rows.length), [.arr false sz rows]) :: (argV args ++ List.replicate (n - (args.length + 1)) (V.any, []))
def At.isO (u : Nat) : At → Bool
 | .sref t _ _ _ => t == u
 | .ptr t _ _ _ => t == u
 | .tref t _ _ _ => t == u
 | _ => false
def flatRows (rows : List (List D)) : Prop := ∀ r ∈ rows, ∀ x ∈ r, x.scalar = true
theorem flat_map {α : Type} {f : α → List D} (hf : ∀ a, ∀ x ∈ f a, x.scalar = true) (l : List α) : flatRows (l.map f) := by
 intro r hr x hx
 obtain ⟨a, _, rfl⟩ := List.mem_map.1 hr
 exact hf a x hx
section
variable {P : Program} {T0 : CS} {B : Nat → Prop} {σ : St} {a : Act} {w w' : World} {X X' : Nat → Prop} {h : Nat → Nat → Hd}
theorem ob_resQ {hf : Nat → Hd} {row : List D} {qs : List Bool} (hq : flatQ qs row) (k4 : ∀ j size rows, row[j]? = some (.sl size rows) → ∀ T h ob, ObRel T h ob w (hf j) (.arr true size rows)) (T : CS) (ob : Nat → Nat → Ob) (j : Nat) : ObRel T h ob w (hf j) (obIn (resObsQ qs row) j) := by
 by_cases hne : obIn (resObsQ qs row) j = .none
 ·rw [hne]; trivial
 ·obtain ⟨size, rows, hj⟩ := (resObsQ_get qs row j hq).2 hne
  obtain ⟨q, hq', hqf⟩ := (resObsQ_get qs row j hq).1 size rows hj
  rw [hq']
  have := k4 j size rows hj T h ob
  cases q with
  | true => exact this
  | false => exact ob_flat this (hqf rfl)
theorem sound_of_awpC {f : FuncId} {fn : Func} {c : Code} (hf : P.funcs[f]? = some fn) (hb : fn.body = some c) (hok : fnOk P f = true) {args : List (List D)} {row row' : List D} (qs : List Bool) (hq : flatQ qs row)
  (hw : ∀ v, AWP P c (RetC P fn args.length v row') (initX fn.ntmps args v (resAts args.length 1 row) (resObsQ qs row) [])) : SoundC P f args row row' := by
 refine ⟨hok, fun T S w b vals hT hS hb' ⟨cs0, e0, hh0, hown0⟩ hargs => calls_of_wp hf hb ?_⟩
 obtain ⟨hfd, Sk, k1, k2, k3, k4⟩ := own_hds hown0
 have hinit := initX_rel (w := w) (T := T) (S := S) (n := fn.ntmps) (b := b) (pre := args) (post := []) (cells := resAts args.length 1 row) (obs := resObsQ qs row) (vals1 := vals) (vals2 := []) (fun j => match j with | 0 => Hd.of (ptr b) | j + 1 => hfd j)
  hT hS hb' rfl (fun h ob hh hob => ⟨b, cs0, e0, rfl, hh0, resAts_rel hown0.top (fun i size rows hi => by
    obtain ⟨q, hq', _⟩ := (resObsQ_get qs row i hq).1 size rows hi
    exact ⟨q, by rw [hob, Nat.add_comm, obIn_succ]; exact hq'⟩) (fun i c hc => by rw [hh, Nat.add_comm]; exact k1 i c hc)⟩)
  (fun h ob j => ob_resQ hq (fun j size rows hj => (k4 j size rows hj).2.2) _ _ j)
  (fun j k hn hk => by
   obtain ⟨size, rows, hj⟩ := (resObsQ_get qs row j hq).2 hn
   exact (k4 j size rows hj).2.1 k hk)
  (fun j k hn hk => by
   obtain ⟨size, rows, hj⟩ := (resObsQ_get qs row j hq).2 hn
   exact k2 j k ((k4 j size rows hj).1 k hk))
  (fun i j k hn hn' hk hk' => by
   obtain ⟨size, rows, hj⟩ := (resObsQ_get qs row i hq).2 hn
   obtain ⟨size', rows', hj'⟩ := (resObsQ_get qs row j hq).2 hn'
   exact k3 i j k ((k4 i size rows hj).1 k hk) ((k4 j size' rows' hj').1 k hk')) hargs .nil
 refine wp_mono (hw (ptr b) T _ _ w hinit) ?_
 rintro e a' w' ⟨σ', ⟨he, hres, ats, obs, hat, hmv, hmok, hnd⟩, ⟨X, h, r⟩, hkeep⟩
 obtain ⟨vs, css, hrun, hform, hal⟩ := results_run r hres
 cases hal
 cases hform
 have hpos : args.length < σ'.length := (List.getElem?_eq_some_iff.1 hat).1
 have hg0 : σ'.get args.length = .fix (ptr b) (.one (.bptr args.length 0)) := by unfold St.get; rw [hat]
 have ho0 : σ'.ob args.length 0 = .box ats := by unfold St.ob; rw [hat]; rfl
 have hslot := r.slot _ hpos
 rw [hg0] at hslot
 obtain ⟨hveq, hv1⟩ := hslot
 obtain ⟨b1, hb1, hv2⟩ := hv1.2 _ ho0
 rw [hveq] at hv2
 have hbb : b1 = b := by injection hv2 with hv2; injection hv2 with hv2; injection hv2 with hv2; exact hv2.symm
 subst hbb
 have hobj := r.obj args.length 0
 rw [ho0] at hobj
 obtain ⟨b2, cs', e', hb2, hh', hal'⟩ := hobj
 rw [hb1] at hb2
 have hbb : b2 = b1 := by injection hb2 with hb2; injection hb2 with hb2; injection hb2 with hb2; exact hb2.symm
 subst hbb
 have hub := r.ub args.length 0 b2 (by rw [ho0]; simp) (by rw [hb1]; rfl)
 have goal : a'.defers = [] ∧ ∃ v, (results fn a'.tmps).run P w' = .ok v w' ∧ PostC w S b2 row' (.returned v) w' := by
  refine ⟨r.defers, _, hrun, rfl, hkeep, cs', e', hh', (mv_own r hal' hmv hmok hnd).mono (fun k hk => ?_)⟩
  have hg := r.given_free _ k hk
  have hne : k ≠ b2 := by
   rintro rfl
   obtain ⟨p, hp, hne, hu⟩ := hk
   obtain ⟨e1, e2⟩ := r.inj p.1 p.2 args.length 0 k hne (by rw [ho0]; simp) hu hub
   obtain ⟨i, lo, len, hx⟩ := srefs_get hp
   obtain ⟨d, hd, hmd⟩ := (All2.get (R := fun x d => mvD σ' x = some d) (All2.of_get (mvRow_get hmv).1 (fun i a b h1 h2 => (mvRow_get hmv).2 i a b h1 h2)) i _ hx)
   rw [e1, e2] at hmd
   simp [mvD, ho0] at hmd
  refine ⟨?_, hne⟩
  by_cases hs : S k
  ·exact .inl hs
  ·refine .inr ⟨?_, hg.2.2.1⟩
   rcases Nat.lt_or_ge k w.heap.size with hlt | hge
   ·exact absurd ⟨hlt, hne, hs⟩ hg.1
   ·exact hge
 rcases he with rfl | rfl
 ·exact goal
 ·exact goal
theorem Rel.reBox (r : Rel T0 B σ a w X h) {u b : Nat} {cells : List At} {row' : List D} {qs : List Bool} (ho : σ.ob u 0 = .box cells) (hv : (h u 0).v = ptr b) (hlt : u < σ.length) (M S' : Nat → Prop) (hsz : w.heap.size ≤ w'.heap.size) (hw : ∀ k, k < w.heap.size → k ≠ b → ¬ M k → w'.heap[k]? = w.heap[k]?)
  (hm : ∀ k, M k → ¬ B k ∧ ¬ X k ∧ ∀ t j, σ.ob t j ≠ .none → ¬ (h t j).u k) (hone : (σ.setOb u 0 .none).anyA (At.isO u) = false) (hq : flatQ qs row') {cs' : Array Value} {e' : TypeId} (hh' : w'.heap[b]? = some (.cells cs' e' (0, 0)))
  (hown : OwnC w' cs'.toList row' S') (hS' : ∀ k, S' k → (w.heap.size ≤ k ∨ M k) ∧ k < w'.heap.size ∧ k ≠ b) : RelE T0 B (σ.new u (σ.get u) (.box (resAts u 1 row') :: resObsQ qs row')) a w' := by
 have hob : σ.ob u 0 ≠ .none := by rw [ho]; simp
 have hblk : blk (h u 0).v = some b := by rw [hv]; rfl
 have hub := r.ub u 0 b hob hblk
 have hbB := r.own u 0 b hob hub
 obtain ⟨hfd, Sk, k1, k2, k3, k4⟩ := own_hds hown
 generalize hσ : σ.new u (σ.get u) (.box (resAts u 1 row') :: resObsQ qs row') = σ2
 have hobu : ∀ j, σ2.ob u j = obIn (.box (resAts u 1 row') :: resObsQ qs row') j := fun j => by rw [← hσ, St.ob_new]; simp [hlt]
 have hobn : ∀ t j, t ≠ u → σ2.ob t j = σ.ob t j := fun t j hne => by rw [← hσ, St.ob_new, if_neg (fun hh => hne hh.1)]
 have hget : ∀ t, σ2.get t = σ.get t := by
  intro t
  rw [← hσ, St.get_new]
  split
  ·rename_i hh; rw [hh.1]
  ·rfl
 have hlen : σ2.length = σ.length := by rw [← hσ, St.new_length]
 let hd' : Nat → Hd := fun j => match j with | 0 => h u 0 | j + 1 => hfd j
 let h' : Nat → Nat → Hd := fun t j => if t = u then hd' j else h t j
 have hT : ∀ k i v, Tof T0 X k i → w.cell? ⟨k, i, none⟩ = some v → w'.cell? ⟨k, i, none⟩ = some v ∧ Tof T0 X k i := by
  intro k i v hk hc
  refine ⟨?_, hk⟩
  have hne : k ≠ b := by
   rintro rfl
   rcases hk with hk | hk
   ·exact hbB.1 (r.hT _ _ hk)
   ·exact hbB.2.1 hk
  have hnm : ¬ M k := by
   intro hmk
   rcases hk with hk | hk
   ·exact (hm k hmk).1 (r.hT _ _ hk)
   ·exact (hm k hmk).2.1 hk
  rw [World.cell?_of_block (hw k (r.Tlt hk) hne hnm)]; exact hc
 have at_ : ∀ {x : At} {v : Value}, At.isO u x = false → AtRel (Tof T0 X) h σ.ob w x v → AtRel (Tof T0 X) h' σ2.ob w' x v := by
  intro x v hpx rx
  cases x with
  | any => exact rx
  | d x => exact Rd.mono hT rx
  | nil s => exact rx
  | sref t j lo len =>
   have hne : t ≠ u := by simpa [At.isO] using hpx
   simp only [AtRel, h', if_neg hne, hobn t j hne]; exact rx
  | ptr t j i c =>
   have hne : t ≠ u := by simpa [At.isO] using hpx
   simp only [AtRel, h', if_neg hne, hobn t j hne]; exact rx
  | tref t j i c =>
   have hne : t ≠ u := by simpa [At.isO] using hpx
   simp only [AtRel, h', if_neg hne, hobn t j hne]; exact rx
  | bptr t c =>
   by_cases hc : t = u
   ·subst hc
    refine ⟨rx.1, fun cells' _ => ?_⟩
    simp only [h', if_true, hd']; exact rx.2 _ ho
   ·simp only [AtRel, h', if_neg hc, hobn t 0 hc]; exact rx
  | fn f t =>
   by_cases hc : t = u
   ·subst hc
    refine ⟨rx.1, fun cells' _ => ?_⟩
    simp only [h', if_true, hd']; exact rx.2 _ ho
   ·simp only [AtRel, h', if_neg hc, hobn t 0 hc]; exact rx
  | rptr rr c =>
   obtain ⟨b, off, g, e, hk⟩ := rx
   exact ⟨b, off, g, e, fun k d hd => ⟨(hT _ _ _ (hk k d hd).2.1 (hk k d hd).1).1, (hk k d hd).2.1, Rd.mono hT (hk k d hd).2.2⟩⟩
 have hobj : ∀ j, obIn (.box (resAts u 1 row') :: resObsQ qs row') j ≠ .none → j = 0 ∨ ∃ i size rows, j = i + 1 ∧ row'[i]? = some (.sl size rows) := by
  intro j hn
  cases j with
  | zero => exact .inl rfl
  | succ j =>
   rw [obIn_succ] at hn
   obtain ⟨size, rows, hj⟩ := (resObsQ_get qs row' j hq).2 hn
   exact .inr ⟨j, size, rows, rfl, hj⟩
 have hu0 : ∀ k, (h u 0).u k → k < w.heap.size ∧ ¬ M k ∧ ¬ B k ∧ ¬ X k := fun k hk => ⟨(r.own u 0 k hob hk).2.2, fun hmk => (hm k hmk).2.2 u 0 hob hk, (r.own u 0 k hob hk).1, (r.own u 0 k hob hk).2.1⟩
 have hfu : ∀ i size rows k, row'[i]? = some (.sl size rows) → (hfd i).u k → (w.heap.size ≤ k ∨ M k) ∧ k < w'.heap.size ∧ k ≠ b := fun i size rows k hi hk => hS' k (k2 i k ((k4 i size rows hi).1 k hk))
 have hkeepu : ∀ t j, t ≠ u → σ.ob t j ≠ .none → ∀ k, (h t j).u k → w'.heap[k]? = w.heap[k]? := by
  intro t j hne hn k hk
  refine hw k (r.own t j k hn hk).2.2 ?_ (fun hmk => (hm k hmk).2.2 t j hn hk)
  rintro rfl
  exact hne (r.inj t j u 0 k hn hob hk hub).1
 refine ⟨X, h', by rw [r.size, hlen], r.defers, fun k hk => Nat.lt_of_lt_of_le (r.hB k hk) hsz, fun k hk => ⟨(r.hX k hk).1, Nat.lt_of_lt_of_le (r.hX k hk).2 hsz⟩, r.hT, fun t ht => ?_, fun t j => ?_, fun t j k hn hk => ?_, fun t j k hn hk => ?_, fun t j t' j' k hn hn' hk hk' => ?_⟩
 ·rw [hlen] at ht
  rw [hget]
  have hp : (σ.get t).anyA (At.isO u) = false := by have := St.anyA_get hone t; rwa [St.get_setOb] at this
  exact VRel.map at_ hp (r.slot t ht)
 ·by_cases hc : t = u
  ·subst hc
   rw [hobu]
   cases j with
   | zero =>
    simp only [h', if_true, hd', obIn_zero]
    exact ⟨b, cs', e', hv, hh', resAts_rel hown.top (fun i size rows hi => by
     obtain ⟨q, hq', _⟩ := (resObsQ_get qs row' i hq).1 size rows hi
     exact ⟨q, by rw [hobu, Nat.add_comm, obIn_succ]; exact hq'⟩) (fun i c hc => by simp only [if_true, Nat.add_comm 1 i]; exact k1 i c hc)⟩
   | succ j =>
    simp only [h', if_true, hd', obIn_succ]
    exact ob_resQ hq (fun j size rows hj => (k4 j size rows hj).2.2) _ _ j
  ·rw [hobn t j hc]
   simp only [h', if_neg hc]
   by_cases hn : σ.ob t j = .none
   ·rw [hn]; trivial
   ·have hp : obsAny (At.isO u) [σ.ob t j] = false := by
     have := St.anyA_ob hone t j
     rwa [St.ob_setOb_none, if_neg (fun hh => hc hh.1)] at this
    exact ObRel.map at_ hT (fun ho b => r.ub t j b ho) (fun hn k hk => hkeepu t j hc hn k hk) hp (r.obj t j)
 ·by_cases hc : t = u
  ·subst hc
   rw [hobu] at hn
   rcases hobj j hn with rfl | ⟨i, size, rows, rfl, hi⟩
   ·simp only [h', if_true, hd'] at hk ⊢; exact r.ub t 0 k hob hk
   ·simp only [h', if_true, hd'] at hk ⊢; exact (k4 i size rows hi).2.1 k hk
  ·rw [hobn t j hc] at hn
   simp only [h', if_neg hc] at hk ⊢; exact r.ub t j k hn hk
 ·by_cases hc : t = u
  ·subst hc
   rw [hobu] at hn
   rcases hobj j hn with rfl | ⟨i, size, rows, rfl, hi⟩
   ·simp only [h', if_true, hd'] at hk
    have := hu0 k hk; exact ⟨this.2.2.1, this.2.2.2, by omega⟩
   ·simp only [h', if_true, hd'] at hk
    have := hfu i size rows k hi hk
    rcases this.1 with h1 | h1
    ·exact ⟨fun hb => by have := r.hB k hb; omega, fun hx => by have := (r.hX k hx).2; omega, this.2.1⟩
    ·exact ⟨(hm k h1).1, (hm k h1).2.1, this.2.1⟩
  ·rw [hobn t j hc] at hn
   simp only [h', if_neg hc] at hk
   have := r.own t j k hn hk; exact ⟨this.1, this.2.1, by omega⟩
 ·have key : ∀ t j i k, t ≠ u → σ.ob t j ≠ .none → (h t j).u k → obIn (.box (resAts u 1 row') :: resObsQ qs row') i ≠ .none → (hd' i).u k → False := by
   intro t j i k hne hn hk hn' hk'
   rcases hobj i hn' with rfl | ⟨i, size, rows, rfl, hi⟩
   ·exact hne (r.inj t j u 0 k hn hob hk hk').1
   ·have h1 := hfu i size rows k hi hk'
    have h2 := r.own t j k hn hk
    rcases h1.1 with h3 | h3
    ·omega
    ·exact (hm k h3).2.2 t j hn hk
  by_cases hc : t = u
  ·by_cases hc' : t' = u
   ·subst hc; subst hc'
    rw [hobu] at hn hn'
    simp only [h', if_true] at hk hk'
    refine ⟨rfl, ?_⟩
    rcases hobj j hn with rfl | ⟨i, size, rows, rfl, hi⟩
    ·rcases hobj j' hn' with rfl | ⟨i', size', rows', rfl, hi'⟩
     ·rfl
     ·have h1 := hu0 k hk
      have h2 := hfu i' size' rows' k hi' hk'
      rcases h2.1 with h3 | h3
      ·omega
      ·exact absurd h3 h1.2.1
    ·rcases hobj j' hn' with rfl | ⟨i', size', rows', rfl, hi'⟩
     ·have h1 := hu0 k hk'
      have h2 := hfu i size rows k hi hk
      rcases h2.1 with h3 | h3
      ·omega
      ·exact absurd h3 h1.2.1
     ·rw [k3 i i' k ((k4 i size rows hi).1 k hk) ((k4 i' size' rows' hi').1 k hk')]
   ·subst hc
    rw [hobu] at hn
    rw [hobn t' j' hc'] at hn'
    simp only [h', if_true, if_neg hc'] at hk hk'
    exact (key t' j' j k hc' hn' hk' hn hk).elim
  ·rw [hobn t j hc] at hn
   simp only [h', if_neg hc] at hk
   by_cases hc' : t' = u
   ·subst hc'
    rw [hobu] at hn'
    simp only [h', if_true] at hk'
    exact (key t j j' k hc hn hk hn' hk').elim
   ·rw [hobn t' j' hc'] at hn'
    simp only [h', if_neg hc'] at hk'
    exact r.inj t j t' j' k hn hn' hk hk'
end
end Go.Vm
namespace Go.Vm
open Go.RowKit
section
variable {P : Program} {T0 : CS} {B : Nat → Prop} {σ : St} {a : Act} {w w' : World} {X X' : Nat → Prop} {h : Nat → Nat → Hd}
theorem run_callFn {o : Oper} {c : Call} {t : Nat} {f : FuncId} {x : Value} (hop : o.op = .call c) (hc : c.callee = .value (.tmp t)) (hv : a.tmps.getD t undef = .func (.func f) #[] #[x]) (hf : fnOk P f = true) :
  (execOp a.eval o).run P w = .ok (.enter f (c.args.toList.map a.eval ++ [x]).toArray) w := by
 unfold fnOk at hf
 split at hf
 ·rename_i fn hfn
  simp only [Bool.and_eq_true, bne_iff_ne, ne_eq] at hf
  obtain ⟨cd, hb⟩ := Option.isSome_iff_exists.1 hf.1
  obtain ⟨callee, args, ats⟩ := c
  simp only at hc; subst hc
  have hm : (args.toList.map a.eval ++ [x]).toArray = args.map a.eval ++ #[x] := by apply Array.toList_inj.1; simp
  have he : a.eval (.tmp t) = .func (.func f) #[] #[x] := hv
  rw [hm]
  simp [execOp, hop, resolve, he, Deferred.ofValue, invoke, callFunc, hfn, hf.2, hb]
 ·cases hf
theorem sound_callC (r : Rel T0 B σ a w X h) {o : Oper} {cl : Call} {f : FuncId} {tf u : Nat} {rows0 : List (List D)} {row row' : List D} {cells : List At} (qs : List Bool) (hop : o.op = .call cl) (hc : cl.callee = .value (.tmp tf)) (hx : σ.get tf = .one (.fn f u)) (ho : σ.ob u 0 = .box cells) (hlt : u < σ.length)
  (hargs : argRows P σ cl.args.toList cl.argTypes.toList rows0) (hst : argsStable P σ cl.args.toList cl.argTypes.toList = true) (hs : SoundC P f rows0 row row') (hmv : mvRow σ cells = some row) (hmok : mvRowOk σ cells) (hnd : (srefs cells).Nodup) (hnu : (u, 0) ∉ srefs cells)
  (hone : ((σ.dropAll (srefs cells)).setOb u 0 .none).anyA (At.isO u) = false) (hq : flatQ qs row')
  {K : Act → World → Prop} {Q : Exit → Act → World → Prop} (hK : ∀ a' w', RelE T0 B (match o.dst with | some d => ((σ.dropAll (srefs cells)).new u (σ.get u) (.box (resAts u 1 row') :: resObsQ qs row')).put d .any | none => (σ.dropAll (srefs cells)).new u (σ.get u) (.box (resAts u 1 row') :: resObsQ qs row')) a' w' → Keep B w w' → K a' w') : o.wp P a w K Q := by
 have hob : σ.ob u 0 ≠ .none := by rw [ho]; simp
 have hfn := r.get tf
 rw [hx] at hfn
 obtain ⟨b, hb1, hv⟩ := hfn.2 _ ho
 have hobj := r.obj u 0
 rw [ho] at hobj
 obtain ⟨b2, cs, e, hb2, hh, hal⟩ := hobj
 rw [hb1] at hb2
 have hbb : b2 = b := by injection hb2 with hb2; injection hb2 with hb2; injection hb2 with hb2; exact hb2.symm
 subst hbb
 have hub := r.ub u 0 b2 hob (by rw [hb1]; rfl)
 have hown := r.own u 0 b2 hob hub
 have hvals := r.argRows true hargs (fun _ => hst)
 simp only [if_true] at hvals
 have hgiv : ∀ k, Given σ h (srefs cells) k → k < w.heap.size ∧ k ≠ b2 := by
  rintro k ⟨p, hp, hne, hu⟩
  refine ⟨(r.own _ _ k hne hu).2.2, ?_⟩
  rintro rfl
  obtain ⟨e1, e2⟩ := r.inj p.1 p.2 u 0 k hne hob hu hub
  exact hnu (by rw [← e1, ← e2]; exact hp)
 have hfree := r.given_free (srefs cells)
 have hT : ∀ k i, Tof T0 X k i → k < w.heap.size ∧ k ≠ b2 ∧ ¬ Given σ h (srefs cells) k := by
  intro k i hk
  refine ⟨r.Tlt hk, ?_, fun hg => ?_⟩
  ·rintro rfl
   rcases hk with hk | hk
   ·exact hown.1 (r.hT _ _ hk)
   ·exact hown.2.1 hk
  ·rcases hk with hk | hk
   ·exact (hfree k hg).1 (r.hT _ _ hk)
   ·exact (hfree k hg).2.1 hk
 unfold Oper.wp
 rw [run_callFn hop hc hv hs.1, Oper.upon_enter]
 refine (hs.2 (Tof T0 X) (Given σ h (srefs cells)) w b2 _ hT hgiv hown.2.2 ⟨cs, e, hh, mv_own r hal hmv hmok hnd⟩ hvals).mono ?_
 rintro e' w' ⟨rfl, hkeep, cs', e2, hh', hown'⟩
 have r1 := r.dropAll (srefs cells)
 have ho1 : (σ.dropAll (srefs cells)).ob u 0 = .box cells := by rw [St.dropAll_ob, if_neg hnu, ho]
 have R := r1.reBox (w' := w') (row' := row') (qs := qs) ho1 hb1 (by rw [St.dropAll_length]; exact hlt) (Given σ h (srefs cells)) _ hkeep.size (fun k hk hne hg => hkeep.block k ⟨hk, hne, hg⟩) (fun k hk => ⟨(hfree k hk).1, (hfree k hk).2.1, (hfree k hk).2.2.2⟩) hone hq hh' hown' (fun k hk => ⟨hk.1.elim .inr (fun h1 => .inl h1.1), by
  rcases hk.1 with h1 | h1
  ·have := (hgiv k h1).1; have := hkeep.size; omega
  ·exact h1.2, hk.2⟩)
 rw [St.dropAll_get] at R
 have hBk : Keep B w w' := ⟨hkeep.os, hkeep.tape, hkeep.output, hkeep.size, fun k hk => hkeep.block k ⟨r.hB k hk, fun e => hown.1 (e ▸ hk), fun hg => (hfree k hg).1 hk⟩⟩
 cases hd : o.dst with
 | none =>
  rw [hd] at hK
  exact hK _ _ R hBk
 | some d =>
  rw [hd] at hK
  obtain ⟨X2, h2, R2⟩ := R
  exact hK _ _ ⟨X2, h2, R2.put d .any _ trivial⟩ hBk
theorem sound_mkFn (r : Rel T0 B σ a w X h) {o : Oper} {f : FuncId} {x : Operand} {d t : Nat} (hop : o.op = .makeFunc (.func f) #[] #[x]) (hd : o.dst = some d) (hg : gOf (look P σ 0 x) = true) (hx : unc (look P σ 0 x) = .one (.bptr t 0)) {cells : List At} (ho : σ.ob t 0 = .box cells)
  {K : Act → World → Prop} {Q : Exit → Act → World → Prop} (hK : ∀ a' w', RelE T0 B (σ.put d (.one (.fn f t))) a' w' → Keep B w w' → K a' w') : o.wp P a w K Q := by
 have har := r.arg (P := P) 0 x hx hg
 obtain ⟨b, hb1, hv⟩ := har.2 _ ho
 exact wp_of_value (v := .one (.fn f t)) r hd ⟨.func (.func f) #[] #[a.eval x], by simp [execOp, hop, Instr.makeFunc], ⟨rfl, fun cells' _ => ⟨b, hb1, by rw [hv]⟩⟩⟩ hK
theorem Rel.flatHead {x : V} {v : Value} {s : Nat} {rows : List (List D)} (r : Rel T0 B ((.fix v x, [.arr true s rows]) :: σ) a w X h) (hf : flatRows rows) (hp : St.anyA At.isTr ((.fix v x, [.arr true s rows]) :: σ) = false) : Rel T0 B ((x, [.arr false s rows]) :: σ) a w X h := by
 have hob0 : St.ob ((x, [.arr false s rows]) :: σ) 0 0 = .arr false s rows := rfl
 have hob : ∀ t j, ¬ (t = 0 ∧ j = 0) → St.ob ((x, [.arr false s rows]) :: σ) t j = St.ob ((.fix v x, [.arr true s rows]) :: σ) t j := by
  intro t j hne
  cases t with
  | zero => cases j with
   | zero => exact absurd ⟨rfl, rfl⟩ hne
   | succ j => rfl
  | succ t => rw [St.ob_succ, St.ob_succ]
 have hne_ : ∀ t j, St.ob ((x, [.arr false s rows]) :: σ) t j ≠ .none → St.ob ((.fix v x, [.arr true s rows]) :: σ) t j ≠ .none := by
  intro t j hn
  by_cases hc : t = 0 ∧ j = 0
  ·obtain ⟨rfl, rfl⟩ := hc; intro hh; cases hh
  ·rwa [hob t j hc] at hn
 have at_ : ∀ {y : At} {u : Value}, At.isTr y = false → AtRel (Tof T0 X) h (St.ob ((.fix v x, [.arr true s rows]) :: σ)) w y u → AtRel (Tof T0 X) h (St.ob ((x, [.arr false s rows]) :: σ)) w y u := by
  intro y u hpy ry
  cases y with
  | any => exact ry
  | d z => exact ry
  | nil q => exact ry
  | sref t j lo len =>
   by_cases hc : t = 0 ∧ j = 0
   ·obtain ⟨rfl, rfl⟩ := hc
    exact ⟨ry.1, fun q size rws hq => by rw [hob0] at hq; cases hq; exact ry.2.1 _ _ _ rfl, fun size rws hq => by rw [hob0] at hq; cases hq⟩
   ·simp only [AtRel, hob t j hc]; exact ry
  | ptr t j i c =>
   by_cases hc : t = 0 ∧ j = 0
   ·obtain ⟨rfl, rfl⟩ := hc
    exact ⟨ry.1, fun q size rws hq => by rw [hob0] at hq; cases hq; exact ry.2 _ _ _ rfl⟩
   ·simp only [AtRel, hob t j hc]; exact ry
  | tref t j i c => cases hpy
  | bptr t c =>
   by_cases hc : t = 0
   ·subst hc; exact ⟨ry.1, fun cells hq => by rw [hob0] at hq; cases hq⟩
   ·simp only [AtRel, hob t 0 (fun hh => hc hh.1)]; exact ry
  | fn f t =>
   by_cases hc : t = 0
   ·subst hc; exact ⟨ry.1, fun cells hq => by rw [hob0] at hq; cases hq⟩
   ·simp only [AtRel, hob t 0 (fun hh => hc hh.1)]; exact ry
  | rptr rr c => exact ry
 refine ⟨by simpa using r.size, r.defers, r.hB, r.hX, r.hT, fun t ht => ?_, fun t j => ?_, fun t j k hn => r.ub t j k (hne_ t j hn), fun t j k hn => r.own t j k (hne_ t j hn), fun t j t' j' k hn hn' => r.inj t j t' j' k (hne_ t j hn) (hne_ t' j' hn')⟩
 ·have hs := r.slot t (by simpa using ht)
  have hpa := St.anyA_get hp t
  cases t with
  | zero =>
   have hs' : VRel (Tof T0 X) h (St.ob ((.fix v x, [.arr true s rows]) :: σ)) w (.fix v x) (a.tmps.getD 0 undef) := hs
   have hpa' : V.anyA At.isTr (.fix v x) = false := hpa
   refine (VRel.map at_ (x := x) ?_ hs'.2.up)
   cases x <;> first | exact hpa' | rfl | exact hs'.2.elim
  | succ t =>
   rw [St.get_succ] at hs hpa ⊢
   exact VRel.map at_ hpa hs
 ·by_cases hc : t = 0 ∧ j = 0
  ·obtain ⟨rfl, rfl⟩ := hc
   rw [hob0]
   exact ob_flat (h := h) (ob := St.ob ((x, [.arr false s rows]) :: σ)) (r.obj 0 0) hf
  ·rw [hob t j hc]
   exact ObRel.map at_ (fun k i v hk hc => ⟨hc, hk⟩) (fun ho k => r.ub t j k ho) (fun _ _ _ => rfl) (St.anyA_ob hp t j) (r.obj t j)
theorem argV_noTr : ∀ (args : List (List D)) (m : Nat), St.anyA At.isTr (argV args ++ List.replicate m (V.any, [])) = false
 | [], m => by
  induction m with
  | zero => rfl
  | succ m ih => simpa [List.replicate_succ, argV, St.anyA, V.anyA, V.any1, obsAny] using ih
 | r :: rs, m => by
  have ih := argV_noTr rs m
  have h1 : ∀ (l : List D), atsAny At.isTr (l.map .d) = false := fun l => by induction l with
   | nil => rfl
   | cons x l ih => simpa [atsAny, At.isTr] using ih
  have : V.anyA At.isTr (vOf (r.map .d)) = false := by
   match r with
   | [] => rfl
   | [x] => rfl
   | x :: y :: l => exact h1 (x :: y :: l)
  simp only [argV, List.cons_append, St.anyA, this, obsAny, ih, Bool.or_false]
theorem sound_of_awpQ {f : FuncId} {fn : Func} {c : Code} (hf : P.funcs[f]? = some fn) (hb : fn.body = some c) (hok : fnOk P f = true) {sz : Nat} {rows : List (List D)} {args : List (List D)} {rows' : List (List D)} (hfl : flatRows rows)
  (hw : AWP P c (RetQ P fn sz rows') (initQ fn.ntmps sz rows args)) : SoundQ P f sz rows args rows' := by
 refine ⟨hok, fun T S w v vals hT hS hown hargs => calls_of_wp hf hb ?_⟩
 have hone : v.oneCell' = true := hown.oneCell
 have hC : OwnC w [v] [D.sl sz rows] S := ⟨rfl, fun k b => k = 0 ∧ S b, fun k x dd hx hdd => by
   cases k with
   | zero => simp at hx hdd; subst hx; subst hdd; exact hown.mono (fun b hb => ⟨rfl, hb⟩)
   | succ k => simp at hx, fun k b hb => hb.2, fun p q b hp hq => by rw [hp.1, hq.1]⟩
 obtain ⟨X0, h0, r0⟩ := initM_rel (n := fn.ntmps) hT hS (.inl ⟨v, rfl, rfl, hone⟩) hC hargs
 have r1 : Rel T (fun b => b < w.heap.size ∧ ¬ S b) (initQ fn.ntmps sz rows args) _ w X0 h0 := Rel.flatHead (x := .one (.sref 0 0 0 rows.length)) (s := sz) r0 hfl (by
  have := argV_noTr args (fn.ntmps - (args.length + 1))
  simp only [St.anyA, V.anyA, V.any1, At.isTr, obsAny, this, Bool.or_false])
 refine wp_mono (hw T _ _ w ⟨X0, h0, r1⟩) ?_
 rintro e a' w' ⟨σ', ⟨he, x, hres, hmv, hmok⟩, ⟨X, h, r⟩, hkeep⟩
 obtain ⟨vs, css, hrun, hform, hal⟩ := results_run r hres
 cases hal with
 | cons h1 hal =>
  cases hal
  cases h1 with
  | @cons _ c0 _ _ hx h1 =>
   cases h1
   cases hform with
   | @cons v0 _ _ _ hu hn =>
    cases hn
    have hu' : v0 = c0 := by
     rcases hu with ⟨c', he', rfl, _⟩ | ⟨hn, _⟩
     ·cases he'; rfl
     ·simp at hn
    subst hu'
    have hnd : (srefs [x]).Nodup := by cases x <;> simp [srefs]
    have hC' := mv_own r (.cons hx .nil) hmv hmok hnd
    have goal : a'.defers = [] ∧ ∃ v, (results fn a'.tmps).run P w' = .ok v w' ∧ PostQ w S sz rows' (.returned v) w' := by
     refine ⟨r.defers, _, hrun, v0, rfl, hkeep, ?_⟩
     obtain ⟨_, Sk, q1, q2, q3⟩ := hC'
     refine ((q1 0 _ _ rfl rfl).mono (q2 0)).mono (fun k hk => ?_)
     have hg := r.given_free _ k hk
     by_cases hs : S k
     ·exact .inl hs
     ·refine .inr ⟨?_, hg.2.2.1⟩
      rcases Nat.lt_or_ge k w.heap.size with hlt | hge
      ·exact absurd ⟨hlt, hs⟩ hg.1
      ·exact hge
    rcases he with rfl | rfl
    ·exact goal
    ·exact goal
theorem sound_callQ (r : Rel T0 B σ a w X h) {o : Oper} {cl : Call} {f : FuncId} {d : Nat} {x0 : Operand} {xs : List Operand} {t0 : TypeId} {ts : List TypeId} {rows0 : List (List D)} {sz : Nat} {rows rows' : List (List D)} {c : At} (hop : o.op = .call cl) (hc : cl.callee = .value (.func f)) (hd : o.dst = some d)
  (ha : cl.args.toList = x0 :: xs) (hg : gOf (look P σ t0 x0) = true) (hx : unc (look P σ t0 x0) = .one c) (hmv : mvRow σ [c] = some [.sl sz rows]) (hmok : mvRowOk σ [c]) (hargs : argRows P σ xs ts rows0) (hst : argsStable P σ xs ts = true) (hs : SoundQ P f sz rows rows0 rows')
  (hfl : flatRows rows') (hfr : (σ.dropAll (srefs [c])).fresh d = true)
  {K : Act → World → Prop} {Q : Exit → Act → World → Prop} (hK : ∀ a' w', RelE T0 B ((σ.dropAll (srefs [c])).new d (.one (.sref d 0 0 rows'.length)) [.arr false sz rows']) a' w' → Keep B w w' → K a' w') : o.wp P a w K Q := by
 have hlt := St.fresh_lt hfr
 have har : AtRel (Tof T0 X) h σ.ob w c (a.eval x0) := r.arg (P := P) t0 x0 hx hg
 have hvals := r.argRows true hargs (fun _ => hst)
 simp only [if_true] at hvals
 have hnd : (srefs [c]).Nodup := by cases c <;> simp [srefs]
 obtain ⟨_, Sk, q1, q2, q3⟩ := mv_own r (.cons har .nil) hmv hmok hnd
 have hown := (q1 0 _ _ rfl rfl).mono (q2 0)
 have hfree := r.given_free (srefs [c])
 unfold Oper.wp
 rw [run_callOp hop hc hs.1, Oper.upon_enter]
 rw [show (cl.args.toList.map a.eval).toArray = (a.eval x0 :: xs.map a.eval).toArray by rw [ha]; simp]
 have hT : ∀ k i, Tof T0 X k i → k < w.heap.size ∧ ¬ Given σ h (srefs [c]) k := by
  intro k i hk
  refine ⟨r.Tlt hk, fun hg => ?_⟩
  rcases hk with hk | hk
  ·exact (hfree k hg).1 (r.hT _ _ hk)
  ·exact (hfree k hg).2.1 hk
 refine (hs.2 (Tof T0 X) (Given σ h (srefs [c])) w _ _ hT (fun k hk => (hfree k hk).2.2.1) hown hvals).mono ?_
 rintro e' w' ⟨u, rfl, hkeep, hown'⟩
 rw [hd]
 have r1 := r.dropAll (srefs [c])
 have hBk : Keep B w w' := ⟨hkeep.os, hkeep.tape, hkeep.output, hkeep.size, fun k hk => hkeep.block k ⟨r.hB k hk, fun hg => (hfree k hg).1 hk⟩⟩
 obtain ⟨e, xs', ho, hz, hb, hl, Sk', hk', hs', hd'⟩ : ∃ e xs, w'.ownsRow 0 e sz u rows'.length xs ∧ (∀ r ∈ rows', r.length = sz) ∧ (∀ b, blk u = some b → (Given σ h (srefs [c]) b ∨ (w.heap.size ≤ b ∧ b < w'.heap.size))) ∧ xs.length = rows'.flatten.length ∧ ∃ Sk : Nat → Nat → Prop, (∀ k x d, xs[k]? = some x → rows'.flatten[k]? = some d → Own w' x d (Sk k)) ∧ (∀ k b, Sk k b → (Given σ h (srefs [c]) b ∨ (w.heap.size ≤ b ∧ b < w'.heap.size)) ∧ blk u ≠ some b) ∧ (∀ i j b, Sk i b → Sk j b → i = j) := by
  cases hown' with
  | sl v size rows S e xs Sk ho hz hb hl hk hs hd => exact ⟨e, xs, ho, hz, hb, hl, Sk, hk, hs, hd⟩
 have hob : (( σ.dropAll (srefs [c])).new d (.one (.sref d 0 0 rows'.length)) [.arr false sz rows']).ob d 0 = .arr false sz rows' := by rw [St.ob_new]; simp [hlt, obIn]
 have hdeep : ∀ T h ob, ObRel T h ob w' ⟨u, fun k => (xs'[k]?).getD undef, fun b => Given σ (fun t j => h t j) (srefs [c]) b ∨ True⟩ (.arr true sz rows') := fun T h ob => ⟨e, xs', ho, hz, ⟨hl, Sk', hk', fun k b hb => ⟨.inr trivial, (hs' k b hb).2⟩, hd'⟩, fun k x d hx _ _ => by simp [hx]⟩
 refine hK _ _ ⟨X, fun t j => if t = d then Hd.of u else h t j, ?_⟩ hBk
 refine r1.newG hfr (Given σ h (srefs [c])) hkeep.size (fun k hk hg => hkeep.block k ⟨hk, hg⟩) (fun k hk => ⟨(hfree k hk).1, (hfree k hk).2.1, fun t j _ hn => (hfree k hk).2.2.2 t j hn⟩) (fun k hk => hk) (fun k hk => .inl hk) _ _ _ (fun _ => Hd.of u) ?_ (fun j => ?_) (fun j k _ hk => hk) (fun j k _ hk => ?_) (fun i j k hi hj _ _ => ?_)
 ·refine ⟨owns_oneCell ho, fun q size rws hq => ?_, fun size rws hq => by rw [hob] at hq; cases hq⟩
  rw [hob] at hq; cases hq
  simp only [if_true]
  exact hd_self ho
 ·cases j with
  | zero =>
   have := ob_flat (hdeep (Tof T0 X) (fun t j => if t = d then Hd.of u else h t j) ((σ.dropAll (srefs [c])).new d (.one (.sref d 0 0 rows'.length)) [.arr false sz rows']).ob) hfl
   exact this
  | succ j => simp [obIn, ObRel]
 ·have h1 := hb k hk
  rcases h1 with h1 | h1
  ·have := hfree k h1
   exact ⟨.inr h1, this.2.1, by have := this.2.2.1; have := hkeep.size; omega⟩
  ·exact ⟨.inl h1.1, fun hx => by have := (r.hX k hx).2; omega, h1.2⟩
 ·have hz : ∀ j, obIn [Ob.arr false sz rows'] j ≠ .none → j = 0 := by
   intro j hj
   cases j with
   | zero => rfl
   | succ j => simp [obIn] at hj
  rw [hz i hi, hz j hj]
end
section
variable {P : Program} {σ : St} {k : Fr}
theorem mkFnI {A : AllI} {o : OpI} {l : OpsI} {f : FuncId} {x : Operand} {d t : Nat} {cells : List At} (hop : o.o.op = .makeFunc (.func f) #[] #[x]) (hgd : o.o.guard = none) (hd : o.o.dst = some d) (hbar : A.bar o.o = true) (hx : gOf (look P σ 0 x) = true ∧ unc (look P σ 0 x) = .one (.bptr t 0)) (ho : σ.ob t 0 = .box cells)
  (h : @EI P (σ.put d (.one (.fn f t))) A l k) : @SI P σ A o l k := by
 refine ⟨_, .inr ⟨hbar, ?_, fun d' hd' hcl => clean_put (fun e => hd' (by rw [hd, e])) hcl⟩, ev_run h⟩
 rintro T0 B a w K Q' ⟨X, hh, r⟩ hK
 have hw : Region.wanted o.o (yielded A.ops a.tmps) = true := by simp [Region.wanted, hgd]
 rw [if_pos hw]
 exact sound_mkFn r hop hd hx.1 hx.2 ho hK
theorem sound_ofC {f : FuncId} {fn : Func} {c : Code} (hf : P.funcs[f]? = some fn) (hb : fn.body = some c) (hok : fnOk P f = true) {args : List (List D)} {row row' : List D} (qs : List Bool) (hq : flatQ qs row)
  (hw : ∀ v, @WI P (initX fn.ntmps args v (resAts args.length 1 row) (resObsQ qs row) []) ⟨c⟩ (.fin (RetC P fn args.length v row'))) : SoundC P f args row row' := sound_of_awpC hf hb hok qs hq (fun v => wx_awp (hw v))
theorem retC {fn : Func} {p : Nat} {v : Value} {row' : List D} {ats : List At} (hf : fn.results = #[]) (h : σ[p]? = some (.fix v (.one (.bptr p 0)), .box ats :: ((σ[p]?).map (fun e => e.2.tail)).getD []) ∧ mvRow σ ats = some row' ∧ mvRowOk σ ats ∧ (srefs ats).Nodup) {e : Exit} (he : e = .ret ∨ e = .normal) : RetC P fn p v row' e σ :=
 ⟨he, by rw [hf]; rfl, ats, _, h.1, h.2.1, h.2.2.1, h.2.2.2⟩
theorem callC {A : AllI} {o : OpI} {l : OpsI} {cl : Call} {f : FuncId} {tf u : Nat} {rows0 : List (List D)} {row row' : List D} {cells : List At} (qs : List Bool) (hop : o.o.op = .call cl) (hc : cl.callee = .value (.tmp tf)) (hgd : o.o.guard = none) (hbar : A.bar o.o = true) (hs : SoundC P f rows0 row row') (hx : σ.get tf = .one (.fn f u)) (ho : σ.ob u 0 = .box cells) (hlt : u < σ.length)
  (hargs : (evArgs P σ cl.args.toList cl.argTypes.toList).1) (hrows : (evArgs P σ cl.args.toList cl.argTypes.toList).2 = some rows0) (hst : argsStable P σ cl.args.toList cl.argTypes.toList = true) (hmv : mvRow σ cells = some row) (hmok : mvRowOk σ cells) (hnd : (srefs cells).Nodup) (hnu : (u, 0) ∉ srefs cells) (hcl : cleanB σ u = false)
  (hone : ((σ.dropAll (srefs cells)).setOb u 0 .none).anyA (At.isO u) = false) (hq : flatQ qs row')
  (h : @EI P (match o.o.dst with | some d => ((σ.dropAll (srefs cells)).new u (σ.get u) (.box (resAts u 1 row') :: resObsQ qs row')).put d .any | none => (σ.dropAll (srefs cells)).new u (σ.get u) (.box (resAts u 1 row') :: resObsQ qs row')) A l k) : @SI P σ A o l k := by
 refine ⟨_, .inr ⟨hbar, ?_, fun d' hd' hc' => ?_⟩, ev_run h⟩
 ·rintro T0 B a w K Q' ⟨X, hh, r⟩ hK
  have hw : Region.wanted o.o (yielded A.ops a.tmps) = true := by simp [Region.wanted, hgd]
  rw [if_pos hw]
  exact sound_callC r qs hop hc hx ho hlt (evArgs_ok hargs hrows) hst hs hmv hmok hnd hnu hone hq hK
 ·have h1 := clean_new (v := σ.get u) (os := .box (resAts u 1 row') :: resObsQ qs row') (fun e => by rw [e, hcl] at hc'; cases hc') (clean_dropAll (l := srefs cells) hc')
  cases hd : o.o.dst with
  | none => exact h1
  | some d => exact clean_put (fun e => hd' (by rw [hd, e])) h1
theorem sound_ofQ {f : FuncId} {fn : Func} {c : Code} (hf : P.funcs[f]? = some fn) (hb : fn.body = some c) (hok : fnOk P f = true) {sz : Nat} {rows : List (List D)} {args : List (List D)} {rows' : List (List D)} (hfl : flatRows rows)
  (hw : @WI P (initQ fn.ntmps sz rows args) ⟨c⟩ (.fin (RetQ P fn sz rows'))) : SoundQ P f sz rows args rows' := sound_of_awpQ hf hb hok hfl (wx_awp hw)
theorem retQ {fn : Func} {sz : Nat} {rows' : List (List D)} {rv : List ResultVar} (x : At) (hf : fn.results = rv.toArray) (h : (evRes P σ rv).1 ∧ (evRes P σ rv).2 = [[x]] ∧ mvRow σ [x] = some [.sl sz rows'] ∧ mvRowOk σ [x]) : RetQ P fn sz rows' .ret σ :=
 ⟨.inl rfl, x, by rw [hf, ← h.2.1]; exact evRes_ok h.1, h.2.2⟩
theorem callQ {A : AllI} {o : OpI} {l : OpsI} {cl : Call} {f : FuncId} {d : Nat} {x0 : Operand} {xs : List Operand} {t0 : TypeId} {ts : List TypeId} {rows0 : List (List D)} {sz : Nat} {rows rows' : List (List D)} {c : At} {L : List (Nat × Nat)} (hop : o.o.op = .call cl) (hc : cl.callee = .value (.func f)) (hgd : o.o.guard = none) (hd : o.o.dst = some d) (hbar : A.bar o.o = true)
  (ha : cl.args.toList = x0 :: xs) (_hat : cl.argTypes.toList = t0 :: ts) (hs : SoundQ P f sz rows rows0 rows') (hx : gOf (look P σ t0 x0) = true ∧ unc (look P σ t0 x0) = .one c) (hmv : mvRow σ [c] = some [.sl sz rows]) (hmok : mvRowOk σ [c]) (hL : srefs [c] = L)
  (hargs : (evArgs P σ xs ts).1) (hrows : (evArgs P σ xs ts).2 = some rows0) (hst : argsStable P σ xs ts = true) (hfl : flatRows rows') (hfr : (σ.dropAll L).fresh d = true)
  (h : @EI P ((σ.dropAll L).new d (.one (.sref d 0 0 rows'.length)) [.arr false sz rows']) A l k) : @SI P σ A o l k := by
 subst hL
 refine ⟨_, .inr ⟨hbar, ?_, fun d' hd' hcl => clean_new (fun e => hd' (by rw [hd, e])) (clean_dropAll hcl)⟩, ev_run h⟩
 rintro T0 B a w K Q' ⟨X, hh, r⟩ hK
 have hw : Region.wanted o.o (yielded A.ops a.tmps) = true := by simp [Region.wanted, hgd]
 rw [if_pos hw]
 exact sound_callQ r hop hc hd ha hx.1 hx.2 hmv hmok (evArgs_ok hargs hrows) hst hs hfl hfr hK
end
attribute [simp] initX initQ At.isO
end Go.Vm
namespace Go.Vm
open Go.RowKit
section
variable {P : Program} {σ : St} {k : Fr}
theorem frzD {id : Nat} {A : AllI} (F : List (Nat × Nat)) (hw : wkEnts σ [] F σ (σ.frz F) 0) (h : @DI P id (σ.frz F) A k) : @DI P id σ A k := awp_weaken (wk_of [] F rfl hw) h
end
end Go.Vm
namespace Go.Vm
open Go.RowKit
section
variable {P : Program} {σ : St} {k : Fr}
theorem cR {A : AllI} {o : OpI} {l : OpsI} {c : Call} {f : FuncId} {d : Nat} {own : Bool} {rows res : List (List D)} (hs : SoundAt P f own rows res) (h : @EI P (σ.put d (resVd res)) A l k) (hop : o.o.op = .call c := by exact rfl) (hc : c.callee = .value (.func f) := by exact rfl) (hg : o.o.guard = none := by exact rfl) (hd : o.o.dst = some d := by exact rfl)
  (hrows : (evArgs P σ c.args.toList c.argTypes.toList).2 = some rows := by simp) (hargs : (evArgs P σ c.args.toList c.argTypes.toList).1 := by simp) (hst : argsStable P σ c.args.toList c.argTypes.toList = true ∨ resFlat own res := by simp) : @SI P σ A o l k :=
 call_rd hop hc hg hd hs hrows hargs hst h
theorem cO {A : AllI} {o : OpI} {l : OpsI} {c : Call} {f : FuncId} {d : Nat} {rows res : List (List D)} (hs : SoundAt P f true rows res) (h : @EI P (σ.new d (resV d res) (resObs res.flatten)) A l k) (hop : o.o.op = .call c := by exact rfl) (hc : c.callee = .value (.func f) := by exact rfl) (hg : o.o.guard = none := by exact rfl) (hd : o.o.dst = some d := by exact rfl)
  (hrows : (evArgs P σ c.args.toList c.argTypes.toList).2 = some rows := by simp) (hargs : (evArgs P σ c.args.toList c.argTypes.toList).1 := by simp) (hst : argsStable P σ c.args.toList c.argTypes.toList = true ∨ resFlat true res := by simp) (hf : σ.fresh d = true := by simp) : @SI P σ A o l k :=
 call_own hop hc hg hd hs hrows hargs hst hf h
theorem cD {A : AllI} {o : OpI} {l : OpsI} {c : Call} {f : FuncId} {d : Nat} {rows res : List (List D)} (qs : List Bool) (hs : SoundD P f rows res) (h : @EI P (σ.new d (resV d res) (resObsQ qs res.flatten)) A l k) (hop : o.o.op = .call c := by exact rfl) (hc : c.callee = .value (.func f) := by exact rfl) (hg : o.o.guard = none := by exact rfl) (hd : o.o.dst = some d := by exact rfl)
  (hrows : (evArgs P σ c.args.toList c.argTypes.toList).2 = some rows := by simp) (hargs : (evArgs P σ c.args.toList c.argTypes.toList).1 := by simp) (hq : flatQ qs res.flatten := by simp) (hf : σ.fresh d = true := by simp) : @SI P σ A o l k := call_d qs hop hc hg hd hs hrows hargs hq hf h
theorem cC {b : Bool} {x y : CodeI} (c : Bool) (ht : StOk σ → c = true → @WI P σ x k) (hf : StOk σ → c = false → @WI P σ y k) (hc : c = b := by simp) : @CI P b σ x y k := condR hc ht hf
end
section
variable {P : Program} {σ : St} {k : Fr}
theorem cG {A : AllI} {o : OpI} {l : OpsI} {c : Call} {f : FuncId} {d j dj : Nat} {want g own : Bool} {rows : List (List D)} {res : List D} (hs : g = true → SoundAt P f own rows [res]) (h : @EI P (σ.put d (.cnd g (resVd [res]))) A l k) (hop : o.o.op = .call c := by exact rfl) (hc : c.callee = .value (.func f) := by exact rfl) (hg : o.o.guard = some (j, want) := by exact rfl) (hd : o.o.dst = some d := by exact rfl)
  (hdj : (A.ops[j]?).bind (·.dst) = some dj := by exact rfl) (hgc : gCond want (σ.get dj) = some g := by exact rfl)
  (hrows : (evArgs P σ c.args.toList c.argTypes.toList).2 = some rows := by simp) (hlt : dj < σ.length := by simp)
  (hargs : g = true → (evArgs P σ c.args.toList c.argTypes.toList).1 := by simp) (hst : argsStable P σ c.args.toList c.argTypes.toList = true ∨ resFlat own [res] := by simp) : @SI P σ A o l k :=
 call_g hop hc hg hd hdj hgc hs hrows hlt hargs hst h
end
@[simp] abbrev eI (t : Nat) (n : Int) : Nat × V × List Ob := (t, .one (.d (.int .i64 n)), [])
@[simp] abbrev eB (t : Nat) (b : Bool) : Nat × V × List Ob := (t, .one (.d (.bool b)), [])
@[simp] abbrev eL {α : Type} (t s : Nat) (l : List α) (f : α → List D) : Nat × V × List Ob := (t, .one (.d (.sl s (l.map f))), [])
@[simp] abbrev eP (t u c : Nat) : Nat × V × List Ob := (t, .one (.bptr u c), [])
@[simp] abbrev eG (t : Nat) (xs : List At) : Nat × V × List Ob := (t, .agg xs, [])
@[simp] abbrev eX (t : Nat) (xs : List At) : Nat × V × List Ob := (t, .one (.bptr t 0), [.box xs])
end Go.Vm
