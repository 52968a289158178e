/- An abstract machine over the model of Go, by value, and that it is sound: part Ve. No condition. -/
import Derived.Test.YtllfgbhplfhdkaaGreatVd
namespace Go.Vm
open Go.RowKit
section
variable {P : Program} {σ : St} {k : Fr}
theorem awp_join {c : Code} {Q : Exit → St → Prop} {S : St} (h : AWP P c (thenA (fun σ' => Wk σ' S) Q) σ) (hS : Q .normal S) : AWP P c Q σ := by
 intro T0 B a w r
 refine wp_mono (h T0 B a w r) ?_
 rintro e a' w' ⟨σ', hq, hr, hb⟩
 cases e with
 | normal => exact ⟨S, hS, hq T0 B a' w' hr, hb⟩
 | exit id => exact ⟨σ', hq, hr, hb⟩
 | goto l => exact ⟨σ', hq, hr, hb⟩
 | ret => exact ⟨σ', hq, hr, hb⟩
 | panic ch => exact ⟨σ', hq, hr, hb⟩
 | outgrown => exact ⟨σ', hq, hr, hb⟩
def Joins (S : St) (σ : St) : Prop := Wk σ S
theorem joins {S : St} (h : Wk σ S) : Joins S σ := h
theorem joinI {b : Bool} {x y : CodeI} (S : St) (ht : b = true → @WI P σ x (.nxt (Joins S) k)) (hf : b = false → @WI P σ y (.nxt (Joins S) k)) (h : @LI P .normal S k) : @CI P b σ x y k :=
 ⟨fun hb => awp_join (wx_awp (ht hb)) h, fun hb => awp_join (wx_awp (hf hb)) h⟩
end
end Go.Vm
namespace Go.Vm
open Go.RowKit

def vLen (σ : St) : V → Option Nat
 | .one (.d (.sl _ rows)) => some rows.length
 | .one (.sref t j _ len) => (match σ.ob t j with | .arr _ _ _ => some len | _ => none)
 | .fix _ (.one (.sref t j _ len)) => (match σ.ob t j with | .arr _ _ _ => some len | _ => none)
 | _ => none
def StOk (σ : St) : Prop := ∀ t n, vLen σ (σ.get t) = some n → n ≤ 9223372036854775807
theorem vLen_le {T : CS} {h : Nat → Nat → Hd} {σ : St} {w : World} : ∀ {v : V} {val : Value} {n : Nat}, vLen σ v = some n → VRel T h σ.ob w v val → n ≤ maxLen
 | .one (.d (.sl s rows)), val, n, hn, hv => by
  simp only [vLen] at hn
  cases hn
  obtain ⟨base, cap, _, h1, h2⟩ := rd_len (r := (show Rd T w val (.sl s rows) from hv))
  omega
 | .one (.sref u j lo len), val, n, hn, hv => by
  simp only [vLen] at hn
  split at hn
  ·rename_i q s rows ho
   cases hn
   have hh := (show AtRel T h σ.ob w (.sref u j lo len) val from hv).2.1 _ _ _ ho
   obtain ⟨_, _, base, cap, _, h1, h2, _⟩ := hh
   omega
  ·cases hn
 | .fix u0 (.one (.sref u j lo len)), val, n, hn, hv => by
  simp only [vLen] at hn
  split at hn
  ·rename_i q s rows ho
   cases hn
   have hh := (show AtRel T h σ.ob w (.sref u j lo len) val from hv.2).2.1 _ _ _ ho
   obtain ⟨_, _, base, cap, _, h1, h2, _⟩ := hh
   omega
  ·cases hn
theorem stOk_of_rel {T0 : CS} {B : Nat → Prop} {σ : St} {a : Act} {w : World} (r : RelE T0 B σ a w) : StOk σ := by
 obtain ⟨X, h, r⟩ := r
 intro t n hn
 exact vLen_le hn (r.get t)
theorem awp_ok {P : Program} {c : Code} {Q : Exit → St → Prop} {σ : St} (h : StOk σ → AWP P c Q σ) : AWP P c Q σ := fun T0 B a w r => h (stOk_of_rel r) T0 B a w r
section
variable {P : Program} {σ : St} {k : Fr}
theorem condB {b : Bool} {x y : CodeI} (ht : StOk σ → b = true → @WI P σ x k) (hf : StOk σ → b = false → @WI P σ y k) : @CI P b σ x y k :=
 ⟨fun h => awp_ok fun hk => wx_awp (ht hk h), fun h => awp_ok fun hk => wx_awp (hf hk h)⟩
theorem condR {b c : Bool} {x y : CodeI} (hc : c = b) (ht : StOk σ → c = true → @WI P σ x k) (hf : StOk σ → c = false → @WI P σ y k) : @CI P b σ x y k := by
 subst hc; exact condB ht hf
theorem okL {c : CodeI} (h : StOk σ → @LoopI P σ c k) : @LoopI P σ c k := awp_ok h
theorem okD {id : Nat} {A : AllI} (h : StOk σ → @DI P id σ A k) : @DI P id σ A k := awp_ok h
def callOp : Op → Bool
 | .call _ => true
 | _ => false
theorem guardI {A : AllI} {o : OpI} {l : OpsI} {j dj d : Nat} {want g : Bool} (hop : callOp o.o.op = false) (hg : o.o.guard = some (j, want)) (hd : o.o.dst = some d)
  (hdj : (A.ops[j]?).bind (·.dst) = some dj) (hgc : gCond want (σ.get dj) = some g) (hlt : dj < σ.length)
  (ht : g = true → ((evV P σ o.o.op o.o.type).1 ∧ gOf (evV P σ o.o.op o.o.type).2 = true ∧ (unc (evV P σ o.o.op o.o.type).2).flat = true) ∧ @EI P (σ.put d (.cnd true (unc (evV P σ o.o.op o.o.type).2))) A l k)
  (hf : g = false → @EI P (σ.put d (.cnd false .any)) A l k) : @SI P σ A o l k := by
 have step : ∀ v, (g = true → (evV P σ o.o.op o.o.type).1 ∧ gOf (evV P σ o.o.op o.o.type).2 = true ∧ v = unc (evV P σ o.o.op o.o.type).2 ∧ v.flat = true) → StepG P A.ops o.o σ (σ.put d (.cnd g v)) := by
  intro v hv
  unfold StepG
  simp only [hg]
  refine ⟨dj, d, g, v, hdj, hlt, hd, hgc, fun hgt => ?_, rfl⟩
  obtain ⟨h1, h2, h3, h4⟩ := hv hgt
  have base : ∃ v0, StepV P σ o.o.op o.o.type v0 ∧ gOf v0 = true ∧ v = unc v0 ∧ v.flat = true := ⟨_, evV_ok h1, h2, h3, h4⟩
  unfold StepGV
  split
  ·rename_i c hc; rw [hc] at hop; cases hop
  ·exact base
 cases g with
 | true =>
  obtain ⟨⟨h1, h2, h3⟩, h4⟩ := ht rfl
  exact ⟨_, .inl (step _ fun _ => ⟨h1, h2, rfl, h3⟩), ev_run h4⟩
 | false => exact ⟨_, .inl (step .any (fun h => by cases h)), ev_run (hf rfl)⟩
end

theorem skipG {P : Program} {σ : St} {k : Fr} {A : AllI} {o : OpI} {l : OpsI} {j dj d : Nat} {want g : Bool} (hg : o.o.guard = some (j, want)) (hd : o.o.dst = some d)
  (hdj : (A.ops[j]?).bind (·.dst) = some dj) (hgc : gCond want (σ.get dj) = some g) (hlt : dj < σ.length) (hgf : g = false)
  (h : @EI P (σ.put d (.cnd false .any)) A l k) : @SI P σ A o l k := by
 subst hgf
 refine ⟨_, .inl ?_, ev_run h⟩
 unfold StepG
 simp only [hg]
 exact ⟨dj, d, false, .any, hdj, hlt, hd, hgc, (fun h => by cases h), rfl⟩
def eqRowT (P : Program) : List TypeId → List At → List At → Option Bool
 | [], _, _ => some true
 | f :: fs, x :: xs, y :: ys => (match eqAt P f x y, eqRowT P fs xs ys with | some p, some q => some (p && q) | _, _ => none)
 | _, _, _ => none
theorem eqRow_types (P : Program) : ∀ (fs : List Field) (xs ys : List At), eqRow P fs xs ys = eqRowT P (fs.map (·.type)) xs ys
 | [], _, _ => by simp [eqRow, eqRowT]
 | f :: fs, [], _ => by simp [eqRow, eqRowT]
 | f :: fs, x :: xs, [] => by simp [eqRow, eqRowT]
 | f :: fs, x :: xs, y :: ys => by simp only [eqRow, List.map_cons, eqRowT, eqRow_types P fs xs ys]; rfl
def fieldTs (P : Program) (T : TypeId) : List TypeId := (P.fieldsOf T).toList.map (·.type)
@[simp] theorem eqRow_fields (P : Program) (T : TypeId) (xs ys : List At) : eqRow P (P.fieldsOf T).toList xs ys = eqRowT P (fieldTs P T) xs ys := eqRow_types P _ _ _
attribute [simp] eqRowT

def nth {α : Type} [Inhabited α] (l : List α) (i : Nat) : α := l.getD i default
theorem rowAt_map {α : Type} [Inhabited α] {f : α → List D} {l : List α} {i : Nat} (h : i < l.length) : rowAt (l.map f) i = f (nth l i) := by
 simp [rowAt, nth, h]
theorem rowAt_mapc {α : Type} [Inhabited α] {f : α → List D} {l : List α} {i : Nat} (h : i < l.length) (m : List (List D)) : rowAt (l.map f ++ m) i = f (nth l i) := by
 simp [rowAt, nth, h, List.getElem?_append]
theorem set_map {α : Type} {f : α → List D} {l : List α} {i : Nat} {x : α} {r : List D} (h : r = f x) : (l.map f).set i r = (l.set i x).map f := by
 rw [h, List.map_set]
abbrev W (x : Int) : Int := IntKind.i64.wrap x
theorem wrap_of {x : Int} (h1 : -9223372036854775808 ≤ x) (h2 : x ≤ 9223372036854775807) : IntKind.i64.wrap x = x := by
 have hr : IntKind.i64.min ≤ x ∧ x ≤ IntKind.i64.max := by
  constructor
  ·show -9223372036854775808 ≤ x; exact h1
  ·show x ≤ 9223372036854775807; exact h2
 simp only [IntKind.wrap]
 first
  | (simp [IntKind.bits, IntKind.signed]; omega)
  | omega
theorem wrap_succ {i n : Nat} (h : i < n) (hn : n ≤ maxLen) : IntKind.i64.wrap ((i : Int) + 1) = (i : Int) + 1 := by
 have : n ≤ 9223372036854775807 := hn
 exact wrap_of (by omega) (by omega)
theorem wrap_pred {i n : Nat} (h : 0 < i) (h2 : i < n) (hn : n ≤ maxLen) : IntKind.i64.wrap ((i : Int) - 1) = (i : Int) - 1 := by
 have : n ≤ 9223372036854775807 := hn
 exact wrap_of (by omega) (by omega)
theorem toNat_pred (i : Nat) : ((i : Int) - 1).toNat = i - 1 := by omega
attribute [simp] St.fresh freshFrom V.ref V.ref1 obsRef vsRef
end Go.Vm
namespace Go.Vm
open Go.RowKit
attribute [simp] St.mset likeRow deepOk At.isTr initM
section
variable {P : Program} {σ : St} {k : Fr}
theorem sound_ofM {f : FuncId} {fn : Func} {c : Code} (hf : P.funcs[f]? = some fn) (hb : fn.body = some c) (hok : fnOk P f = true) {row : List D} {args : List (List D)} {row' : List D} {x : D}
  (hw : ∀ v, @WI P (initM fn.ntmps v row args) ⟨c⟩ (.fin (RetM P fn v row' x))) : SoundM P f row args row' x := sound_of_awpM hf hb hok (fun v => wx_awp (hw v))
theorem retM {fn : Func} {v : Value} {row' : List D} {x : D} {rv : List ResultVar} (hf : fn.results = rv.toArray) (h : (evRes P σ rv).1 ∧ (evRes P σ rv).2 = [[.d x]] ∧ x.scalar = true ∧ σ.head? = some (.fix v (vOf (resAts 0 0 row')), resObsQ [] row')) : RetM P fn v row' x .ret σ :=
 ⟨.inl rfl, by rw [hf]; have := evRes_ok h.1; rw [h.2.1] at this; simpa using this, h.2.2⟩
theorem callMT {A : AllI} {o : OpI} {l : OpsI} {cl : Call} {f : FuncId} {d : Nat} {x0 : Operand} {xs : List Operand} {t0 : TypeId} {ts : List TypeId} {rows0 : List (List D)} {s s' : List (List D)} {n : Nat} {y : D} {t j i c : Nat} {size : Nat} {rows : List (List D)} (hop : o.o.op = .call cl) (hc : cl.callee = .value (.func f)) (hgd : o.o.guard = none) (hd : o.o.dst = some d) (hbar : A.bar o.o = true)
  (ha : cl.args.toList = x0 :: xs) (hat : cl.argTypes.toList = t0 :: ts) (hs : SoundM P f [.sl n s] rows0 [.sl n s'] y) (hx : gOf (look P σ t0 x0) = true ∧ unc (look P σ t0 x0) = .one (.tref t j i c)) (ho : σ.ob t j = .arr true size rows) (hi : i < rows.length)
  (hcell : (rowAt rows i)[c]? = some (.sl n s)) (hargs : (evArgs P σ xs ts).1) (hrows : (evArgs P σ xs ts).2 = some rows0) (hst : argsStable P σ xs ts = true)
  (h : @EI P ((σ.setOb t j (.arr true size (rows.set i (place (rowAt rows i) c [.sl n s'])))).put d (.one (.d y))) A l k) : @SI P σ A o l k := stop_callMT hop hc hgd hd hbar ha hat hx.1 hx.2 ho hi hcell (evArgs_ok hargs hrows) hst hs h
theorem callMO {A : AllI} {o : OpI} {l : OpsI} {cl : Call} {f : FuncId} {d : Nat} {x0 : Operand} {xs : List Operand} {t0 : TypeId} {ts : List TypeId} {rows0 : List (List D)} {row row' : List D} {y : D} {ats : List At} (hop : o.o.op = .call cl) (hc : cl.callee = .value (.func f)) (hgd : o.o.guard = none) (hd : o.o.dst = some d) (hbar : A.bar o.o = true)
  (ha : cl.args.toList = x0 :: xs) (_hat : cl.argTypes.toList = t0 :: ts) (hs : SoundM P f row rows0 row' y) (hx : gOf (look P σ t0 x0) = true ∧ unc (look P σ t0 x0) = vOf ats) (hmv : mvRow σ ats = some row) (hdp : deepOk σ ats) (hnd : (srefs ats).Nodup) (htr : σ.anyA At.isTr = false)
  (hargs : (evArgs P σ xs ts).1) (hrows : (evArgs P σ xs ts).2 = some rows0) (hst : argsStable P σ xs ts = true) (hlk : likeRow row row')
  (h : @EI P ((σ.mset ats row').put d (.one (.d y))) A l k) : @SI P σ A o l k := stop_callMO hop hc hgd hd hbar ha hx.1 hx.2 hmv hdp hnd htr (evArgs_ok hargs hrows) hst hs hlk h
end
end Go.Vm
namespace Go.Vm
open Go.RowKit
def At.isP (t : Nat) : At → Bool
 | .tref u _ _ _ => u == t
 | .ptr u _ _ _ => u == t
 | _ => false
section
variable {P : Program} {T0 : CS} {B : Nat → Prop} {σ : St} {a : Act} {w w' : World} {X X' : Nat → Prop} {h : Nat → Nat → Hd}
theorem Rel.litArr (r : Rel T0 B σ a w X h) {t : Nat} {size : Nat} {rows : List (List At)} {news : List (List D)} {L : List (Nat × Nat)} (ho : σ.ob t 0 = .lit size rows) (hmv : mvRows σ rows = some news) (hok : mvRowsOk σ rows)
  (hL : srefs rows.flatten = L) (hnd : L.Nodup) (hnt : (t, 0) ∉ L) (hp : (σ.dropAll L).anyA (At.isP t) = false) : RelE T0 B ((σ.dropAll L).setOb t 0 (.arr true size news)) a w := by
 have hob : σ.ob t 0 ≠ .none := by rw [ho]; simp
 have h0 := r.obj t 0
 rw [ho] at h0
 obtain ⟨e, xs, how, hz, hal⟩ := h0
 obtain ⟨hm1, hm2, hm3⟩ := mvRows_flat hmv
 have hown := mv_own r hal hm1 (mvRowsOk_flat hok) (by rw [hL]; exact hnd)
 rw [hL] at hown
 have r1 := r.dropAll L
 have hfree := r.given_free L
 have hdis : ∀ b', (h t 0).u b' → Given σ h L b' → False := by
  rintro b' hu' ⟨p, hp', hne, hup⟩
  obtain ⟨q1, q2⟩ := r.inj t 0 p.1 p.2 b' hob hne hu' hup
  exact hnt (by rw [q1, q2]; exact hp')
 have hob1 : (σ.dropAll L).ob t 0 = .lit size rows := by rw [St.dropAll_ob, if_neg hnt, ho]
 have hobn : (σ.dropAll L).ob t 0 ≠ .none := by rw [hob1]; simp
 have hobs : ∀ u i, ¬ (u = t ∧ i = 0) → ((σ.dropAll L).setOb t 0 (.arr true size news)).ob u i = (σ.dropAll L).ob u i := by
  intro u i hne
  rw [St.ob_setOb _ t 0 _ u i hobn, if_neg hne]
 have hself : ((σ.dropAll L).setOb t 0 (.arr true size news)).ob t 0 = .arr true size news := by rw [St.ob_setOb _ t 0 _ t 0 hobn]; simp
 generalize hσ : (σ.dropAll L).setOb t 0 (.arr true size news) = σ2 at *
 generalize hσ1 : σ.dropAll L = σ1 at *
 have hlen : σ2.length = σ1.length := by rw [← hσ, St.setOb_length]
 have hget : ∀ u, σ2.get u = σ1.get u := fun u => by rw [← hσ, St.get_setOb]
 let hd' : Hd := ⟨(h t 0).v, fun k => (xs[k]?).getD undef, fun b => (h t 0).u b ∨ Given σ h L b⟩
 let h' : Nat → Nat → Hd := fun u i => if u = t ∧ i = 0 then hd' else h u i
 have hh' : ∀ u i, ¬ (u = t ∧ i = 0) → h' u i = h u i := fun u i hne => if_neg hne
 have hht : h' t 0 = hd' := by simp [h']
 have hv : ∀ u i, (h' u i).v = (h u i).v := by
  intro u i
  by_cases hc : u = t ∧ i = 0
  ·obtain ⟨rfl, rfl⟩ := hc; rw [hht]
  ·rw [hh' u i hc]
 have at_ : ∀ {x : At} {v : Value}, At.isP t x = false → AtRel (Tof T0 X) h σ1.ob w x v → AtRel (Tof T0 X) h' σ2.ob w x v := by
  intro x v hpx rx
  cases x with
  | any => exact rx
  | d x => exact rx
  | nil s => exact rx
  | sref u i lo len =>
   refine ⟨rx.1, fun q s rws hq => ?_, fun s rws hq => ?_⟩
   ·by_cases hc : u = t ∧ i = 0
    ·obtain ⟨rfl, rfl⟩ := hc
     rw [hself] at hq; cases hq
     rw [hv, ← hm2]; exact rx.2.2 _ _ hob1
    ·rw [hobs u i hc] at hq; rw [hv]; exact rx.2.1 _ _ _ hq
   ·by_cases hc : u = t ∧ i = 0
    ·obtain ⟨rfl, rfl⟩ := hc
     rw [hself] at hq; cases hq
    ·rw [hobs u i hc] at hq; rw [hv]; exact rx.2.2 _ _ hq
  | ptr u i k c =>
   refine ⟨rx.1, fun q s rws hq => ?_⟩
   have hc : ¬ (u = t ∧ i = 0) := fun hc => by simp [At.isP, hc.1] at hpx
   rw [hobs u i hc] at hq; rw [hv]; exact rx.2 _ _ _ hq
  | bptr u c =>
   refine ⟨rx.1, fun cells hq => ?_⟩
   by_cases hc : u = t
   ·subst hc; rw [hself] at hq; cases hq
   ·rw [hobs u 0 (fun hh => hc hh.1)] at hq; rw [hv]; exact rx.2 _ hq
  | fn f u =>
   refine ⟨rx.1, fun cells hq => ?_⟩
   by_cases hc : u = t
   ·subst hc; rw [hself] at hq; cases hq
   ·rw [hobs u 0 (fun hh => hc hh.1)] at hq; rw [hv]; exact rx.2 _ hq
  | tref u i k c =>
   refine ⟨rx.1, fun s rws hq => ?_⟩
   have hc : ¬ (u = t ∧ i = 0) := fun hc => by simp [At.isP, hc.1] at hpx
   rw [hobs u i hc] at hq; rw [hh' u i hc]; exact rx.2 _ _ hq
  | rptr rr c => exact rx
 have hne_ : ∀ u i, σ2.ob u i ≠ .none → σ1.ob u i ≠ .none := by
  intro u i hn
  by_cases hc : u = t ∧ i = 0
  ·obtain ⟨rfl, rfl⟩ := hc; exact hobn
  ·rw [hobs u i hc] at hn; exact hn
 refine ⟨X, h', by rw [r1.size, hlen], r1.defers, r1.hB, r1.hX, r1.hT, fun u hu => ?_, fun u i => ?_, fun u i b hn hb => ?_, fun u i b hn hb => ?_, fun u i u' i' b hn hn' hb hb' => ?_⟩
 ·rw [hlen] at hu
  rw [hget]; exact VRel.map at_ (St.anyA_get hp u) (r1.slot u hu)
 ·by_cases hc : u = t ∧ i = 0
  ·obtain ⟨rfl, rfl⟩ := hc
   rw [hself, hht]
   refine ⟨e, xs, by rw [← hm2]; exact how, hm3 size hz, hown.mono (fun b hb => ⟨.inr hb, fun hbb => hdis b (r.ub u 0 b hob hbb) hb⟩), fun k x d hx _ _ => by simp [hd', hx]⟩
  ·rw [hobs u i hc, hh' u i hc]
   exact ObRel.map at_ (fun b k v hb hc => ⟨hc, hb⟩) (fun ho b => r1.ub u i b ho) (fun _ _ _ => rfl) (St.anyA_ob hp u i) (r1.obj u i)
 ·by_cases hc : u = t ∧ i = 0
  ·obtain ⟨rfl, rfl⟩ := hc
   rw [hht] at hb ⊢; exact .inl (r.ub u 0 b hob hb)
  ·rw [hh' u i hc] at hb ⊢; exact r1.ub u i b (hne_ u i hn) hb
 ·by_cases hc : u = t ∧ i = 0
  ·obtain ⟨rfl, rfl⟩ := hc
   rw [hht] at hb
   rcases hb with hb | hb
   ·exact r.own u 0 b hob hb
   ·have := hfree b hb; exact ⟨this.1, this.2.1, this.2.2.1⟩
  ·rw [hh' u i hc] at hb; exact r1.own u i b (hne_ u i hn) hb
 ·have key : ∀ u i b, ¬ (u = t ∧ i = 0) → σ1.ob u i ≠ .none → (h u i).u b → (h' t 0).u b → False := by
   intro u i b hc hn hb hb'
   rw [hht] at hb'
   rcases hb' with hb' | hb'
   ·exact hc (r1.inj u i t 0 b hn hobn hb hb')
   ·exact (hfree b hb').2.2.2 u i hn hb
  by_cases hc : u = t ∧ i = 0
  ·by_cases hc' : u' = t ∧ i' = 0
   ·exact ⟨hc.1.trans hc'.1.symm, hc.2.trans hc'.2.symm⟩
   ·obtain ⟨rfl, rfl⟩ := hc
    rw [hh' u' i' hc'] at hb'
    exact (key u' i' b hc' (hne_ u' i' hn') hb' hb).elim
  ·rw [hh' u i hc] at hb
   by_cases hc' : u' = t ∧ i' = 0
   ·obtain ⟨rfl, rfl⟩ := hc'
    exact (key u i b hc (hne_ u i hn) hb hb').elim
   ·rw [hh' u' i' hc'] at hb'
    exact r1.inj u i u' i' b (hne_ u i hn) (hne_ u' i' hn') hb hb'
end
section
variable {P : Program} {σ : St} {k : Fr}
theorem litDI {A : AllI} {o : OpI} {l : OpsI} {d : Nat} {T : TypeId} {n : Nat} {parts : Array (Nat × Operand)} {news : List (List D)} {L : List (Nat × Nat)} (hop : o.o.op = .buildSlice T n parts) (hg : o.o.guard = none) (hd : o.o.dst = some d) (hbar : A.bar o.o = true)
  (h1 : (σ.fresh d = true ∧ d < σ.length) ∧ sliceT P T = true ∧ zeroOk P (elemT P T) = true ∧ 0 < P.cellsOf (elemT P T) ∧ parts.toList.length = n ∧ n * P.cellsOf (elemT P T) ≤ 16777216) (h2 : (evLit P σ (elemT P T) (P.cellsOf (elemT P T)) parts.toList 0).1)
  (h3 : atsRef d (evLit P σ (elemT P T) (P.cellsOf (elemT P T)) parts.toList 0).2.flatten = false)
  (h4 : mvRows (σ.new d (.one (.sref d 0 0 (evLit P σ (elemT P T) (P.cellsOf (elemT P T)) parts.toList 0).2.length)) [.lit (P.cellsOf (elemT P T)) (evLit P σ (elemT P T) (P.cellsOf (elemT P T)) parts.toList 0).2]) (evLit P σ (elemT P T) (P.cellsOf (elemT P T)) parts.toList 0).2 = some news ∧
   mvRowsOk (σ.new d (.one (.sref d 0 0 (evLit P σ (elemT P T) (P.cellsOf (elemT P T)) parts.toList 0).2.length)) [.lit (P.cellsOf (elemT P T)) (evLit P σ (elemT P T) (P.cellsOf (elemT P T)) parts.toList 0).2]) (evLit P σ (elemT P T) (P.cellsOf (elemT P T)) parts.toList 0).2)
  (h5 : srefs (evLit P σ (elemT P T) (P.cellsOf (elemT P T)) parts.toList 0).2.flatten = L ∧ L.Nodup ∧ (d, 0) ∉ L)
  (h6 : ((σ.new d (.one (.sref d 0 0 (evLit P σ (elemT P T) (P.cellsOf (elemT P T)) parts.toList 0).2.length)) [.lit (P.cellsOf (elemT P T)) (evLit P σ (elemT P T) (P.cellsOf (elemT P T)) parts.toList 0).2]).dropAll L).anyA (At.isP d) = false)
  (h : @EI P (((σ.new d (.one (.sref d 0 0 (evLit P σ (elemT P T) (P.cellsOf (elemT P T)) parts.toList 0).2.length)) [.lit (P.cellsOf (elemT P T)) (evLit P σ (elemT P T) (P.cellsOf (elemT P T)) parts.toList 0).2]).dropAll L).setOb d 0 (.arr true (P.cellsOf (elemT P T)) news)) A l k) : @SI P σ A o l k := by
 refine ⟨_, .inr ⟨hbar, ?_, fun d' hd' hc => clean_setOb (clean_dropAll (clean_new (fun e => hd' (by rw [hd, e])) hc))⟩, ev_run h⟩
 rintro T0 B a w K Q' ⟨X, hh, r⟩ hK
 have hw : Region.wanted o.o (yielded A.ops a.tmps) = true := by simp [Region.wanted, hg]
 rw [if_pos hw]
 refine sound_buildLit r hop hd h1.1.1 h1.2.1 h1.2.2.1 h1.2.2.2.1 h1.2.2.2.2.1 h1.2.2.2.2.2 (evLit_ok h2) h3 (fun a' w' hr hkp => hK a' w' ?_ hkp)
 obtain ⟨X', hh', r'⟩ := hr
 exact Rel.litArr r' (by rw [St.ob_new, if_pos ⟨rfl, h1.1.2⟩]; rfl) h4.1 h4.2 h5.1 h5.2.1 h5.2.2 h6
end
attribute [simp] At.isP
theorem SoundD.own {P : Program} {f : FuncId} {args res : List (List D)} (hs : SoundD P f args res) : SoundAt P f true args res := by
 refine ⟨hs.1, fun T w vals hT ha => (hs.2 T w vals hT ha).mono ?_⟩
 rintro e w' ⟨vs, css, he, hb, hf, hl, ⟨hlen, Sk, h1, h2, h3⟩⟩
 refine ⟨vs, css, fun b => (w.heap.size ≤ b ∧ b < w'.heap.size) ∧ ∀ (k : Nat) (c : Value) (d : D), css.flatten[k]? = some c → res.flatten[k]? = some d → d.scalar = false → blk c ≠ some b, he, hb, fun b hb => hb.1, hf, all2_flat_get hl (fun k x d hx hd => ?_), fun _ => ⟨fun i c d b hc hd hsc hbl => ?_, fun i j c c' d d' b hc hd hc' hd' hsc hsc' hbl hbl' => ?_⟩⟩
 ·simp only [CellRel, if_true]
  have ho := h1 k x d hx hd
  cases ho with
  | int k n => exact .int _ _
  | bool b => exact .bool _
  | str s => exact .str _
  | sl v size rows S e' xs Sk' ho hz hb' hl' hk hs' hd' =>
   refine ⟨e', xs, ho, hz, All2.of_get hl' (fun i y dd hy hdd => (hk i y dd hy hdd).rd (fun b k' hb => .inr ⟨h2 k b (hs' i b hb).1, fun k2 c2 d2 hc2 hd2 hsc2 hbl2 => ?_⟩))⟩
   have ho2 := h1 k2 c2 d2 hc2 hd2
   have hin : Sk k2 b := by
    cases ho2 with
    | int k n => cases hsc2
    | bool b => cases hsc2
    | str s => cases hsc2
    | sl v2 size2 rows2 S2 e2 xs2 Sk2 ho2 hz2 hb2 hl2 hk2 hs2 hd2' => exact hb2 b hbl2
   have := h3 k k2 b (hs' i b hb).1 hin
   subst this
   rw [hx] at hc2; cases hc2
   exact (hs' i b hb).2 hbl2
 ·have ho2 := h1 i c d hc hd
  have hin : Sk i b := by
   cases ho2 with
   | int k n => cases hsc
   | bool b => cases hsc
   | str s => cases hsc
   | sl v2 size2 rows2 S2 e2 xs2 Sk2 ho2 hz2 hb2 hl2 hk2 hs2 hd2' => exact hb2 b hbl
  have := h2 i b hin
  exact ⟨this.1, this.2, fun hy => hy.2 i c d hc hd hsc hbl⟩
 ·have hin : ∀ (i : Nat) (c : Value) (d : D), css.flatten[i]? = some c → res.flatten[i]? = some d → d.scalar = false → blk c = some b → Sk i b := by
   intro i c d hc hd hsc hbl
   have ho2 := h1 i c d hc hd
   cases ho2 with
   | int k n => cases hsc
   | bool b => cases hsc
   | str s => cases hsc
   | sl v2 size2 rows2 S2 e2 xs2 Sk2 ho2 hz2 hb2 hl2 hk2 hs2 hd2' => exact hb2 b hbl
  exact h3 i j b (hin i c d hc hd hsc hbl) (hin j c' d' hc' hd' hsc' hbl')
end Go.Vm
namespace Go.Vm
open Go.RowKit
def frzAt (σ : St) (F : List (Nat × Nat)) : At → At
 | .sref t j lo len => if inF F t j then (match σ.ob t j with | .arr _ s rows => .d (.sl s (cut rows lo len)) | _ => .any) else .sref t j lo len
 | .ptr t j i c => if inF F t j then .any else .ptr t j i c
 | .tref t j i c => if inF F t j then .any else .tref t j i c
 | x => x
def frzV (σ : St) (F : List (Nat × Nat)) : V → V
 | .one x => .one (frzAt σ F x)
 | .agg xs => .agg (xs.map (frzAt σ F))
 | .fix u (.one x) => .fix u (.one (frzAt σ F x))
 | .fix u (.agg xs) => .fix u (.agg (xs.map (frzAt σ F)))
 | _ => .any
def frzOb (σ : St) (F : List (Nat × Nat)) (t j : Nat) (o : Ob) : Ob :=
 if inF F t j then .none else match o with | .box cs => .box (cs.map (frzAt σ F)) | .lit _ _ => .none | o => o
def frzObs (σ : St) (F : List (Nat × Nat)) (t : Nat) : List Ob → Nat → List Ob
 | [], _ => []
 | o :: os, j => frzOb σ F t j o :: frzObs σ F t os (j + 1)
def frzEnts (σ : St) (F : List (Nat × Nat)) : List Ent → Nat → List Ent
 | [], _ => []
 | e :: es, t => (frzV σ F e.1, frzObs σ F t e.2 0) :: frzEnts σ F es (t + 1)
def St.frz (σ : St) (F : List (Nat × Nat)) : St := frzEnts σ F σ 0
def cleanE : Ent → Bool
 | (.any, []) => true
 | (.one (.d _), []) => true
 | _ => false
theorem clean_frz {F : List (Nat × Nat)} : ∀ {σ0 : St} {es : List Ent} {t d : Nat}, cleanB es d = true → cleanB (frzEnts σ0 F es t) d = true
 | σ0, [], t, d, h => by simp [cleanB] at h
 | σ0, e :: es, t, 0, h => by
  rw [clean_iff] at h ⊢
  rcases h with h | ⟨x, h⟩
  ·left; simp only [List.getElem?_cons_zero, Option.some.injEq] at h; subst h; rfl
  ·right; simp only [List.getElem?_cons_zero, Option.some.injEq] at h; subst h; exact ⟨x, rfl⟩
 | σ0, e :: es, t, d + 1, h => by
  have : cleanB es d = true := by rw [clean_iff] at h ⊢; simpa using h
  have := clean_frz (F := F) (σ0 := σ0) (es := es) (t := t + 1) this
  rw [clean_iff] at this ⊢
  simpa [frzEnts] using this
section
variable {P : Program} {σ : St} {k : Fr}
theorem weakS {A : AllI} {o : OpI} {l : OpsI} {σ' : St} (hbar : A.bar o.o = true) (hw : Wk σ σ') (hc : ∀ d, cleanB σ d = true → cleanB σ' d = true) (h : @SI P σ' A o l k) : @SI P σ A o l k := by
 obtain ⟨σ'', hs, hr⟩ := h
 refine ⟨σ'', .inr ⟨hbar, fun T0 B a w K Q hrel hK => stepX_sound hs T0 B a w K Q (hw T0 B a w hrel) hK, fun d hd hcl => ?_⟩, hr⟩
 have h1 := hc d hcl
 rcases hs with hs | hs
 ·exact clean_step hs hd h1
 ·exact hs.2.2 d hd h1
theorem weakF {A : AllI} {o : OpI} {l : OpsI} (F : List (Nat × Nat)) (hbar : A.bar o.o = true) (hw : wkEnts σ [] F σ (σ.frz F) 0) (h : @SI P (σ.frz F) A o l k) : @SI P σ A o l k :=
 weakS hbar (wk_of [] F rfl hw) (fun _ hd => clean_frz hd) h
end
attribute [simp] frzAt frzV frzOb frzObs frzEnts St.frz
end Go.Vm
namespace Go.Vm
theorem wkLit {σ σ' : St} {t size : Nat} {rows : List (List At)} {news : List (List D)} {L : List (Nat × Nat)} (ho : σ.ob t 0 = .lit size rows) (hmv : mvRows σ rows = some news) (hok : mvRowsOk σ rows) (hL : srefs rows.flatten = L) (hnd : L.Nodup ∧ (t, 0) ∉ L)
  (hp : (σ.dropAll L).anyA (At.isP t) = false) (h : Wk ((σ.dropAll L).setOb t 0 (.arr true size news)) σ') : Wk σ σ' :=
 fun T0 B a w ⟨_, _, r⟩ => h T0 B a w (Rel.litArr r ho hmv hok hL hnd.1 hnd.2 hp)
end Go.Vm
namespace Go.Vm
open Go.RowKit
section
variable {P : Program} {σ : St} {k : Fr}
theorem frzD {id : Nat} {A : AllI} (F : List (Nat × Nat)) (hw : wkEnts σ [] F σ (σ.frz F) 0) (h : @DI P id (σ.frz F) A k) : @DI P id σ A k := awp_weaken (wk_of [] F rfl hw) h
end
end Go.Vm
namespace Go.Vm
open Go.RowKit
section
variable {P : Program} {σ : St} {k : Fr}
theorem cR {A : AllI} {o : OpI} {l : OpsI} {c : Call} {f : FuncId} {d : Nat} {own : Bool} {rows res : List (List D)} (hs : SoundAt P f own rows res) (h : @EI P (σ.put d (resVd res)) A l k) (hop : o.o.op = .call c := by exact rfl) (hc : c.callee = .value (.func f) := by exact rfl) (hg : o.o.guard = none := by exact rfl) (hd : o.o.dst = some d := by exact rfl)
  (hrows : (evArgs P σ c.args.toList c.argTypes.toList).2 = some rows := by simp) (hargs : (evArgs P σ c.args.toList c.argTypes.toList).1 := by simp) (hst : argsStable P σ c.args.toList c.argTypes.toList = true ∨ resFlat own res := by simp) : @SI P σ A o l k :=
 call_rd hop hc hg hd hs hrows hargs hst h
theorem cO {A : AllI} {o : OpI} {l : OpsI} {c : Call} {f : FuncId} {d : Nat} {rows res : List (List D)} (hs : SoundAt P f true rows res) (h : @EI P (σ.new d (resV d res) (resObs res.flatten)) A l k) (hop : o.o.op = .call c := by exact rfl) (hc : c.callee = .value (.func f) := by exact rfl) (hg : o.o.guard = none := by exact rfl) (hd : o.o.dst = some d := by exact rfl)
  (hrows : (evArgs P σ c.args.toList c.argTypes.toList).2 = some rows := by simp) (hargs : (evArgs P σ c.args.toList c.argTypes.toList).1 := by simp) (hst : argsStable P σ c.args.toList c.argTypes.toList = true ∨ resFlat true res := by simp) (hf : σ.fresh d = true := by simp) : @SI P σ A o l k :=
 call_own hop hc hg hd hs hrows hargs hst hf h
theorem cD {A : AllI} {o : OpI} {l : OpsI} {c : Call} {f : FuncId} {d : Nat} {rows res : List (List D)} (qs : List Bool) (hs : SoundD P f rows res) (h : @EI P (σ.new d (resV d res) (resObsQ qs res.flatten)) A l k) (hop : o.o.op = .call c := by exact rfl) (hc : c.callee = .value (.func f) := by exact rfl) (hg : o.o.guard = none := by exact rfl) (hd : o.o.dst = some d := by exact rfl)
  (hrows : (evArgs P σ c.args.toList c.argTypes.toList).2 = some rows := by simp) (hargs : (evArgs P σ c.args.toList c.argTypes.toList).1 := by simp) (hq : flatQ qs res.flatten := by simp) (hf : σ.fresh d = true := by simp) : @SI P σ A o l k := call_d qs hop hc hg hd hs hrows hargs hq hf h
theorem cC {b : Bool} {x y : CodeI} (c : Bool) (ht : StOk σ → c = true → @WI P σ x k) (hf : StOk σ → c = false → @WI P σ y k) (hc : c = b := by simp) : @CI P b σ x y k := condR hc ht hf
end
section
variable {P : Program} {σ : St} {k : Fr}
theorem cG {A : AllI} {o : OpI} {l : OpsI} {c : Call} {f : FuncId} {d j dj : Nat} {want g own : Bool} {rows : List (List D)} {res : List D} (hs : g = true → SoundAt P f own rows [res]) (h : @EI P (σ.put d (.cnd g (resVd [res]))) A l k) (hop : o.o.op = .call c := by exact rfl) (hc : c.callee = .value (.func f) := by exact rfl) (hg : o.o.guard = some (j, want) := by exact rfl) (hd : o.o.dst = some d := by exact rfl)
  (hdj : (A.ops[j]?).bind (·.dst) = some dj := by exact rfl) (hgc : gCond want (σ.get dj) = some g := by exact rfl)
  (hrows : (evArgs P σ c.args.toList c.argTypes.toList).2 = some rows := by simp) (hlt : dj < σ.length := by simp)
  (hargs : g = true → (evArgs P σ c.args.toList c.argTypes.toList).1 := by simp) (hst : argsStable P σ c.args.toList c.argTypes.toList = true ∨ resFlat own [res] := by simp) : @SI P σ A o l k :=
 call_g hop hc hg hd hdj hgc hs hrows hlt hargs hst h
end
@[simp] abbrev eI (t : Nat) (n : Int) : Nat × V × List Ob := (t, .one (.d (.int .i64 n)), [])
@[simp] abbrev eB (t : Nat) (b : Bool) : Nat × V × List Ob := (t, .one (.d (.bool b)), [])
@[simp] abbrev eL {α : Type} (t s : Nat) (l : List α) (f : α → List D) : Nat × V × List Ob := (t, .one (.d (.sl s (l.map f))), [])
@[simp] abbrev eP (t u c : Nat) : Nat × V × List Ob := (t, .one (.bptr u c), [])
@[simp] abbrev eG (t : Nat) (xs : List At) : Nat × V × List Ob := (t, .agg xs, [])
@[simp] abbrev eX (t : Nat) (xs : List At) : Nat × V × List Ob := (t, .one (.bptr t 0), [.box xs])
end Go.Vm
