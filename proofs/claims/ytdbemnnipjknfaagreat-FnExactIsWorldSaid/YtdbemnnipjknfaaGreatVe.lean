/- An abstract machine over the model of Go, by value, and that it is sound: part Ve. No condition. -/
import Derived.Test.YtdbemnnipjknfaaGreatVd
namespace Go.Vm
open Go.RowKit
section
variable {P : Program} {σ : St} {k : Fr}
theorem awp_join {c : Code} {Q : Exit → St → Prop} {S : St} (h : AWP P c (thenA (fun σ' => Wk σ' S) Q) σ) (hS : Q .normal S) : AWP P c Q σ := by
  intro T0 B a w r
  refine wp_mono (h T0 B a w r) ?_
  rintro e a' w' ⟨σ', hq, hr, hb⟩
  cases e with
  | normal => exact ⟨S, hS, hq T0 B a' w' hr, hb⟩
  | exit id => exact ⟨σ', hq, hr, hb⟩
  | goto l => exact ⟨σ', hq, hr, hb⟩
  | ret => exact ⟨σ', hq, hr, hb⟩
  | panic ch => exact ⟨σ', hq, hr, hb⟩
  | outgrown => exact ⟨σ', hq, hr, hb⟩
def Joins (S : St) (σ : St) : Prop := Wk σ S
theorem joins {S : St} (h : Wk σ S) : Joins S σ := h
/-- both branches come to the state S, or leave otherwise; behind them the walk goes on from S -/
theorem joinI {b : Bool} {x y : CodeI} (S : St) (ht : b = true → @WI P σ x (.nxt (Joins S) k)) (hf : b = false → @WI P σ y (.nxt (Joins S) k)) (h : @LI P .normal S k) : @CI P b σ x y k :=
  ⟨fun hb => awp_join (wx_awp (ht hb)) h, fun hb => awp_join (wx_awp (hf hb)) h⟩
end
end Go.Vm
namespace Go.Vm
open Go.RowKit

def vLen (σ : St) : V → Option Nat
  | .one (.d (.sl _ rows)) => some rows.length
  | .one (.sref t j _ len) => (match σ.ob t j with | .arr _ _ _ => some len | _ => none)
  | _ => none
/-- the slices of a state are no longer than a slice can be -/
def StOk (σ : St) : Prop := ∀ t n, vLen σ (σ.get t) = some n → n ≤ 9223372036854775807
theorem vLen_le {T : CS} {h : Nat → Nat → Hd} {σ : St} {w : World} : ∀ {v : V} {val : Value} {n : Nat}, vLen σ v = some n → VRel T h σ.ob w v val → n ≤ maxLen
  | .one (.d (.sl s rows)), val, n, hn, hv => by
    simp only [vLen] at hn
    cases hn
    obtain ⟨base, cap, _, h1, h2⟩ := rd_len (r := (show Rd T w val (.sl s rows) from hv))
    omega
  | .one (.sref u j lo len), val, n, hn, hv => by
    simp only [vLen] at hn
    split at hn
    · rename_i q s rows ho
      cases hn
      have hh := (show AtRel T h σ.ob w (.sref u j lo len) val from hv).2.1 _ _ _ ho
      obtain ⟨_, _, base, cap, _, h1, h2, _⟩ := hh
      omega
    · cases hn
theorem stOk_of_rel {T0 : CS} {B : Nat → Prop} {σ : St} {a : Act} {w : World} (r : RelE T0 B σ a w) : StOk σ := by
  obtain ⟨X, h, r⟩ := r
  intro t n hn
  exact vLen_le hn (r.get t)
theorem awp_ok {P : Program} {c : Code} {Q : Exit → St → Prop} {σ : St} (h : StOk σ → AWP P c Q σ) : AWP P c Q σ := fun T0 B a w r => h (stOk_of_rel r) T0 B a w r
section
variable {P : Program} {σ : St} {k : Fr}
theorem condB {b : Bool} {x y : CodeI} (ht : StOk σ → b = true → @WI P σ x k) (hf : StOk σ → b = false → @WI P σ y k) : @CI P b σ x y k :=
  ⟨fun h => awp_ok fun hk => wx_awp (ht hk h), fun h => awp_ok fun hk => wx_awp (hf hk h)⟩
theorem condR {b c : Bool} {x y : CodeI} (hc : c = b) (ht : StOk σ → c = true → @WI P σ x k) (hf : StOk σ → c = false → @WI P σ y k) : @CI P b σ x y k := by
  subst hc; exact condB ht hf
theorem okL {c : CodeI} (h : StOk σ → @LoopI P σ c k) : @LoopI P σ c k := awp_ok h
theorem okD {id : Nat} {A : AllI} (h : StOk σ → @DI P id σ A k) : @DI P id σ A k := awp_ok h
def callOp : Op → Bool
  | .call _ => true
  | _ => false
/-- a guarded operation at which the walk stops: it is carried out, or it is not -/
theorem guardI {A : AllI} {o : OpI} {l : OpsI} {j dj d : Nat} {want g : Bool} (hop : callOp o.o.op = false) (hg : o.o.guard = some (j, want)) (hd : o.o.dst = some d)
    (hdj : (A.ops[j]?).bind (·.dst) = some dj) (hgc : gCond want (σ.get dj) = some g) (hlt : dj < σ.length)
    (ht : g = true → ((evV P σ o.o.op o.o.type).1 ∧ gOf (evV P σ o.o.op o.o.type).2 = true ∧ (unc (evV P σ o.o.op o.o.type).2).flat = true) ∧ @EI P (σ.put d (.cnd true (unc (evV P σ o.o.op o.o.type).2))) A l k)
    (hf : g = false → @EI P (σ.put d (.cnd false .any)) A l k) : @SI P σ A o l k := by
  have step : ∀ v, (g = true → (evV P σ o.o.op o.o.type).1 ∧ gOf (evV P σ o.o.op o.o.type).2 = true ∧ v = unc (evV P σ o.o.op o.o.type).2 ∧ v.flat = true) → StepG P A.ops o.o σ (σ.put d (.cnd g v)) := by
    intro v hv
    unfold StepG
    simp only [hg]
    refine ⟨dj, d, g, v, hdj, hlt, hd, hgc, fun hgt => ?_, rfl⟩
    obtain ⟨h1, h2, h3, h4⟩ := hv hgt
    have base : ∃ v0, StepV P σ o.o.op o.o.type v0 ∧ gOf v0 = true ∧ v = unc v0 ∧ v.flat = true := ⟨_, evV_ok h1, h2, h3, h4⟩
    unfold StepGV
    split
    · rename_i c hc; rw [hc] at hop; cases hop
    · exact base
  cases g with
  | true =>
    obtain ⟨⟨h1, h2, h3⟩, h4⟩ := ht rfl
    exact ⟨_, .inl (step _ fun _ => ⟨h1, h2, rfl, h3⟩), ev_run h4⟩
  | false => exact ⟨_, .inl (step .any (fun h => by cases h)), ev_run (hf rfl)⟩
end

/-- a guarded operation that is not carried out -/
theorem skipG {P : Program} {σ : St} {k : Fr} {A : AllI} {o : OpI} {l : OpsI} {j dj d : Nat} {want g : Bool} (hg : o.o.guard = some (j, want)) (hd : o.o.dst = some d)
    (hdj : (A.ops[j]?).bind (·.dst) = some dj) (hgc : gCond want (σ.get dj) = some g) (hlt : dj < σ.length) (hgf : g = false)
    (h : @EI P (σ.put d (.cnd false .any)) A l k) : @SI P σ A o l k := by
  subst hgf
  refine ⟨_, .inl ?_, ev_run h⟩
  unfold StepG
  simp only [hg]
  exact ⟨dj, d, false, .any, hdj, hlt, hd, hgc, (fun h => by cases h), rfl⟩
def eqRowT (P : Program) : List TypeId → List At → List At → Option Bool
  | [], _, _ => some true
  | f :: fs, x :: xs, y :: ys => (match eqAt P f x y, eqRowT P fs xs ys with | some p, some q => some (p && q) | _, _ => none)
  | _, _, _ => none
theorem eqRow_types (P : Program) : ∀ (fs : List Field) (xs ys : List At), eqRow P fs xs ys = eqRowT P (fs.map (·.type)) xs ys
  | [], _, _ => by simp [eqRow, eqRowT]
  | f :: fs, [], _ => by simp [eqRow, eqRowT]
  | f :: fs, x :: xs, [] => by simp [eqRow, eqRowT]
  | f :: fs, x :: xs, y :: ys => by simp only [eqRow, List.map_cons, eqRowT, eqRow_types P fs xs ys]; rfl
def fieldTs (P : Program) (T : TypeId) : List TypeId := (P.fieldsOf T).toList.map (·.type)
@[simp] theorem eqRow_fields (P : Program) (T : TypeId) (xs ys : List At) : eqRow P (P.fieldsOf T).toList xs ys = eqRowT P (fieldTs P T) xs ys := eqRow_types P _ _ _
attribute [simp] eqRowT

/-- an element of a list; simp does not look into it -/
def nth {α : Type} [Inhabited α] (l : List α) (i : Nat) : α := l.getD i default
theorem rowAt_map {α : Type} [Inhabited α] {f : α → List D} {l : List α} {i : Nat} (h : i < l.length) : rowAt (l.map f) i = f (nth l i) := by
  simp [rowAt, nth, h]
theorem rowAt_mapc {α : Type} [Inhabited α] {f : α → List D} {l : List α} {i : Nat} (h : i < l.length) (m : List (List D)) : rowAt (l.map f ++ m) i = f (nth l i) := by
  simp [rowAt, nth, h, List.getElem?_append]
theorem set_map {α : Type} {f : α → List D} {l : List α} {i : Nat} {x : α} {r : List D} (h : r = f x) : (l.map f).set i r = (l.set i x).map f := by
  rw [h, List.map_set]
abbrev W (x : Int) : Int := IntKind.i64.wrap x
theorem wrap_of {x : Int} (h1 : -9223372036854775808 ≤ x) (h2 : x ≤ 9223372036854775807) : IntKind.i64.wrap x = x := by
  have hr : IntKind.i64.min ≤ x ∧ x ≤ IntKind.i64.max := by
    constructor
    · show -9223372036854775808 ≤ x; exact h1
    · show x ≤ 9223372036854775807; exact h2
  simp only [IntKind.wrap]
  first
    | (simp [IntKind.bits, IntKind.signed]; omega)
    | omega
theorem wrap_succ {i n : Nat} (h : i < n) (hn : n ≤ maxLen) : IntKind.i64.wrap ((i : Int) + 1) = (i : Int) + 1 := by
  have : n ≤ 9223372036854775807 := hn
  exact wrap_of (by omega) (by omega)
theorem wrap_pred {i n : Nat} (h : 0 < i) (h2 : i < n) (hn : n ≤ maxLen) : IntKind.i64.wrap ((i : Int) - 1) = (i : Int) - 1 := by
  have : n ≤ 9223372036854775807 := hn
  exact wrap_of (by omega) (by omega)
theorem toNat_pred (i : Nat) : ((i : Int) - 1).toNat = i - 1 := by omega
attribute [simp] St.fresh freshFrom V.ref V.ref1 obsRef vsRef
end Go.Vm
