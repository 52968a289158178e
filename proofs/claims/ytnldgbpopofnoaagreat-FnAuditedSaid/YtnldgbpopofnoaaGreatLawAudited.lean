/- The given statement Rows.FnAuditedSaid: the law answers true for every input. No condition. -/
import Derived.Test.YtnldgbpopofnoaaGreatRows
import Derived.Test.YtnldgbpopofnoaaGreatDd
import Derived.Test.YtnldgbpopofnoaaGreatPFnAudited
import Derived.Test.YtnldgbpopofnoaaGreatC
import Derived.Test.YtnldgbpopofnoaaGreatFx
import Derived.WalkKit
import Derived.Below
import Derived.ProofKit
import Derived.OpenShut
namespace Go.Proofs.YtnldgbpopofnoaaGreat.fnAudited
open Go.ChangeShapes Go.WideShapes Go.ChangeAt Go.RowKit Go.Vm Go.Mo
set_option linter.unusedVariables false
set_option linter.unusedSimpArgs false
set_option maxRecDepth 100000
theorem own : ownKnob Tryz.prog.godebug = none := by kernel_rfl
theorem plain : jq Tryz.prog 12 Tryz.f3.params.toList = true := by kernel_rfl
theorem x3 : Tryz.f3.params.all (Tryz.prog.readableRec ·) = true := by kernel_rfl
theorem x4 : (Rows.fnAuditedRow.inPlace == Tryz.prog.inPlace 3) = true := by kernel_rfl
theorem x5 : (Rows.fnAuditedRow.unfollowed == Tryz.prog.unfollowed 3) = true := by kernel_rfl
theorem x6 : (Rows.fnAuditedRow.recurses == Tryz.prog.recurses 3) = true := by kernel_rfl
theorem x7 : (Rows.fnAuditedRow.named == Tryz.prog.varsNamed 3) = true := by kernel_rfl
theorem x8 : (Rows.fnAuditedRow.loops == (Tryz.f3.params.toList ++ Rows.fnAuditedSpec.plain.varTypes Tryz.prog).any (Tryz.prog.loopsFrom ·)) = true := by kernel_rfl
theorem x9 : (Rows.fnAuditedRow.wideKeys == (Tryz.f3.params.toList ++ Rows.fnAuditedSpec.plain.varTypes Tryz.prog ++ Tryz.f3.resultTypes.toList).any (Tryz.prog.wideKeysFrom ·)) = true := by kernel_rfl
theorem x10 : (Rows.fnAuditedRow.veiled == (Tryz.f3.params.toList ++ Rows.fnAuditedSpec.plain.varTypes Tryz.prog ++ Tryz.f3.resultTypes.toList).any (Tryz.prog.veiledRec ·)) = true := by kernel_rfl
theorem x11 : (Rows.fnAuditedRow.maps == (Tryz.f3.params.toList ++ Rows.fnAuditedSpec.plain.varTypes Tryz.prog).any (Tryz.prog.mapsRec ·)) = true := by kernel_rfl
theorem x12 : (Rows.fnAuditedRow.ifaces == (Tryz.f3.params.toList ++ Rows.fnAuditedSpec.plain.varTypes Tryz.prog).any (Tryz.prog.ifacesRec ·)) = true := by kernel_rfl
theorem named : Tryz.prog.funcNamed Rows.fnAuditedRow.func = some 3 := by kernel_rfl
theorem closed : joinedFacts Tryz.prog 3 Tryz.f3 Rows.fnAuditedSpec Rows.fnAuditedRow = true := by
  unfold joinedFacts
  rw [D5, CD, x3, x4, x5, x6, x7, x8, x9, x10, x11, x12]
  kernel_rfl
theorem walk {w : World} {wx : List Value} {rows : List (List Vm.D)} (hv : Z2 (Reads w) wx rows) (ht : Lm Tryz.prog 12 [22] rows) :
    Calls Tryz.prog 3 wx.toArray w fun e w' => e = .returned (.bool true) /\ Below w.heap.size w w' := by
  obtain ⟨r0, eZ, rfl, h0, fN⟩ := GM ht
  obtain rfl := F3 fN
  obtain ⟨a0, rfl, t0⟩ := C8 (n := 10) h0
  have hb : qL a0 = true := R8 a0
  have hs := N1 a0 t0
  rw [hb] at hs
  exact Mg hs hv
theorem lifted (os : Os) (started : os.Started) (H : Type) (enc : TypeId × Value -> H) :
    ReturnsInHanded {} Tryz.checked os 3 .any (Rows.fnAuditedSpec.pre6 enc Tryz.prog Tryz.f3 Rows.fnAuditedRow.domain false) (Rows.fnAuditedSpec.post enc Tryz.prog Tryz.f3 false true false false) := by
  refine returnsInHanded_of_change (C := Tryz.checked) own started (by kernel_rfl) Tryz.func3
    (ChangeSpec.witness6 (enc := enc) (C := Tryz.checked) false ⟨#[], #[.slice none 0 0], []⟩ 8 (by kernel_rfl) (by kernel_rfl) (by kernel_rfl) (by kernel_rfl)) ?_
  intro W base args ds gs before mP hW fM _
  have uv : ∀ (j : Nat) t v, Tryz.f3.params[j]? = some t -> args[j]? = some v -> Value.okWide Tryz.prog W .any base t v := mP
  have hO := hW
  obtain ⟨p, q, fO, hV, rfl, ea, vB⟩ := hW
  have hA : DataW.TrodAll enc Tryz.prog W 0 (fun _ => true) true Tryz.f3.params.toList args.toList ds p := fO
  obtain ⟨rows, hr, ue⟩ := LS (n := 12) plain (fun j t v h1 h2 => uv j t v (by simpa using h1) (by simpa using h2)) hA
  have hP := hA
  rw [Tryz.params3] at hP ue
  obtain ⟨v0, eb, d0, ec, p0, q0, wI, rfl, rfl, h0, r0⟩ := trodAll_cons hP
  obtain ⟨rfl, rfl, rfl⟩ := trodAll_nil r0
  obtain rfl : args = #[v0] := by cases args; simp_all
  obtain ⟨rfl, rfl⟩ := trodVars_none hV
  simp only [List.append_nil] at hO
  refine (walk hr ue).mono fun e W' ⟨he, hg⟩ => ?_
  subst he
  exact ⟨_, rfl, _, _, _, [], _, [], hO, trodAll_mk1 (shut_bool Tryz.underlying4 _), TR D5 hg plain hA, rfl, hg.frame _, fun h => by cases h⟩
theorem OB : Rows.fnAuditedRow.holds Tryz.pinned (OpenSpec.ofChange Rows.fnAuditedSpec) :=
  OpenClaim.holds_of_wide 3 Tryz.f3 rfl rfl rfl rfl rfl rfl rfl ⟨rfl, rfl, rfl, rfl, rfl⟩ rfl rfl rfl rfl rfl named Tryz.func3 closed
    (of_decide_eq_true (by kernel_rfl)) (by unfold Func.isWrapper; first | (rw [if_pos (by decide +kernel)]; kernel_rfl) | (rw [if_neg (by decide +kernel)]; exact ⟨rfl, rfl⟩))
    (fun os started H enc _ => lifted os started H enc)
theorem proved : Rows.FnAuditedSaid := OB
end Go.Proofs.YtnldgbpopofnoaaGreat.fnAudited
