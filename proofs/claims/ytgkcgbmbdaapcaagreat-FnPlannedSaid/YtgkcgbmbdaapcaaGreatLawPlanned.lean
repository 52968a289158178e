/- The given statement Rows.FnPlannedSaid: the law answers true for every input. No condition. -/
import Derived.Test.YtgkcgbmbdaapcaaGreatRows
import Derived.Test.YtgkcgbmbdaapcaaGreatDd
import Derived.Test.YtgkcgbmbdaapcaaGreatPFnPlanned
import Derived.Test.YtgkcgbmbdaapcaaGreatC
import Derived.Test.YtgkcgbmbdaapcaaGreatFx
import Derived.WalkKit
import Derived.Below
import Derived.ProofKit
import Derived.OpenShut
namespace Go.Proofs.YtgkcgbmbdaapcaaGreat.fnPlanned
open Go.ChangeShapes Go.WideShapes Go.ChangeAt Go.RowKit Go.Vm Go.Mo
set_option linter.unusedVariables false
set_option linter.unusedSimpArgs false
set_option maxRecDepth 100000
theorem own : ownKnob Tryz.prog.godebug = none := by kernel_rfl
theorem plain : yP Tryz.prog 12 Tryz.f3.params.toList = true := by kernel_rfl
theorem x3 : Tryz.f3.params.all (Tryz.prog.readableRec ·) = true := by kernel_rfl
theorem x4 : (Rows.fnPlannedRow.inPlace == Tryz.prog.inPlace 3) = true := by kernel_rfl
theorem x5 : (Rows.fnPlannedRow.unfollowed == Tryz.prog.unfollowed 3) = true := by kernel_rfl
theorem x6 : (Rows.fnPlannedRow.recurses == Tryz.prog.recurses 3) = true := by kernel_rfl
theorem x7 : (Rows.fnPlannedRow.named == Tryz.prog.varsNamed 3) = true := by kernel_rfl
theorem x8 : (Rows.fnPlannedRow.loops == (Tryz.f3.params.toList ++ Rows.fnPlannedSpec.plain.varTypes Tryz.prog).any (Tryz.prog.loopsFrom ·)) = true := by kernel_rfl
theorem x9 : (Rows.fnPlannedRow.wideKeys == (Tryz.f3.params.toList ++ Rows.fnPlannedSpec.plain.varTypes Tryz.prog ++ Tryz.f3.resultTypes.toList).any (Tryz.prog.wideKeysFrom ·)) = true := by kernel_rfl
theorem x10 : (Rows.fnPlannedRow.veiled == (Tryz.f3.params.toList ++ Rows.fnPlannedSpec.plain.varTypes Tryz.prog ++ Tryz.f3.resultTypes.toList).any (Tryz.prog.veiledRec ·)) = true := by kernel_rfl
theorem x11 : (Rows.fnPlannedRow.maps == (Tryz.f3.params.toList ++ Rows.fnPlannedSpec.plain.varTypes Tryz.prog).any (Tryz.prog.mapsRec ·)) = true := by kernel_rfl
theorem x12 : (Rows.fnPlannedRow.ifaces == (Tryz.f3.params.toList ++ Rows.fnPlannedSpec.plain.varTypes Tryz.prog).any (Tryz.prog.ifacesRec ·)) = true := by kernel_rfl
theorem named : Tryz.prog.funcNamed Rows.fnPlannedRow.func = some 3 := by kernel_rfl
theorem closed : joinedFacts Tryz.prog 3 Tryz.f3 Rows.fnPlannedSpec Rows.fnPlannedRow = true := by
  unfold joinedFacts
  rw [Lq, HE, x3, x4, x5, x6, x7, x8, x9, x10, x11, x12]
  kernel_rfl
theorem walk {w : World} {wj : List Value} {rows : List (List Vm.D)} (hv : Zc (Reads w) wj rows) (ht : RT Tryz.prog 12 [22] rows) :
    Calls Tryz.prog 3 wj.toArray w fun e w' => e = .returned (.bool true) /\ Below w.heap.size w w' := by
  obtain ⟨r0, ic, rfl, h0, mV⟩ := RX ht
  obtain rfl := Pe mV
  obtain ⟨a0, rfl, t0⟩ := GO (n := 10) h0
  have hb : yN a0 = true := Uw a0
  have hs := RF a0 t0
  rw [hb] at hs
  exact W7 hs hv
theorem lifted (os : Os) (started : os.Started) (H : Type) (enc : TypeId × Value -> H) :
    ReturnsInHanded {} Tryz.checked os 3 .any (Rows.fnPlannedSpec.pre6 enc Tryz.prog Tryz.f3 Rows.fnPlannedRow.domain false) (Rows.fnPlannedSpec.post enc Tryz.prog Tryz.f3 false true false false) := by
  refine returnsInHanded_of_change (C := Tryz.checked) own started (by kernel_rfl) Tryz.func3
    (ChangeSpec.witness6 (enc := enc) (C := Tryz.checked) false ⟨#[], #[.slice none 0 0], []⟩ 8 (by kernel_rfl) (by kernel_rfl) (by kernel_rfl) (by kernel_rfl)) ?_
  intro W base args ds gs before ss hW mU _
  have v5 : ∀ (j : Nat) t v, Tryz.f3.params[j]? = some t -> args[j]? = some v -> Value.okWide Tryz.prog W .any base t v := ss
  have ov := hW
  obtain ⟨p, q, mW, hV, rfl, ig, w8⟩ := hW
  have hA : DataW.TrodAll enc Tryz.prog W 0 (fun _ => true) true Tryz.f3.params.toList args.toList ds p := mW
  obtain ⟨rows, hr, vy⟩ := Un (n := 12) plain (fun j t v h1 h2 => v5 j t v (by simpa using h1) (by simpa using h2)) hA
  have ow := hA
  rw [Tryz.params3] at ow vy
  obtain ⟨v0, ij, d0, im, p0, q0, wH, rfl, rfl, h0, r0⟩ := trodAll_cons ow
  obtain ⟨rfl, rfl, rfl⟩ := trodAll_nil r0
  obtain rfl : args = #[v0] := by cases args; simp_all
  obtain ⟨rfl, rfl⟩ := trodVars_none hV
  simp only [List.append_nil] at ov
  refine (walk hr vy).mono fun e W' ⟨he, hg⟩ => ?_
  subst he
  exact ⟨_, rfl, _, _, _, [], _, [], ov, trodAll_mk1 (shut_bool Tryz.underlying4 _), qk Lq hg plain hA, rfl, hg.frame _, fun h => by cases h⟩
theorem U3 : Rows.fnPlannedRow.holds Tryz.pinned (OpenSpec.ofChange Rows.fnPlannedSpec) :=
  OpenClaim.holds_of_wide 3 Tryz.f3 rfl rfl rfl rfl rfl rfl rfl ⟨rfl, rfl, rfl, rfl, rfl⟩ rfl rfl rfl rfl rfl named Tryz.func3 closed
    (of_decide_eq_true (by kernel_rfl)) (by unfold Func.isWrapper; first | (rw [if_pos (by decide +kernel)]; kernel_rfl) | (rw [if_neg (by decide +kernel)]; exact ⟨rfl, rfl⟩))
    (fun os started H enc _ => lifted os started H enc)
theorem proved : Rows.FnPlannedSaid := U3
end Go.Proofs.YtgkcgbmbdaapcaaGreat.fnPlanned
