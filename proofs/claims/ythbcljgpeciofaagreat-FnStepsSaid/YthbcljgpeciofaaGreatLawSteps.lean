/- The given statement Rows.FnStepsSaid: the law answers true for every input. No condition. -/
import Derived.Test.YthbcljgpeciofaaGreatRows
import Derived.Test.YthbcljgpeciofaaGreatDd
import Derived.Test.YthbcljgpeciofaaGreatPFnSteps
import Derived.Test.YthbcljgpeciofaaGreatC
import Derived.Test.YthbcljgpeciofaaGreatFx
import Derived.WalkKit
import Derived.Below
import Derived.ProofKit
import Derived.OpenShut
namespace Go.Proofs.YthbcljgpeciofaaGreat.fnSteps
open Go.ChangeShapes Go.WideShapes Go.ChangeAt Go.RowKit Go.Vm Go.Mo
set_option linter.unusedVariables false
set_option linter.unusedSimpArgs false
set_option maxRecDepth 100000
theorem own : ownKnob Tryz.prog.godebug = none := by kernel_rfl
theorem plain : jz Tryz.prog 12 Tryz.f3.params.toList = true := by kernel_rfl
theorem x3 : Tryz.f3.params.all (Tryz.prog.readableRec ·) = true := by kernel_rfl
theorem x4 : (Rows.fnStepsRow.inPlace == Tryz.prog.inPlace 3) = true := by kernel_rfl
theorem x5 : (Rows.fnStepsRow.unfollowed == Tryz.prog.unfollowed 3) = true := by kernel_rfl
theorem x6 : (Rows.fnStepsRow.recurses == Tryz.prog.recurses 3) = true := by kernel_rfl
theorem x7 : (Rows.fnStepsRow.named == Tryz.prog.varsNamed 3) = true := by kernel_rfl
theorem x8 : (Rows.fnStepsRow.loops == (Tryz.f3.params.toList ++ Rows.fnStepsSpec.plain.varTypes Tryz.prog).any (Tryz.prog.loopsFrom ·)) = true := by kernel_rfl
theorem x9 : (Rows.fnStepsRow.wideKeys == (Tryz.f3.params.toList ++ Rows.fnStepsSpec.plain.varTypes Tryz.prog ++ Tryz.f3.resultTypes.toList).any (Tryz.prog.wideKeysFrom ·)) = true := by kernel_rfl
theorem x10 : (Rows.fnStepsRow.veiled == (Tryz.f3.params.toList ++ Rows.fnStepsSpec.plain.varTypes Tryz.prog ++ Tryz.f3.resultTypes.toList).any (Tryz.prog.veiledRec ·)) = true := by kernel_rfl
theorem x11 : (Rows.fnStepsRow.maps == (Tryz.f3.params.toList ++ Rows.fnStepsSpec.plain.varTypes Tryz.prog).any (Tryz.prog.mapsRec ·)) = true := by kernel_rfl
theorem x12 : (Rows.fnStepsRow.ifaces == (Tryz.f3.params.toList ++ Rows.fnStepsSpec.plain.varTypes Tryz.prog).any (Tryz.prog.ifacesRec ·)) = true := by kernel_rfl
theorem named : Tryz.prog.funcNamed Rows.fnStepsRow.func = some 3 := by kernel_rfl
theorem closed : joinedFacts Tryz.prog 3 Tryz.f3 Rows.fnStepsSpec Rows.fnStepsRow = true := by
  unfold joinedFacts
  rw [B6, AN, x3, x4, x5, x6, x7, x8, x9, x10, x11, x12]
  kernel_rfl
theorem walk {w : World} {uu : List Value} {rows : List (List Vm.D)} (hv : Zy (Reads w) uu rows) (ht : L5 Tryz.prog 12 [22] rows) :
    Calls Tryz.prog 3 uu.toArray w fun e w' => e = .returned (.bool true) /\ Below w.heap.size w w' := by
  obtain ⟨r0, bd, rfl, h0, cg⟩ := G7 ht
  obtain rfl := Ez cg
  obtain ⟨a0, rfl, t0⟩ := wE (n := 10) h0
  have hb : WY a0 = true := Ny a0
  have hs := IQ a0 t0
  rw [hb] at hs
  exact Mk hs hv
theorem lifted (os : Os) (started : os.Started) (H : Type) (enc : TypeId × Value -> H) :
    ReturnsInHanded {} Tryz.checked os 3 .any (Rows.fnStepsSpec.pre6 enc Tryz.prog Tryz.f3 Rows.fnStepsRow.domain false) (Rows.fnStepsSpec.post enc Tryz.prog Tryz.f3 false true false false) := by
  refine returnsInHanded_of_change (C := Tryz.checked) own started (by kernel_rfl) Tryz.func3
    (ChangeSpec.witness6 (enc := enc) (C := Tryz.checked) false ⟨#[], #[.slice none 0 0], []⟩ 8 (by kernel_rfl) (by kernel_rfl) (by kernel_rfl) (by kernel_rfl)) ?_
  intro W base args ds gs before iy hW cf _
  have s3 : ∀ (j : Nat) t v, Tryz.f3.params[j]? = some t -> args[j]? = some v -> Value.okWide Tryz.prog W .any base t v := iy
  have eb := hW
  obtain ⟨p, q, cj, hV, rfl, bg, tL⟩ := hW
  have hA : DataW.TrodAll enc Tryz.prog W 0 (fun _ => true) true Tryz.f3.params.toList args.toList ds p := cj
  obtain ⟨rows, hr, sT⟩ := L2 (n := 12) plain (fun j t v h1 h2 => s3 j t v (by simpa using h1) (by simpa using h2)) hA
  have ec := hA
  rw [Tryz.params3] at ec sT
  obtain ⟨v0, bh, d0, bj, p0, q0, uH, rfl, rfl, h0, r0⟩ := trodAll_cons ec
  obtain ⟨rfl, rfl, rfl⟩ := trodAll_nil r0
  obtain rfl : args = #[v0] := by cases args; simp_all
  obtain ⟨rfl, rfl⟩ := trodVars_none hV
  simp only [List.append_nil] at eb
  refine (walk hr sT).mono fun e W' ⟨he, hg⟩ => ?_
  subst he
  exact ⟨_, rfl, _, _, _, [], _, [], eb, trodAll_mk1 (shut_bool Tryz.underlying4 _), TN B6 hg plain hA, rfl, hg.frame _, fun h => by cases h⟩
theorem NW : Rows.fnStepsRow.holds Tryz.pinned (OpenSpec.ofChange Rows.fnStepsSpec) :=
  OpenClaim.holds_of_wide 3 Tryz.f3 rfl rfl rfl rfl rfl rfl rfl ⟨rfl, rfl, rfl, rfl, rfl⟩ rfl rfl rfl rfl rfl named Tryz.func3 closed
    (of_decide_eq_true (by kernel_rfl)) (by unfold Func.isWrapper; first | (rw [if_pos (by decide +kernel)]; kernel_rfl) | (rw [if_neg (by decide +kernel)]; exact ⟨rfl, rfl⟩))
    (fun os started H enc _ => lifted os started H enc)
theorem proved : Rows.FnStepsSaid := NW
end Go.Proofs.YthbcljgpeciofaaGreat.fnSteps
