/- The given statement Rows.FnExactWorldMethodsSaid: the law answers true for every input. No condition. -/
import Derived.Test.YtoeokngpoibldaaRows
import Derived.Test.YtoeokngpoibldaaDd
import Derived.Test.YtoeokngpoibldaaE
import Derived.Test.YtoeokngpoibldaaC
import Derived.Test.YtoeokngpoibldaaFx
import Derived.WalkKit
import Derived.Below
import Derived.ProofKit
import Derived.OpenShut
namespace Go.Proofs.Ytoeokngpoibldaa.fnExactWorldMethods
open Go.ChangeShapes Go.WideShapes Go.ChangeAt Go.RowKit Go.Vm Go.Mo
set_option linter.unusedVariables false
set_option linter.unusedSimpArgs false
set_option maxRecDepth 100000
theorem own : ownKnob Try.prog.godebug = none := by kernel_rfl
theorem plain : plainAll Try.prog 12 Try.f6.params.toList = true := by kernel_rfl
theorem x3 : Try.f6.params.all (Try.prog.readableRec ·) = true := by kernel_rfl
theorem x4 : (Rows.fnExactWorldMethodsRow.inPlace == Try.prog.inPlace 6) = true := by kernel_rfl
theorem x5 : (Rows.fnExactWorldMethodsRow.unfollowed == Try.prog.unfollowed 6) = true := by kernel_rfl
theorem x6 : (Rows.fnExactWorldMethodsRow.recurses == Try.prog.recurses 6) = true := by kernel_rfl
theorem x7 : (Rows.fnExactWorldMethodsRow.named == Try.prog.varsNamed 6) = true := by kernel_rfl
theorem x8 : (Rows.fnExactWorldMethodsRow.loops == (Try.f6.params.toList ++ Rows.fnExactWorldMethodsSpec.plain.varTypes Try.prog).any (Try.prog.loopsFrom ·)) = true := by kernel_rfl
theorem x9 : (Rows.fnExactWorldMethodsRow.wideKeys == (Try.f6.params.toList ++ Rows.fnExactWorldMethodsSpec.plain.varTypes Try.prog ++ Try.f6.resultTypes.toList).any (Try.prog.wideKeysFrom ·)) = true := by kernel_rfl
theorem x10 : (Rows.fnExactWorldMethodsRow.veiled == (Try.f6.params.toList ++ Rows.fnExactWorldMethodsSpec.plain.varTypes Try.prog ++ Try.f6.resultTypes.toList).any (Try.prog.veiledRec ·)) = true := by kernel_rfl
theorem x11 : (Rows.fnExactWorldMethodsRow.maps == (Try.f6.params.toList ++ Rows.fnExactWorldMethodsSpec.plain.varTypes Try.prog).any (Try.prog.mapsRec ·)) = true := by kernel_rfl
theorem x12 : (Rows.fnExactWorldMethodsRow.ifaces == (Try.f6.params.toList ++ Rows.fnExactWorldMethodsSpec.plain.varTypes Try.prog).any (Try.prog.ifacesRec ·)) = true := by kernel_rfl
theorem named : Try.prog.funcNamed Rows.fnExactWorldMethodsRow.func = some 6 := by kernel_rfl
theorem closed : joinedFacts Try.prog 6 Try.f6 Rows.fnExactWorldMethodsSpec Rows.fnExactWorldMethodsRow = true := by
  unfold joinedFacts
  rw [laidF, rowedF, x3, x4, x5, x6, x7, x8, x9, x10, x11, x12]
  kernel_rfl
theorem walk {w : World} {vals : List Value} {rows : List (List Vm.D)} (hv : All2 (Reads w) vals rows) (ht : TyAll Try.prog 12 [] rows) :
    Calls Try.prog 6 vals.toArray w fun e w' => e = .returned (.bool true) ∧ Below w.heap.size w w' := by
  obtain rfl := tyAll_nil ht
  have hb : l_FnExactWorldMethods  = true := by
    unfold l_FnExactWorldMethods
    have b0 := i_WorldMethods_cn
    obtain ⟨m1, n1, h1⟩ := l_markMethodS_mh i_WorldMethods 1 (by omega) (by omega)
    have o1 : ¬ (l_markMethodS i_WorldMethods 1).2 < 0 := by omega
    have p1 : 0 ≤ (l_markMethodS i_WorldMethods 1).2 := by omega
    simp (maxDischargeDepth := 12) [l_eqKey_self, l_eqKeyS_self, l_eqMethod_self, l_eqMethodS_self, h1, o1, p1]
  have hs := l_FnExactWorldMethods_ok 
  rw [hb] at hs
  exact true_of_sound hs hv
theorem lifted (os : Os) (started : os.Started) (H : Type) (enc : TypeId × Value → H) :
    ReturnsInHanded {} Try.checked os 6 .any (Rows.fnExactWorldMethodsSpec.pre6 enc Try.prog Try.f6 Rows.fnExactWorldMethodsRow.domain false) (Rows.fnExactWorldMethodsSpec.post enc Try.prog Try.f6 false true false false) := by
  refine returnsInHanded_of_change (C := Try.checked) own started (by kernel_rfl) Try.func6
    (ChangeSpec.witness6 (enc := enc) (C := Try.checked) false ⟨#[], #[], []⟩ 8 (by kernel_rfl) (by kernel_rfl) (by kernel_rfl) (by kernel_rfl)) ?_
  intro W base args ds gs before hval0 hW hcnd _
  have hval : ∀ (j : Nat) t v, Try.f6.params[j]? = some t → args[j]? = some v → Value.okWide Try.prog W .any base t v := hval0
  have hW' := hW
  obtain ⟨p, q, hA0, hV, rfl, hfz, hnd⟩ := hW
  have hA : DataW.TrodAll enc Try.prog W 0 (fun _ => true) true Try.f6.params.toList args.toList ds p := hA0
  obtain ⟨rows, hr, hty⟩ := reads_all (n := 12) plain (fun j t v h1 h2 => hval j t v (by simp at h1) (by simp at h1)) hA
  have hA2 := hA
  rw [Try.params6] at hA2 hty
  obtain ⟨hargs, rfl, rfl⟩ := trodAll_nil hA2
  obtain rfl : args = #[] := by cases args; simp_all
  obtain ⟨rfl, rfl⟩ := trodVars_none hV
  simp only [List.append_nil] at hW'
  refine (walk hr hty).mono fun e W' ⟨he, hg⟩ => ?_
  subst he
  exact ⟨_, rfl, _, _, _, [], _, [], hW', trodAll_mk1 (shut_bool Try.underlying4 _), below_trodAll laidF hg plain hA, rfl, hg.frame _, fun h => by cases h⟩
theorem over : Rows.fnExactWorldMethodsRow.holds Try.pinned (OpenSpec.ofChange Rows.fnExactWorldMethodsSpec) :=
  OpenClaim.holds_of_wide 6 Try.f6 rfl rfl rfl rfl rfl rfl rfl ⟨rfl, rfl, rfl, rfl, rfl⟩ rfl rfl rfl rfl rfl named Try.func6 closed
    (of_decide_eq_true (by kernel_rfl)) (by unfold Func.isWrapper; first | (rw [if_pos (by decide +kernel)]; kernel_rfl) | (rw [if_neg (by decide +kernel)]; exact ⟨rfl, rfl⟩))
    (fun os started H enc _ => lifted os started H enc)
theorem proved : Rows.FnExactWorldMethodsSaid := over
end Go.Proofs.Ytoeokngpoibldaa.fnExactWorldMethods
