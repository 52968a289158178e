/- The given statement Rows.FnExactWorldKeysSaid: the law answers true for every input. No condition. -/
import Derived.Test.YtoeokngpoibldaaRows
import Derived.Test.YtoeokngpoibldaaDd
import Derived.Test.YtoeokngpoibldaaE
import Derived.Test.YtoeokngpoibldaaC
import Derived.Test.YtoeokngpoibldaaFx
import Derived.WalkKit
import Derived.Below
import Derived.ProofKit
import Derived.OpenShut
namespace Go.Proofs.Ytoeokngpoibldaa.fnExactWorldKeys
open Go.ChangeShapes Go.WideShapes Go.ChangeAt Go.RowKit Go.Vm Go.Mo
set_option linter.unusedVariables false
set_option linter.unusedSimpArgs false
set_option maxRecDepth 100000
theorem own : ownKnob Try.prog.godebug = none := by kernel_rfl
theorem plain : plainAll Try.prog 12 Try.f7.params.toList = true := by kernel_rfl
theorem x3 : Try.f7.params.all (Try.prog.readableRec ·) = true := by kernel_rfl
theorem x4 : (Rows.fnExactWorldKeysRow.inPlace == Try.prog.inPlace 7) = true := by kernel_rfl
theorem x5 : (Rows.fnExactWorldKeysRow.unfollowed == Try.prog.unfollowed 7) = true := by kernel_rfl
theorem x6 : (Rows.fnExactWorldKeysRow.recurses == Try.prog.recurses 7) = true := by kernel_rfl
theorem x7 : (Rows.fnExactWorldKeysRow.named == Try.prog.varsNamed 7) = true := by kernel_rfl
theorem x8 : (Rows.fnExactWorldKeysRow.loops == (Try.f7.params.toList ++ Rows.fnExactWorldKeysSpec.plain.varTypes Try.prog).any (Try.prog.loopsFrom ·)) = true := by kernel_rfl
theorem x9 : (Rows.fnExactWorldKeysRow.wideKeys == (Try.f7.params.toList ++ Rows.fnExactWorldKeysSpec.plain.varTypes Try.prog ++ Try.f7.resultTypes.toList).any (Try.prog.wideKeysFrom ·)) = true := by kernel_rfl
theorem x10 : (Rows.fnExactWorldKeysRow.veiled == (Try.f7.params.toList ++ Rows.fnExactWorldKeysSpec.plain.varTypes Try.prog ++ Try.f7.resultTypes.toList).any (Try.prog.veiledRec ·)) = true := by kernel_rfl
theorem x11 : (Rows.fnExactWorldKeysRow.maps == (Try.f7.params.toList ++ Rows.fnExactWorldKeysSpec.plain.varTypes Try.prog).any (Try.prog.mapsRec ·)) = true := by kernel_rfl
theorem x12 : (Rows.fnExactWorldKeysRow.ifaces == (Try.f7.params.toList ++ Rows.fnExactWorldKeysSpec.plain.varTypes Try.prog).any (Try.prog.ifacesRec ·)) = true := by kernel_rfl
theorem named : Try.prog.funcNamed Rows.fnExactWorldKeysRow.func = some 7 := by kernel_rfl
theorem closed : joinedFacts Try.prog 7 Try.f7 Rows.fnExactWorldKeysSpec Rows.fnExactWorldKeysRow = true := by
  unfold joinedFacts
  rw [laidF, rowedF, x3, x4, x5, x6, x7, x8, x9, x10, x11, x12]
  kernel_rfl
theorem walk {w : World} {vals : List Value} {rows : List (List Vm.D)} (hv : All2 (Reads w) vals rows) (ht : TyAll Try.prog 12 [] rows) :
    Calls Try.prog 7 vals.toArray w fun e w' => e = .returned (.bool true) ∧ Below w.heap.size w w' := by
  obtain rfl := tyAll_nil ht
  have hb : l_FnExactWorldKeys  = true := by
    unfold l_FnExactWorldKeys
    have b0 := i_WorldKeys_cn
    obtain ⟨m1, n1, h1⟩ := l_markKeyS_mh i_WorldKeys 1 (by omega) (by omega)
    have o1 : ¬ (l_markKeyS i_WorldKeys 1).2 < 0 := by omega
    have p1 : 0 ≤ (l_markKeyS i_WorldKeys 1).2 := by omega
    simp (maxDischargeDepth := 12) [l_eqKey_self, l_eqKeyS_self, l_eqMethod_self, l_eqMethodS_self, h1, o1, p1]
  have hs := l_FnExactWorldKeys_ok 
  rw [hb] at hs
  exact true_of_sound hs hv
theorem lifted (os : Os) (started : os.Started) (H : Type) (enc : TypeId × Value → H) :
    ReturnsInHanded {} Try.checked os 7 .any (Rows.fnExactWorldKeysSpec.pre6 enc Try.prog Try.f7 Rows.fnExactWorldKeysRow.domain false) (Rows.fnExactWorldKeysSpec.post enc Try.prog Try.f7 false true false false) := by
  refine returnsInHanded_of_change (C := Try.checked) own started (by kernel_rfl) Try.func7
    (ChangeSpec.witness6 (enc := enc) (C := Try.checked) false ⟨#[], #[], []⟩ 8 (by kernel_rfl) (by kernel_rfl) (by kernel_rfl) (by kernel_rfl)) ?_
  intro W base args ds gs before hval0 hW hcnd _
  have hval : ∀ (j : Nat) t v, Try.f7.params[j]? = some t → args[j]? = some v → Value.okWide Try.prog W .any base t v := hval0
  have hW' := hW
  obtain ⟨p, q, hA0, hV, rfl, hfz, hnd⟩ := hW
  have hA : DataW.TrodAll enc Try.prog W 0 (fun _ => true) true Try.f7.params.toList args.toList ds p := hA0
  obtain ⟨rows, hr, hty⟩ := reads_all (n := 12) plain (fun j t v h1 h2 => hval j t v (by simp at h1) (by simp at h1)) hA
  have hA2 := hA
  rw [Try.params7] at hA2 hty
  obtain ⟨hargs, rfl, rfl⟩ := trodAll_nil hA2
  obtain rfl : args = #[] := by cases args; simp_all
  obtain ⟨rfl, rfl⟩ := trodVars_none hV
  simp only [List.append_nil] at hW'
  refine (walk hr hty).mono fun e W' ⟨he, hg⟩ => ?_
  subst he
  exact ⟨_, rfl, _, _, _, [], _, [], hW', trodAll_mk1 (shut_bool Try.underlying4 _), below_trodAll laidF hg plain hA, rfl, hg.frame _, fun h => by cases h⟩
theorem over : Rows.fnExactWorldKeysRow.holds Try.pinned (OpenSpec.ofChange Rows.fnExactWorldKeysSpec) :=
  OpenClaim.holds_of_wide 7 Try.f7 rfl rfl rfl rfl rfl rfl rfl ⟨rfl, rfl, rfl, rfl, rfl⟩ rfl rfl rfl rfl rfl named Try.func7 closed
    (of_decide_eq_true (by kernel_rfl)) (by unfold Func.isWrapper; first | (rw [if_pos (by decide +kernel)]; kernel_rfl) | (rw [if_neg (by decide +kernel)]; exact ⟨rfl, rfl⟩))
    (fun os started H enc _ => lifted os started H enc)
theorem proved : Rows.FnExactWorldKeysSaid := over
end Go.Proofs.Ytoeokngpoibldaa.fnExactWorldKeys
