/- The given statement Rows.FnExactCountKindSaid: the law answers true for every input. No condition. -/
import Derived.Test.YtoeokngpoibldaaRows
import Derived.Test.YtoeokngpoibldaaDd
import Derived.Test.YtoeokngpoibldaaE
import Derived.Test.YtoeokngpoibldaaC
import Derived.Test.YtoeokngpoibldaaFx
import Derived.WalkKit
import Derived.Below
import Derived.ProofKit
import Derived.OpenShut
namespace Go.Proofs.Ytoeokngpoibldaa.fnExactCountKind
open Go.ChangeShapes Go.WideShapes Go.ChangeAt Go.RowKit Go.Vm Go.Mo
set_option linter.unusedVariables false
set_option linter.unusedSimpArgs false
set_option maxRecDepth 100000
theorem own : ownKnob Try.prog.godebug = none := by kernel_rfl
theorem plain : plainAll Try.prog 12 Try.f9.params.toList = true := by kernel_rfl
theorem x3 : Try.f9.params.all (Try.prog.readableRec ·) = true := by kernel_rfl
theorem x4 : (Rows.fnExactCountKindRow.inPlace == Try.prog.inPlace 9) = true := by kernel_rfl
theorem x5 : (Rows.fnExactCountKindRow.unfollowed == Try.prog.unfollowed 9) = true := by kernel_rfl
theorem x6 : (Rows.fnExactCountKindRow.recurses == Try.prog.recurses 9) = true := by kernel_rfl
theorem x7 : (Rows.fnExactCountKindRow.named == Try.prog.varsNamed 9) = true := by kernel_rfl
theorem x8 : (Rows.fnExactCountKindRow.loops == (Try.f9.params.toList ++ Rows.fnExactCountKindSpec.plain.varTypes Try.prog).any (Try.prog.loopsFrom ·)) = true := by kernel_rfl
theorem x9 : (Rows.fnExactCountKindRow.wideKeys == (Try.f9.params.toList ++ Rows.fnExactCountKindSpec.plain.varTypes Try.prog ++ Try.f9.resultTypes.toList).any (Try.prog.wideKeysFrom ·)) = true := by kernel_rfl
theorem x10 : (Rows.fnExactCountKindRow.veiled == (Try.f9.params.toList ++ Rows.fnExactCountKindSpec.plain.varTypes Try.prog ++ Try.f9.resultTypes.toList).any (Try.prog.veiledRec ·)) = true := by kernel_rfl
theorem x11 : (Rows.fnExactCountKindRow.maps == (Try.f9.params.toList ++ Rows.fnExactCountKindSpec.plain.varTypes Try.prog).any (Try.prog.mapsRec ·)) = true := by kernel_rfl
theorem x12 : (Rows.fnExactCountKindRow.ifaces == (Try.f9.params.toList ++ Rows.fnExactCountKindSpec.plain.varTypes Try.prog).any (Try.prog.ifacesRec ·)) = true := by kernel_rfl
theorem named : Try.prog.funcNamed Rows.fnExactCountKindRow.func = some 9 := by kernel_rfl
theorem closed : joinedFacts Try.prog 9 Try.f9 Rows.fnExactCountKindSpec Rows.fnExactCountKindRow = true := by
  unfold joinedFacts
  rw [laidF, rowedF, x3, x4, x5, x6, x7, x8, x9, x10, x11, x12]
  kernel_rfl
theorem walk {w : World} {vals : List Value} {rows : List (List Vm.D)} (hv : All2 (Reads w) vals rows) (ht : TyAll Try.prog 12 [54, 3] rows) :
    Calls Try.prog 9 vals.toArray w fun e w' => e = .returned (.bool true) ∧ Below w.heap.size w w' := by
  obtain ⟨r0, rs0, rfl, h0, ht0⟩ := tyAll_cons ht
  obtain ⟨r1, rs1, rfl, h1, ht1⟩ := tyAll_cons ht0
  obtain rfl := tyAll_nil ht1
  obtain ⟨a0, rfl, t0⟩ := dec54 (n := 7) h0
  obtain ⟨a1, rfl, t1⟩ := dec3 (n := 11) h1
  have hb : l_FnExactCountKind a0 a1 = true := by simp [l_FnExactCountKind, l_toDocument_id, l_toEvent_id, l_toEventS_id, l_toIntS_id, l_toRenewal_id, l_toStamp_id, l_toStampS_id, l_toStep_id, l_toStepS_id, l_toStringS_id, l_eqDocument_self, l_eqEvent_self, l_eqEventS_self, l_eqIntS_self, l_eqKey_self, l_eqKeyS_self, l_eqMethod_self, l_eqMethodS_self, l_eqRenewal_self, l_eqStamp_self, l_eqStampS_self, l_eqStep_self, l_eqStepS_self, l_eqStringS_self]
  have hs := l_FnExactCountKind_ok a0 a1 t0
  rw [hb] at hs
  exact true_of_sound hs hv
theorem lifted (os : Os) (started : os.Started) (H : Type) (enc : TypeId × Value → H) :
    ReturnsInHanded {} Try.checked os 9 .any (Rows.fnExactCountKindSpec.pre6 enc Try.prog Try.f9 Rows.fnExactCountKindRow.domain false) (Rows.fnExactCountKindSpec.post enc Try.prog Try.f9 false true false false) := by
  refine returnsInHanded_of_change (C := Try.checked) own started (by kernel_rfl) Try.func9
    (ChangeSpec.witness6 (enc := enc) (C := Try.checked) false ⟨#[], #[.slice none 0 0, .int .i64 0], []⟩ 8 (by kernel_rfl) (by kernel_rfl) (by kernel_rfl) (by kernel_rfl)) ?_
  intro W base args ds gs before hval0 hW hcnd _
  have hval : ∀ (j : Nat) t v, Try.f9.params[j]? = some t → args[j]? = some v → Value.okWide Try.prog W .any base t v := hval0
  have hW' := hW
  obtain ⟨p, q, hA0, hV, rfl, hfz, hnd⟩ := hW
  have hA : DataW.TrodAll enc Try.prog W 0 (fun _ => true) true Try.f9.params.toList args.toList ds p := hA0
  obtain ⟨rows, hr, hty⟩ := reads_all (n := 12) plain (fun j t v h1 h2 => hval j t v (by simpa using h1) (by simpa using h2)) hA
  have hA2 := hA
  rw [Try.params9] at hA2 hty
  obtain ⟨v0, vs0, d0, ds0, p0, q0, hargs, rfl, rfl, h0, r0⟩ := trodAll_cons hA2
  obtain ⟨v1, vs1, d1, ds1, p1, q1, rfl, rfl, rfl, h1, r1⟩ := trodAll_cons r0
  obtain ⟨rfl, rfl, rfl⟩ := trodAll_nil r1
  obtain rfl : args = #[v0, v1] := by cases args; simp_all
  obtain ⟨rfl, rfl⟩ := trodVars_none hV
  simp only [List.append_nil] at hW'
  refine (walk hr hty).mono fun e W' ⟨he, hg⟩ => ?_
  subst he
  exact ⟨_, rfl, _, _, _, [], _, [], hW', trodAll_mk1 (shut_bool Try.underlying4 _), below_trodAll laidF hg plain hA, rfl, hg.frame _, fun h => by cases h⟩
theorem over : Rows.fnExactCountKindRow.holds Try.pinned (OpenSpec.ofChange Rows.fnExactCountKindSpec) :=
  OpenClaim.holds_of_wide 9 Try.f9 rfl rfl rfl rfl rfl rfl rfl ⟨rfl, rfl, rfl, rfl, rfl⟩ rfl rfl rfl rfl rfl named Try.func9 closed
    (of_decide_eq_true (by kernel_rfl)) (by unfold Func.isWrapper; first | (rw [if_pos (by decide +kernel)]; kernel_rfl) | (rw [if_neg (by decide +kernel)]; exact ⟨rfl, rfl⟩))
    (fun os started H enc _ => lifted os started H enc)
theorem proved : Rows.FnExactCountKindSaid := over
end Go.Proofs.Ytoeokngpoibldaa.fnExactCountKind
