/- The given statement Rows.FnExactEqualWorldsSaid: the law answers true for every input. No condition. -/
import Derived.Test.YtejeomggohkclaaRows
import Derived.Test.YtejeomggohkclaaDd
import Derived.Test.YtejeomggohkclaaE
import Derived.Test.YtejeomggohkclaaC
import Derived.Test.YtejeomggohkclaaFx
import Derived.WalkKit
import Derived.Below
import Derived.ProofKit
import Derived.OpenShut
namespace Go.Proofs.Ytejeomggohkclaa.fnExactEqualWorlds
open Go.ChangeShapes Go.WideShapes Go.ChangeAt Go.RowKit Go.Vm Go.Mo
set_option linter.unusedVariables false
set_option linter.unusedSimpArgs false
set_option maxRecDepth 100000
theorem own : ownKnob Try.prog.godebug = none := by kernel_rfl
theorem plain : plainAll Try.prog 12 Try.f14.params.toList = true := by kernel_rfl
theorem x3 : Try.f14.params.all (Try.prog.readableRec ·) = true := by kernel_rfl
theorem x4 : (Rows.fnExactEqualWorldsRow.inPlace == Try.prog.inPlace 14) = true := by kernel_rfl
theorem x5 : (Rows.fnExactEqualWorldsRow.unfollowed == Try.prog.unfollowed 14) = true := by kernel_rfl
theorem x6 : (Rows.fnExactEqualWorldsRow.recurses == Try.prog.recurses 14) = true := by kernel_rfl
theorem x7 : (Rows.fnExactEqualWorldsRow.named == Try.prog.varsNamed 14) = true := by kernel_rfl
theorem x8 : (Rows.fnExactEqualWorldsRow.loops == (Try.f14.params.toList ++ Rows.fnExactEqualWorldsSpec.plain.varTypes Try.prog).any (Try.prog.loopsFrom ·)) = true := by kernel_rfl
theorem x9 : (Rows.fnExactEqualWorldsRow.wideKeys == (Try.f14.params.toList ++ Rows.fnExactEqualWorldsSpec.plain.varTypes Try.prog ++ Try.f14.resultTypes.toList).any (Try.prog.wideKeysFrom ·)) = true := by kernel_rfl
theorem x10 : (Rows.fnExactEqualWorldsRow.veiled == (Try.f14.params.toList ++ Rows.fnExactEqualWorldsSpec.plain.varTypes Try.prog ++ Try.f14.resultTypes.toList).any (Try.prog.veiledRec ·)) = true := by kernel_rfl
theorem x11 : (Rows.fnExactEqualWorldsRow.maps == (Try.f14.params.toList ++ Rows.fnExactEqualWorldsSpec.plain.varTypes Try.prog).any (Try.prog.mapsRec ·)) = true := by kernel_rfl
theorem x12 : (Rows.fnExactEqualWorldsRow.ifaces == (Try.f14.params.toList ++ Rows.fnExactEqualWorldsSpec.plain.varTypes Try.prog).any (Try.prog.ifacesRec ·)) = true := by kernel_rfl
theorem named : Try.prog.funcNamed Rows.fnExactEqualWorldsRow.func = some 14 := by kernel_rfl
theorem closed : joinedFacts Try.prog 14 Try.f14 Rows.fnExactEqualWorldsSpec Rows.fnExactEqualWorldsRow = true := by
  unfold joinedFacts
  rw [laidF, rowedF, x3, x4, x5, x6, x7, x8, x9, x10, x11, x12]
  kernel_rfl
theorem walk {w : World} {vals : List Value} {rows : List (List Vm.D)} (hv : All2 (Reads w) vals rows) (ht : TyAll Try.prog 12 [102, 102] rows) :
    Calls Try.prog 14 vals.toArray w fun e w' => e = .returned (.bool true) ∧ Below w.heap.size w w' := by
  obtain ⟨r0, rs0, rfl, h0, ht0⟩ := tyAll_cons ht
  obtain ⟨r1, rs1, rfl, h1, ht1⟩ := tyAll_cons ht0
  obtain rfl := tyAll_nil ht1
  obtain ⟨a0, rfl, t0⟩ := dec102 (n := 1) h0
  obtain ⟨a1, rfl, t1⟩ := dec102 (n := 1) h1
  have hb : l_FnExactEqualWorlds a0 a1 = true := by simp [l_FnExactEqualWorlds, l_toArchive_id, l_toArchiveS_id, l_toAuthority_id, l_toAuthorityS_id, l_toBoolS_id, l_toCert_id, l_toCertS_id, l_toDocument_id, l_toEvent_id, l_toEventS_id, l_toFrame_id, l_toIntS_id, l_toIntSS_id, l_toItem_id, l_toItemS_id, l_toKey_id, l_toKeyS_id, l_toMethod_id, l_toMethodS_id, l_toPiece_id, l_toPieceS_id, l_toRedacted_id, l_toRenewal_id, l_toRenewalS_id, l_toSignature_id, l_toStamp_id, l_toStampS_id, l_toStep_id, l_toStepS_id, l_toStrand_id, l_toStringS_id, l_toWorld_id, l_eqArchive_self, l_eqArchiveS_self, l_eqAuthority_self, l_eqAuthorityS_self, l_eqBoolS_self, l_eqCert_self, l_eqCertS_self, l_eqDocument_self, l_eqEvent_self, l_eqEventS_self, l_eqFrame_self, l_eqIntS_self, l_eqIntSS_self, l_eqItem_self, l_eqItemS_self, l_eqKey_self, l_eqKeyS_self, l_eqMethod_self, l_eqMethodS_self, l_eqPiece_self, l_eqPieceS_self, l_eqRedacted_self, l_eqRenewal_self, l_eqRenewalS_self, l_eqSignature_self, l_eqStamp_self, l_eqStampS_self, l_eqStep_self, l_eqStepS_self, l_eqStrand_self, l_eqStringS_self, l_eqWorld_self]
  have hs := l_FnExactEqualWorlds_ok a0 a1 t0 t1
  rw [hb] at hs
  exact true_of_sound hs hv
theorem lifted (os : Os) (started : os.Started) (H : Type) (enc : TypeId × Value → H) :
    ReturnsInHanded {} Try.checked os 14 .any (Rows.fnExactEqualWorldsSpec.pre6 enc Try.prog Try.f14 Rows.fnExactEqualWorldsRow.domain false) (Rows.fnExactEqualWorldsSpec.post enc Try.prog Try.f14 false true false false) := by
  refine returnsInHanded_of_change (C := Try.checked) own started (by kernel_rfl) Try.func14
    (ChangeSpec.witness6 (enc := enc) (C := Try.checked) false ⟨#[], #[.agg #[.slice none 0 0, .slice none 0 0, .slice none 0 0, .int .i64 0, .int .i64 0, .slice none 0 0, .slice none 0 0, .slice none 0 0, .slice none 0 0, .slice none 0 0, .int .i64 0, .slice none 0 0], .agg #[.slice none 0 0, .slice none 0 0, .slice none 0 0, .int .i64 0, .int .i64 0, .slice none 0 0, .slice none 0 0, .slice none 0 0, .slice none 0 0, .slice none 0 0, .int .i64 0, .slice none 0 0]], []⟩ 8 (by kernel_rfl) (by kernel_rfl) (by kernel_rfl) (by kernel_rfl)) ?_
  intro W base args ds gs before hval0 hW hcnd _
  have hval : ∀ (j : Nat) t v, Try.f14.params[j]? = some t → args[j]? = some v → Value.okWide Try.prog W .any base t v := hval0
  have hW' := hW
  obtain ⟨p, q, hA0, hV, rfl, hfz, hnd⟩ := hW
  have hA : DataW.TrodAll enc Try.prog W 0 (fun _ => true) true Try.f14.params.toList args.toList ds p := hA0
  obtain ⟨rows, hr, hty⟩ := reads_all (n := 12) plain (fun j t v h1 h2 => hval j t v (by simpa using h1) (by simpa using h2)) hA
  have hA2 := hA
  rw [Try.params14] at hA2 hty
  obtain ⟨v0, vs0, d0, ds0, p0, q0, hargs, rfl, rfl, h0, r0⟩ := trodAll_cons hA2
  obtain ⟨v1, vs1, d1, ds1, p1, q1, rfl, rfl, rfl, h1, r1⟩ := trodAll_cons r0
  obtain ⟨rfl, rfl, rfl⟩ := trodAll_nil r1
  obtain rfl : args = #[v0, v1] := by cases args; simp_all
  obtain ⟨rfl, rfl⟩ := trodVars_none hV
  simp only [List.append_nil] at hW'
  refine (walk hr hty).mono fun e W' ⟨he, hg⟩ => ?_
  subst he
  exact ⟨_, rfl, _, _, _, [], _, [], hW', trodAll_mk1 (shut_bool Try.underlying4 _), below_trodAll laidF hg plain hA, rfl, hg.frame _, fun h => by cases h⟩
theorem over : Rows.fnExactEqualWorldsRow.holds Try.pinned (OpenSpec.ofChange Rows.fnExactEqualWorldsSpec) :=
  OpenClaim.holds_of_wide 14 Try.f14 rfl rfl rfl rfl rfl rfl rfl ⟨rfl, rfl, rfl, rfl, rfl⟩ rfl rfl rfl rfl rfl named Try.func14 closed
    (of_decide_eq_true (by kernel_rfl)) (by unfold Func.isWrapper; first | (rw [if_pos (by decide +kernel)]; kernel_rfl) | (rw [if_neg (by decide +kernel)]; exact ⟨rfl, rfl⟩))
    (fun os started H enc _ => lifted os started H enc)
theorem proved : Rows.FnExactEqualWorldsSaid := over
end Go.Proofs.Ytejeomggohkclaa.fnExactEqualWorlds
