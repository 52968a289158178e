/- The given statement Rows.FnExactFindInSaid: the law answers true for every input. No condition. -/
import Derived.Test.YtejeomggohkclaaRows
import Derived.Test.YtejeomggohkclaaDd
import Derived.Test.YtejeomggohkclaaE
import Derived.Test.YtejeomggohkclaaC
import Derived.Test.YtejeomggohkclaaFx
import Derived.WalkKit
import Derived.Below
import Derived.ProofKit
import Derived.OpenShut
namespace Go.Proofs.Ytejeomggohkclaa.fnExactFindIn
open Go.ChangeShapes Go.WideShapes Go.ChangeAt Go.RowKit Go.Vm Go.Mo
set_option linter.unusedVariables false
set_option linter.unusedSimpArgs false
set_option maxRecDepth 100000
theorem own : ownKnob Try.prog.godebug = none := by kernel_rfl
theorem plain : plainAll Try.prog 12 Try.f12.params.toList = true := by kernel_rfl
theorem x3 : Try.f12.params.all (Try.prog.readableRec ·) = true := by kernel_rfl
theorem x4 : (Rows.fnExactFindInRow.inPlace == Try.prog.inPlace 12) = true := by kernel_rfl
theorem x5 : (Rows.fnExactFindInRow.unfollowed == Try.prog.unfollowed 12) = true := by kernel_rfl
theorem x6 : (Rows.fnExactFindInRow.recurses == Try.prog.recurses 12) = true := by kernel_rfl
theorem x7 : (Rows.fnExactFindInRow.named == Try.prog.varsNamed 12) = true := by kernel_rfl
theorem x8 : (Rows.fnExactFindInRow.loops == (Try.f12.params.toList ++ Rows.fnExactFindInSpec.plain.varTypes Try.prog).any (Try.prog.loopsFrom ·)) = true := by kernel_rfl
theorem x9 : (Rows.fnExactFindInRow.wideKeys == (Try.f12.params.toList ++ Rows.fnExactFindInSpec.plain.varTypes Try.prog ++ Try.f12.resultTypes.toList).any (Try.prog.wideKeysFrom ·)) = true := by kernel_rfl
theorem x10 : (Rows.fnExactFindInRow.veiled == (Try.f12.params.toList ++ Rows.fnExactFindInSpec.plain.varTypes Try.prog ++ Try.f12.resultTypes.toList).any (Try.prog.veiledRec ·)) = true := by kernel_rfl
theorem x11 : (Rows.fnExactFindInRow.maps == (Try.f12.params.toList ++ Rows.fnExactFindInSpec.plain.varTypes Try.prog).any (Try.prog.mapsRec ·)) = true := by kernel_rfl
theorem x12 : (Rows.fnExactFindInRow.ifaces == (Try.f12.params.toList ++ Rows.fnExactFindInSpec.plain.varTypes Try.prog).any (Try.prog.ifacesRec ·)) = true := by kernel_rfl
theorem named : Try.prog.funcNamed Rows.fnExactFindInRow.func = some 12 := by kernel_rfl
theorem closed : joinedFacts Try.prog 12 Try.f12 Rows.fnExactFindInSpec Rows.fnExactFindInRow = true := by
  unfold joinedFacts
  rw [laidF, rowedF, x3, x4, x5, x6, x7, x8, x9, x10, x11, x12]
  kernel_rfl
theorem walk {w : World} {vals : List Value} {rows : List (List Vm.D)} (hv : All2 (Reads w) vals rows) (ht : TyAll Try.prog 12 [102, 3] rows) :
    Calls Try.prog 12 vals.toArray w fun e w' => e = .returned (.bool true) ∧ Below w.heap.size w w' := by
  obtain ⟨r0, rs0, rfl, h0, ht0⟩ := tyAll_cons ht
  obtain ⟨r1, rs1, rfl, h1, ht1⟩ := tyAll_cons ht0
  obtain rfl := tyAll_nil ht1
  obtain ⟨a0, rfl, t0⟩ := dec102 (n := 1) h0
  obtain ⟨a1, rfl, t1⟩ := dec3 (n := 11) h1
  have hb : l_FnExactFindIn a0 a1 = true := by simp [l_FnExactFindIn, l_toArchive_id, l_toArchiveS_id, l_toAuthority_id, l_toAuthorityS_id, l_toBoolS_id, l_toCert_id, l_toCertS_id, l_toDocument_id, l_toEvent_id, l_toEventS_id, l_toFrame_id, l_toIntS_id, l_toIntSS_id, l_toItem_id, l_toItemS_id, l_toKey_id, l_toKeyS_id, l_toMethod_id, l_toMethodS_id, l_toPiece_id, l_toPieceS_id, l_toRedacted_id, l_toRenewal_id, l_toRenewalS_id, l_toSignature_id, l_toStamp_id, l_toStampS_id, l_toStep_id, l_toStepS_id, l_toStrand_id, l_toStringS_id, l_toWorld_id, l_eqArchive_self, l_eqArchiveS_self, l_eqAuthority_self, l_eqAuthorityS_self, l_eqBoolS_self, l_eqCert_self, l_eqCertS_self, l_eqDocument_self, l_eqEvent_self, l_eqEventS_self, l_eqFrame_self, l_eqIntS_self, l_eqIntSS_self, l_eqItem_self, l_eqItemS_self, l_eqKey_self, l_eqKeyS_self, l_eqMethod_self, l_eqMethodS_self, l_eqPiece_self, l_eqPieceS_self, l_eqRedacted_self, l_eqRenewal_self, l_eqRenewalS_self, l_eqSignature_self, l_eqStamp_self, l_eqStampS_self, l_eqStep_self, l_eqStepS_self, l_eqStrand_self, l_eqStringS_self, l_eqWorld_self]
  have hs := l_FnExactFindIn_ok a0 a1 t0
  rw [hb] at hs
  exact true_of_sound hs hv
theorem lifted (os : Os) (started : os.Started) (H : Type) (enc : TypeId × Value → H) :
    ReturnsInHanded {} Try.checked os 12 .any (Rows.fnExactFindInSpec.pre6 enc Try.prog Try.f12 Rows.fnExactFindInRow.domain false) (Rows.fnExactFindInSpec.post enc Try.prog Try.f12 false true false false) := by
  refine returnsInHanded_of_change (C := Try.checked) own started (by kernel_rfl) Try.func12
    (ChangeSpec.witness6 (enc := enc) (C := Try.checked) false ⟨#[], #[.agg #[.slice none 0 0, .slice none 0 0, .slice none 0 0, .int .i64 0, .int .i64 0, .slice none 0 0, .slice none 0 0, .slice none 0 0, .slice none 0 0, .slice none 0 0, .int .i64 0, .slice none 0 0], .int .i64 0], []⟩ 8 (by kernel_rfl) (by kernel_rfl) (by kernel_rfl) (by kernel_rfl)) ?_
  intro W base args ds gs before hval0 hW hcnd _
  have hval : ∀ (j : Nat) t v, Try.f12.params[j]? = some t → args[j]? = some v → Value.okWide Try.prog W .any base t v := hval0
  have hW' := hW
  obtain ⟨p, q, hA0, hV, rfl, hfz, hnd⟩ := hW
  have hA : DataW.TrodAll enc Try.prog W 0 (fun _ => true) true Try.f12.params.toList args.toList ds p := hA0
  obtain ⟨rows, hr, hty⟩ := reads_all (n := 12) plain (fun j t v h1 h2 => hval j t v (by simpa using h1) (by simpa using h2)) hA
  have hA2 := hA
  rw [Try.params12] at hA2 hty
  obtain ⟨v0, vs0, d0, ds0, p0, q0, hargs, rfl, rfl, h0, r0⟩ := trodAll_cons hA2
  obtain ⟨v1, vs1, d1, ds1, p1, q1, rfl, rfl, rfl, h1, r1⟩ := trodAll_cons r0
  obtain ⟨rfl, rfl, rfl⟩ := trodAll_nil r1
  obtain rfl : args = #[v0, v1] := by cases args; simp_all
  obtain ⟨rfl, rfl⟩ := trodVars_none hV
  simp only [List.append_nil] at hW'
  refine (walk hr hty).mono fun e W' ⟨he, hg⟩ => ?_
  subst he
  exact ⟨_, rfl, _, _, _, [], _, [], hW', trodAll_mk1 (shut_bool Try.underlying4 _), below_trodAll laidF hg plain hA, rfl, hg.frame _, fun h => by cases h⟩
theorem over : Rows.fnExactFindInRow.holds Try.pinned (OpenSpec.ofChange Rows.fnExactFindInSpec) :=
  OpenClaim.holds_of_wide 12 Try.f12 rfl rfl rfl rfl rfl rfl rfl ⟨rfl, rfl, rfl, rfl, rfl⟩ rfl rfl rfl rfl rfl named Try.func12 closed
    (of_decide_eq_true (by kernel_rfl)) (by unfold Func.isWrapper; first | (rw [if_pos (by decide +kernel)]; kernel_rfl) | (rw [if_neg (by decide +kernel)]; exact ⟨rfl, rfl⟩))
    (fun os started H enc _ => lifted os started H enc)
theorem proved : Rows.FnExactFindInSaid := over
end Go.Proofs.Ytejeomggohkclaa.fnExactFindIn
