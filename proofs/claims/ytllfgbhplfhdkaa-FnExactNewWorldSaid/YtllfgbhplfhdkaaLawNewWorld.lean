/- The given statement Rows.FnExactNewWorldSaid: the law answers true for every input. No condition. -/
import Derived.Test.YtllfgbhplfhdkaaRows
import Derived.Test.YtllfgbhplfhdkaaDd
import Derived.Test.YtllfgbhplfhdkaaE
import Derived.Test.YtllfgbhplfhdkaaC
import Derived.Test.YtllfgbhplfhdkaaFx
import Derived.WalkKit
import Derived.Below
import Derived.ProofKit
import Derived.OpenShut
namespace Go.Proofs.Ytllfgbhplfhdkaa.fnExactNewWorld
open Go.ChangeShapes Go.WideShapes Go.ChangeAt Go.RowKit Go.Vm Go.Mo
set_option linter.unusedVariables false
set_option linter.unusedSimpArgs false
set_option maxRecDepth 100000
theorem own : ownKnob Try.prog.godebug = none := by kernel_rfl
theorem plain : plainAll Try.prog 12 Try.f4.params.toList = true := by kernel_rfl
theorem x3 : Try.f4.params.all (Try.prog.readableRec ·) = true := by kernel_rfl
theorem x4 : (Rows.fnExactNewWorldRow.inPlace == Try.prog.inPlace 4) = true := by kernel_rfl
theorem x5 : (Rows.fnExactNewWorldRow.unfollowed == Try.prog.unfollowed 4) = true := by kernel_rfl
theorem x6 : (Rows.fnExactNewWorldRow.recurses == Try.prog.recurses 4) = true := by kernel_rfl
theorem x7 : (Rows.fnExactNewWorldRow.named == Try.prog.varsNamed 4) = true := by kernel_rfl
theorem x8 : (Rows.fnExactNewWorldRow.loops == (Try.f4.params.toList ++ Rows.fnExactNewWorldSpec.plain.varTypes Try.prog).any (Try.prog.loopsFrom ·)) = true := by kernel_rfl
theorem x9 : (Rows.fnExactNewWorldRow.wideKeys == (Try.f4.params.toList ++ Rows.fnExactNewWorldSpec.plain.varTypes Try.prog ++ Try.f4.resultTypes.toList).any (Try.prog.wideKeysFrom ·)) = true := by kernel_rfl
theorem x10 : (Rows.fnExactNewWorldRow.veiled == (Try.f4.params.toList ++ Rows.fnExactNewWorldSpec.plain.varTypes Try.prog ++ Try.f4.resultTypes.toList).any (Try.prog.veiledRec ·)) = true := by kernel_rfl
theorem x11 : (Rows.fnExactNewWorldRow.maps == (Try.f4.params.toList ++ Rows.fnExactNewWorldSpec.plain.varTypes Try.prog).any (Try.prog.mapsRec ·)) = true := by kernel_rfl
theorem x12 : (Rows.fnExactNewWorldRow.ifaces == (Try.f4.params.toList ++ Rows.fnExactNewWorldSpec.plain.varTypes Try.prog).any (Try.prog.ifacesRec ·)) = true := by kernel_rfl
theorem named : Try.prog.funcNamed Rows.fnExactNewWorldRow.func = some 4 := by kernel_rfl
theorem closed : joinedFacts Try.prog 4 Try.f4 Rows.fnExactNewWorldSpec Rows.fnExactNewWorldRow = true := by
  unfold joinedFacts
  rw [laidF, rowedF, x3, x4, x5, x6, x7, x8, x9, x10, x11, x12]
  kernel_rfl
theorem walk {w : World} {vals : List Value} {rows : List (List Vm.D)} (hv : All2 (Reads w) vals rows) (ht : TyAll Try.prog 12 [3] rows) :
    Calls Try.prog 4 vals.toArray w fun e w' => e = .returned (.bool true) ∧ Below w.heap.size w w' := by
  obtain ⟨r0, rs0, rfl, h0, ht0⟩ := tyAll_cons ht
  obtain rfl := tyAll_nil ht0
  obtain ⟨a0, rfl, t0⟩ := dec3 (n := 11) h0
  have hb : l_FnExactNewWorld a0 = true := by
    unfold l_FnExactNewWorld
    have b0 := i_NewWorld_cn a0
    obtain ⟨m1, n1, h1⟩ := l_markWorld_mh (i_NewWorld a0) 1 (by omega) (by omega)
    have o1 : ¬ (l_markWorld (i_NewWorld a0) 1).2 < 0 := by omega
    have p1 : 0 ≤ (l_markWorld (i_NewWorld a0) 1).2 := by omega
    simp (maxDischargeDepth := 12) [l_eqArchive_self, l_eqArchiveS_self, l_eqAuthority_self, l_eqAuthorityS_self, l_eqCert_self, l_eqCertS_self, l_eqDocument_self, l_eqFrame_self, l_eqIntS_self, l_eqItem_self, l_eqItemS_self, l_eqKey_self, l_eqKeyS_self, l_eqMethod_self, l_eqMethodS_self, l_eqPiece_self, l_eqPieceS_self, l_eqRenewal_self, l_eqRenewalS_self, l_eqSignature_self, l_eqStamp_self, l_eqStampS_self, l_eqStep_self, l_eqStepS_self, l_eqStrand_self, l_eqStringS_self, l_eqWorld_self, h1, o1, p1]
  have hs := l_FnExactNewWorld_ok a0
  rw [hb] at hs
  exact true_of_sound hs hv
theorem lifted (os : Os) (started : os.Started) (H : Type) (enc : TypeId × Value → H) :
    ReturnsInHanded {} Try.checked os 4 .any (Rows.fnExactNewWorldSpec.pre6 enc Try.prog Try.f4 Rows.fnExactNewWorldRow.domain false) (Rows.fnExactNewWorldSpec.post enc Try.prog Try.f4 false true false false) := by
  refine returnsInHanded_of_change (C := Try.checked) own started (by kernel_rfl) Try.func4
    (ChangeSpec.witness6 (enc := enc) (C := Try.checked) false ⟨#[], #[.int .i64 0], []⟩ 8 (by kernel_rfl) (by kernel_rfl) (by kernel_rfl) (by kernel_rfl)) ?_
  intro W base args ds gs before hval0 hW hcnd _
  have hval : ∀ (j : Nat) t v, Try.f4.params[j]? = some t → args[j]? = some v → Value.okWide Try.prog W .any base t v := hval0
  have hW' := hW
  obtain ⟨p, q, hA0, hV, rfl, hfz, hnd⟩ := hW
  have hA : DataW.TrodAll enc Try.prog W 0 (fun _ => true) true Try.f4.params.toList args.toList ds p := hA0
  obtain ⟨rows, hr, hty⟩ := reads_all (n := 12) plain (fun j t v h1 h2 => hval j t v (by simpa using h1) (by simpa using h2)) hA
  have hA2 := hA
  rw [Try.params4] at hA2 hty
  obtain ⟨v0, vs0, d0, ds0, p0, q0, hargs, rfl, rfl, h0, r0⟩ := trodAll_cons hA2
  obtain ⟨rfl, rfl, rfl⟩ := trodAll_nil r0
  obtain rfl : args = #[v0] := by cases args; simp_all
  obtain ⟨rfl, rfl⟩ := trodVars_none hV
  simp only [List.append_nil] at hW'
  refine (walk hr hty).mono fun e W' ⟨he, hg⟩ => ?_
  subst he
  exact ⟨_, rfl, _, _, _, [], _, [], hW', trodAll_mk1 (shut_bool Try.underlying4 _), below_trodAll laidF hg plain hA, rfl, hg.frame _, fun h => by cases h⟩
theorem over : Rows.fnExactNewWorldRow.holds Try.pinned (OpenSpec.ofChange Rows.fnExactNewWorldSpec) :=
  OpenClaim.holds_of_wide 4 Try.f4 rfl rfl rfl rfl rfl rfl rfl ⟨rfl, rfl, rfl, rfl, rfl⟩ rfl rfl rfl rfl rfl named Try.func4 closed
    (of_decide_eq_true (by kernel_rfl)) (by unfold Func.isWrapper; first | (rw [if_pos (by decide +kernel)]; kernel_rfl) | (rw [if_neg (by decide +kernel)]; exact ⟨rfl, rfl⟩))
    (fun os started H enc _ => lifted os started H enc)
theorem proved : Rows.FnExactNewWorldSaid := over
end Go.Proofs.Ytllfgbhplfhdkaa.fnExactNewWorld
