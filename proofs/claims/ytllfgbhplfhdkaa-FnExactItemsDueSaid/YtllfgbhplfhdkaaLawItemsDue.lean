/- The given statement Rows.FnExactItemsDueSaid: the law answers true for every input. No condition. -/
import Derived.Test.YtllfgbhplfhdkaaRows
import Derived.Test.YtllfgbhplfhdkaaDd
import Derived.Test.YtllfgbhplfhdkaaE
import Derived.Test.YtllfgbhplfhdkaaC
import Derived.Test.YtllfgbhplfhdkaaFx
import Derived.WalkKit
import Derived.Below
import Derived.ProofKit
import Derived.OpenShut
namespace Go.Proofs.Ytllfgbhplfhdkaa.fnExactItemsDue
open Go.ChangeShapes Go.WideShapes Go.ChangeAt Go.RowKit Go.Vm Go.Mo
set_option linter.unusedVariables false
set_option linter.unusedSimpArgs false
set_option maxRecDepth 100000
theorem own : ownKnob Try.prog.godebug = none := by kernel_rfl
theorem plain : plainAll Try.prog 12 Try.f3.params.toList = true := by kernel_rfl
theorem x3 : Try.f3.params.all (Try.prog.readableRec ·) = true := by kernel_rfl
theorem x4 : (Rows.fnExactItemsDueRow.inPlace == Try.prog.inPlace 3) = true := by kernel_rfl
theorem x5 : (Rows.fnExactItemsDueRow.unfollowed == Try.prog.unfollowed 3) = true := by kernel_rfl
theorem x6 : (Rows.fnExactItemsDueRow.recurses == Try.prog.recurses 3) = true := by kernel_rfl
theorem x7 : (Rows.fnExactItemsDueRow.named == Try.prog.varsNamed 3) = true := by kernel_rfl
theorem x8 : (Rows.fnExactItemsDueRow.loops == (Try.f3.params.toList ++ Rows.fnExactItemsDueSpec.plain.varTypes Try.prog).any (Try.prog.loopsFrom ·)) = true := by kernel_rfl
theorem x9 : (Rows.fnExactItemsDueRow.wideKeys == (Try.f3.params.toList ++ Rows.fnExactItemsDueSpec.plain.varTypes Try.prog ++ Try.f3.resultTypes.toList).any (Try.prog.wideKeysFrom ·)) = true := by kernel_rfl
theorem x10 : (Rows.fnExactItemsDueRow.veiled == (Try.f3.params.toList ++ Rows.fnExactItemsDueSpec.plain.varTypes Try.prog ++ Try.f3.resultTypes.toList).any (Try.prog.veiledRec ·)) = true := by kernel_rfl
theorem x11 : (Rows.fnExactItemsDueRow.maps == (Try.f3.params.toList ++ Rows.fnExactItemsDueSpec.plain.varTypes Try.prog).any (Try.prog.mapsRec ·)) = true := by kernel_rfl
theorem x12 : (Rows.fnExactItemsDueRow.ifaces == (Try.f3.params.toList ++ Rows.fnExactItemsDueSpec.plain.varTypes Try.prog).any (Try.prog.ifacesRec ·)) = true := by kernel_rfl
theorem named : Try.prog.funcNamed Rows.fnExactItemsDueRow.func = some 3 := by kernel_rfl
theorem closed : joinedFacts Try.prog 3 Try.f3 Rows.fnExactItemsDueSpec Rows.fnExactItemsDueRow = true := by
  unfold joinedFacts
  rw [laidF, rowedF, x3, x4, x5, x6, x7, x8, x9, x10, x11, x12]
  kernel_rfl
theorem walk {w : World} {vals : List Value} {rows : List (List Vm.D)} (hv : All2 (Reads w) vals rows) (ht : TyAll Try.prog 12 [26, 29, 3] rows) :
    Calls Try.prog 3 vals.toArray w fun e w' => e = .returned (.bool true) ∧ Below w.heap.size w w' := by
  obtain ⟨r0, rs0, rfl, h0, ht0⟩ := tyAll_cons ht
  obtain ⟨r1, rs1, rfl, h1, ht1⟩ := tyAll_cons ht0
  obtain ⟨r2, rs2, rfl, h2, ht2⟩ := tyAll_cons ht1
  obtain rfl := tyAll_nil ht2
  obtain ⟨a0, rfl, t0⟩ := dec26 (n := 8) h0
  obtain ⟨a1, rfl, t1⟩ := dec29 (n := 3) h1
  obtain ⟨a2, rfl, t2⟩ := dec3 (n := 11) h2
  have hb : l_FnExactItemsDue a0 a1 a2 = true := by
    unfold l_FnExactItemsDue
    by_cases z0 : (l_szFrame a0 1048576) < 0
    · simp [z0]
    obtain ⟨s0, y0⟩ := l_szFrame_sm a0 1048576 t0 (by omega) (by omega) z0
    obtain ⟨c0, d0⟩ := l_szFrame_cz a0 1048576 t0 (by omega) (by omega) z0
    by_cases z1 : (l_szArchive a1 (l_szFrame a0 1048576)) < 0
    · simp [z0, z1]
    obtain ⟨s1, y1⟩ := l_szArchive_sm a1 (l_szFrame a0 1048576) t1 (by omega) (by omega) z1
    obtain ⟨c1, d1⟩ := l_szArchive_cz a1 (l_szFrame a0 1048576) t1 (by omega) (by omega) z1
    obtain ⟨m0, n0⟩ := l_markFrame_mk a0 1 (by omega) (by omega)
    have o0 : ¬ (l_markFrame a0 1).2 < 0 := by omega
    have p0 : 0 ≤ (l_markFrame a0 1).2 := by omega
    have b1 := i_ItemsDue_cn a0 a1 a2 (by omega) (by omega)
    obtain ⟨m2, n2, h2⟩ := l_markIntS_mh (i_ItemsDue a0 a1 a2) 1 (by omega) (by omega)
    have o2 : ¬ (l_markIntS (i_ItemsDue a0 a1 a2) 1).2 < 0 := by omega
    have p2 : 0 ≤ (l_markIntS (i_ItemsDue a0 a1 a2) 1).2 := by omega
    obtain ⟨m3, n3⟩ := l_markArchive_mk a1 (l_markFrame a0 1).2 (by omega) (by omega)
    have o3 : ¬ (l_markArchive a1 (l_markFrame a0 1).2).2 < 0 := by omega
    have p3 : 0 ≤ (l_markArchive a1 (l_markFrame a0 1).2).2 := by omega
    simp (maxDischargeDepth := 12) [z0, z1, l_eqArchive_self, l_eqAuthority_self, l_eqAuthorityS_self, l_eqDocument_self, l_eqFrame_self, l_eqIntS_self, l_eqItem_self, l_eqItemS_self, l_eqKey_self, l_eqKeyS_self, l_eqMethod_self, l_eqMethodS_self, l_eqPiece_self, l_eqPieceS_self, l_eqRenewal_self, l_eqRenewalS_self, l_eqSignature_self, l_eqStamp_self, l_eqStampS_self, l_eqStep_self, l_eqStepS_self, l_eqStrand_self, l_eqStringS_self, t0, t1, o0, p0, h2, o2, p2, o3, p3]
  have hs := l_FnExactItemsDue_ok a0 a1 a2 t0 t1
  rw [hb] at hs
  exact true_of_sound hs hv
theorem lifted (os : Os) (started : os.Started) (H : Type) (enc : TypeId × Value → H) :
    ReturnsInHanded {} Try.checked os 3 .any (Rows.fnExactItemsDueSpec.pre6 enc Try.prog Try.f3 Rows.fnExactItemsDueRow.domain false) (Rows.fnExactItemsDueSpec.post enc Try.prog Try.f3 false true false false) := by
  refine returnsInHanded_of_change (C := Try.checked) own started (by kernel_rfl) Try.func3
    (ChangeSpec.witness6 (enc := enc) (C := Try.checked) false ⟨#[], #[.agg #[.slice none 0 0, .slice none 0 0, .slice none 0 0, .int .i64 0, .int .i64 0], .agg #[.int .i64 0, .slice none 0 0], .int .i64 0], []⟩ 8 (by kernel_rfl) (by kernel_rfl) (by kernel_rfl) (by kernel_rfl)) ?_
  intro W base args ds gs before hval0 hW hcnd _
  have hval : ∀ (j : Nat) t v, Try.f3.params[j]? = some t → args[j]? = some v → Value.okWide Try.prog W .any base t v := hval0
  have hW' := hW
  obtain ⟨p, q, hA0, hV, rfl, hfz, hnd⟩ := hW
  have hA : DataW.TrodAll enc Try.prog W 0 (fun _ => true) true Try.f3.params.toList args.toList ds p := hA0
  obtain ⟨rows, hr, hty⟩ := reads_all (n := 12) plain (fun j t v h1 h2 => hval j t v (by simpa using h1) (by simpa using h2)) hA
  have hA2 := hA
  rw [Try.params3] at hA2 hty
  obtain ⟨v0, vs0, d0, ds0, p0, q0, hargs, rfl, rfl, h0, r0⟩ := trodAll_cons hA2
  obtain ⟨v1, vs1, d1, ds1, p1, q1, rfl, rfl, rfl, h1, r1⟩ := trodAll_cons r0
  obtain ⟨v2, vs2, d2, ds2, p2, q2, rfl, rfl, rfl, h2, r2⟩ := trodAll_cons r1
  obtain ⟨rfl, rfl, rfl⟩ := trodAll_nil r2
  obtain rfl : args = #[v0, v1, v2] := by cases args; simp_all
  obtain ⟨rfl, rfl⟩ := trodVars_none hV
  simp only [List.append_nil] at hW'
  refine (walk hr hty).mono fun e W' ⟨he, hg⟩ => ?_
  subst he
  exact ⟨_, rfl, _, _, _, [], _, [], hW', trodAll_mk1 (shut_bool Try.underlying4 _), below_trodAll laidF hg plain hA, rfl, hg.frame _, fun h => by cases h⟩
theorem over : Rows.fnExactItemsDueRow.holds Try.pinned (OpenSpec.ofChange Rows.fnExactItemsDueSpec) :=
  OpenClaim.holds_of_wide 3 Try.f3 rfl rfl rfl rfl rfl rfl rfl ⟨rfl, rfl, rfl, rfl, rfl⟩ rfl rfl rfl rfl rfl named Try.func3 closed
    (of_decide_eq_true (by kernel_rfl)) (by unfold Func.isWrapper; first | (rw [if_pos (by decide +kernel)]; kernel_rfl) | (rw [if_neg (by decide +kernel)]; exact ⟨rfl, rfl⟩))
    (fun os started H enc _ => lifted os started H enc)
theorem proved : Rows.FnExactItemsDueSaid := over
end Go.Proofs.Ytllfgbhplfhdkaa.fnExactItemsDue
