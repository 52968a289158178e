/- The given statement Rows.FnExactStepForgeSaid: the law answers true for every input. No condition. -/
import Derived.Test.YtllfgbhplfhdkaaGreatRows
import Derived.Test.YtllfgbhplfhdkaaGreatDd
import Derived.Test.YtllfgbhplfhdkaaGreatE
import Derived.Test.YtllfgbhplfhdkaaGreatC
import Derived.Test.YtllfgbhplfhdkaaGreatFx
import Derived.WalkKit
import Derived.Below
import Derived.ProofKit
import Derived.OpenShut
namespace Go.Proofs.YtllfgbhplfhdkaaGreat.fnExactStepForge
open Go.ChangeShapes Go.WideShapes Go.ChangeAt Go.RowKit Go.Vm Go.Mo
set_option linter.unusedVariables false
set_option linter.unusedSimpArgs false
set_option maxRecDepth 100000
theorem own : ownKnob Tryz.prog.godebug = none := by kernel_rfl
theorem plain : plainAll Tryz.prog 12 Tryz.f10.params.toList = true := by kernel_rfl
theorem x3 : Tryz.f10.params.all (Tryz.prog.readableRec ·) = true := by kernel_rfl
theorem x4 : (Rows.fnExactStepForgeRow.inPlace == Tryz.prog.inPlace 10) = true := by kernel_rfl
theorem x5 : (Rows.fnExactStepForgeRow.unfollowed == Tryz.prog.unfollowed 10) = true := by kernel_rfl
theorem x6 : (Rows.fnExactStepForgeRow.recurses == Tryz.prog.recurses 10) = true := by kernel_rfl
theorem x7 : (Rows.fnExactStepForgeRow.named == Tryz.prog.varsNamed 10) = true := by kernel_rfl
theorem x8 : (Rows.fnExactStepForgeRow.loops == (Tryz.f10.params.toList ++ Rows.fnExactStepForgeSpec.plain.varTypes Tryz.prog).any (Tryz.prog.loopsFrom ·)) = true := by kernel_rfl
theorem x9 : (Rows.fnExactStepForgeRow.wideKeys == (Tryz.f10.params.toList ++ Rows.fnExactStepForgeSpec.plain.varTypes Tryz.prog ++ Tryz.f10.resultTypes.toList).any (Tryz.prog.wideKeysFrom ·)) = true := by kernel_rfl
theorem x10 : (Rows.fnExactStepForgeRow.veiled == (Tryz.f10.params.toList ++ Rows.fnExactStepForgeSpec.plain.varTypes Tryz.prog ++ Tryz.f10.resultTypes.toList).any (Tryz.prog.veiledRec ·)) = true := by kernel_rfl
theorem x11 : (Rows.fnExactStepForgeRow.maps == (Tryz.f10.params.toList ++ Rows.fnExactStepForgeSpec.plain.varTypes Tryz.prog).any (Tryz.prog.mapsRec ·)) = true := by kernel_rfl
theorem x12 : (Rows.fnExactStepForgeRow.ifaces == (Tryz.f10.params.toList ++ Rows.fnExactStepForgeSpec.plain.varTypes Tryz.prog).any (Tryz.prog.ifacesRec ·)) = true := by kernel_rfl
theorem named : Tryz.prog.funcNamed Rows.fnExactStepForgeRow.func = some 10 := by kernel_rfl
theorem closed : joinedFacts Tryz.prog 10 Tryz.f10 Rows.fnExactStepForgeSpec Rows.fnExactStepForgeRow = true := by
  unfold joinedFacts
  rw [laidF, rowedF, x3, x4, x5, x6, x7, x8, x9, x10, x11, x12]
  kernel_rfl
theorem walk {w : World} {vals : List Value} {rows : List (List Vm.D)} (hv : All2 (Reads w) vals rows) (ht : TyAll Tryz.prog 12 [31, 3, 3, 56] rows) :
    Calls Tryz.prog 10 vals.toArray w fun e w' => e = .returned (.bool true) ∧ Below w.heap.size w w' := by
  obtain ⟨r0, rs0, rfl, h0, ht0⟩ := tyAll_cons ht
  obtain ⟨r1, rs1, rfl, h1, ht1⟩ := tyAll_cons ht0
  obtain ⟨r2, rs2, rfl, h2, ht2⟩ := tyAll_cons ht1
  obtain ⟨r3, rs3, rfl, h3, ht3⟩ := tyAll_cons ht2
  obtain rfl := tyAll_nil ht3
  obtain ⟨a0, rfl, t0⟩ := dec31 (n := 1) h0
  obtain ⟨a1, rfl, t1⟩ := dec3 (n := 11) h1
  obtain ⟨a2, rfl, t2⟩ := dec3 (n := 11) h2
  obtain ⟨a3, rfl, t3⟩ := dec56 (n := 9) h3
  have hb : l_FnExactStepForge a0 a1 a2 a3 = true := by
    unfold l_FnExactStepForge
    by_cases z0 : (l_szWorld a0 1048576) < 0
    · simp [z0]
    obtain ⟨s0, y0⟩ := l_szWorld_sm a0 1048576 t0 (by omega) (by omega) z0
    obtain ⟨c0, d0⟩ := l_szWorld_cz a0 1048576 t0 (by omega) (by omega) z0
    by_cases z1 : (l_szDocument a3 (l_szWorld a0 1048576)) < 0
    · simp [z0, z1]
    obtain ⟨s1, y1⟩ := l_szDocument_sm a3 (l_szWorld a0 1048576) t3 (by omega) (by omega) z1
    obtain ⟨c1, d1⟩ := l_szDocument_cz a3 (l_szWorld a0 1048576) t3 (by omega) (by omega) z1
    obtain ⟨m0, n0, h0⟩ := l_markWorld_mh a0 1 (by omega) (by omega)
    have o0 : ¬ (l_markWorld a0 1).2 < 0 := by omega
    have p0 : 0 ≤ (l_markWorld a0 1).2 := by omega
    obtain ⟨m1, n1⟩ := l_markDocument_mk a3 (l_markWorld a0 1).2 (by omega) (by omega)
    have o1 : ¬ (l_markDocument a3 (l_markWorld a0 1).2).2 < 0 := by omega
    have p1 : 0 ≤ (l_markDocument a3 (l_markWorld a0 1).2).2 := by omega
    have b2 := i_StepForge_cn a0 a1 a2 a3 (by omega) (by omega)
    obtain ⟨m3, n3, h3⟩ := l_markWorld_mh (i_StepForge a0 a1 a2 a3).1 1 (by omega) (by omega)
    have o3 : ¬ (l_markWorld (i_StepForge a0 a1 a2 a3).1 1).2 < 0 := by omega
    have p3 : 0 ≤ (l_markWorld (i_StepForge a0 a1 a2 a3).1 1).2 := by omega
    simp (maxDischargeDepth := 12) [z0, z1, l_eqArchive_self, l_eqArchiveS_self, l_eqAuthority_self, l_eqAuthorityS_self, l_eqCert_self, l_eqCertS_self, l_eqDocument_self, l_eqFrame_self, l_eqIntS_self, l_eqItem_self, l_eqItemS_self, l_eqKey_self, l_eqKeyS_self, l_eqMethod_self, l_eqMethodS_self, l_eqPiece_self, l_eqPieceS_self, l_eqRenewal_self, l_eqRenewalS_self, l_eqSignature_self, l_eqStamp_self, l_eqStampS_self, l_eqStep_self, l_eqStepS_self, l_eqStrand_self, l_eqStringS_self, l_eqWorld_self, t0, t3, h0, o0, p0, o1, p1, h3, o3, p3]
  have hs := l_FnExactStepForge_ok a0 a1 a2 a3 t0 t3
  rw [hb] at hs
  exact true_of_sound hs hv
theorem lifted (os : Os) (started : os.Started) (H : Type) (enc : TypeId × Value → H) :
    ReturnsInHanded {} Tryz.checked os 10 .any (Rows.fnExactStepForgeSpec.pre6 enc Tryz.prog Tryz.f10 Rows.fnExactStepForgeRow.domain false) (Rows.fnExactStepForgeSpec.post enc Tryz.prog Tryz.f10 false true false false) := by
  refine returnsInHanded_of_change (C := Tryz.checked) own started (by kernel_rfl) Tryz.func10
    (ChangeSpec.witness6 (enc := enc) (C := Tryz.checked) false ⟨#[], #[.agg #[.slice none 0 0, .slice none 0 0, .slice none 0 0, .int .i64 0, .int .i64 0, .slice none 0 0, .slice none 0 0, .slice none 0 0, .slice none 0 0, .slice none 0 0, .int .i64 0, .slice none 0 0], .int .i64 0, .int .i64 0, .agg #[.int .i64 0, .slice none 0 0, .slice none 0 0]], []⟩ 8 (by kernel_rfl) (by kernel_rfl) (by kernel_rfl) (by kernel_rfl)) ?_
  intro W base args ds gs before hval0 hW hcnd _
  have hval : ∀ (j : Nat) t v, Tryz.f10.params[j]? = some t → args[j]? = some v → Value.okWide Tryz.prog W .any base t v := hval0
  have hW' := hW
  obtain ⟨p, q, hA0, hV, rfl, hfz, hnd⟩ := hW
  have hA : DataW.TrodAll enc Tryz.prog W 0 (fun _ => true) true Tryz.f10.params.toList args.toList ds p := hA0
  obtain ⟨rows, hr, hty⟩ := reads_all (n := 12) plain (fun j t v h1 h2 => hval j t v (by simpa using h1) (by simpa using h2)) hA
  have hA2 := hA
  rw [Tryz.params10] at hA2 hty
  obtain ⟨v0, vs0, d0, ds0, p0, q0, hargs, rfl, rfl, h0, r0⟩ := trodAll_cons hA2
  obtain ⟨v1, vs1, d1, ds1, p1, q1, rfl, rfl, rfl, h1, r1⟩ := trodAll_cons r0
  obtain ⟨v2, vs2, d2, ds2, p2, q2, rfl, rfl, rfl, h2, r2⟩ := trodAll_cons r1
  obtain ⟨v3, vs3, d3, ds3, p3, q3, rfl, rfl, rfl, h3, r3⟩ := trodAll_cons r2
  obtain ⟨rfl, rfl, rfl⟩ := trodAll_nil r3
  obtain rfl : args = #[v0, v1, v2, v3] := by cases args; simp_all
  obtain ⟨rfl, rfl⟩ := trodVars_none hV
  simp only [List.append_nil] at hW'
  refine (walk hr hty).mono fun e W' ⟨he, hg⟩ => ?_
  subst he
  exact ⟨_, rfl, _, _, _, [], _, [], hW', trodAll_mk1 (shut_bool Tryz.underlying4 _), below_trodAll laidF hg plain hA, rfl, hg.frame _, fun h => by cases h⟩
theorem over : Rows.fnExactStepForgeRow.holds Tryz.pinned (OpenSpec.ofChange Rows.fnExactStepForgeSpec) :=
  OpenClaim.holds_of_wide 10 Tryz.f10 rfl rfl rfl rfl rfl rfl rfl ⟨rfl, rfl, rfl, rfl, rfl⟩ rfl rfl rfl rfl rfl named Tryz.func10 closed
    (of_decide_eq_true (by kernel_rfl)) (by unfold Func.isWrapper; first | (rw [if_pos (by decide +kernel)]; kernel_rfl) | (rw [if_neg (by decide +kernel)]; exact ⟨rfl, rfl⟩))
    (fun os started H enc _ => lifted os started H enc)
theorem proved : Rows.FnExactStepForgeSaid := over
end Go.Proofs.YtllfgbhplfhdkaaGreat.fnExactStepForge
