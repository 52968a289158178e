/- The given statement Rows.FnExactAllStampsSaid: the law answers true for every input. No condition. -/
import Derived.Test.YtdbglcndfmdlfaaGreatRows
import Derived.Test.YtdbglcndfmdlfaaGreatDd
import Derived.Test.YtdbglcndfmdlfaaGreatE
import Derived.Test.YtdbglcndfmdlfaaGreatC
import Derived.Test.YtdbglcndfmdlfaaGreatFx
import Derived.WalkKit
import Derived.Below
import Derived.ProofKit
import Derived.OpenShut
namespace Go.Proofs.YtdbglcndfmdlfaaGreat.fnExactAllStamps
open Go.ChangeShapes Go.WideShapes Go.ChangeAt Go.RowKit Go.Vm Go.Mo
set_option linter.unusedVariables false
set_option linter.unusedSimpArgs false
set_option maxRecDepth 100000
theorem own : ownKnob Tryz.prog.godebug = none := by kernel_rfl
theorem plain : plainAll Tryz.prog 12 Tryz.f3.params.toList = true := by kernel_rfl
theorem x3 : Tryz.f3.params.all (Tryz.prog.readableRec ·) = true := by kernel_rfl
theorem x4 : (Rows.fnExactAllStampsRow.inPlace == Tryz.prog.inPlace 3) = true := by kernel_rfl
theorem x5 : (Rows.fnExactAllStampsRow.unfollowed == Tryz.prog.unfollowed 3) = true := by kernel_rfl
theorem x6 : (Rows.fnExactAllStampsRow.recurses == Tryz.prog.recurses 3) = true := by kernel_rfl
theorem x7 : (Rows.fnExactAllStampsRow.named == Tryz.prog.varsNamed 3) = true := by kernel_rfl
theorem x8 : (Rows.fnExactAllStampsRow.loops == (Tryz.f3.params.toList ++ Rows.fnExactAllStampsSpec.plain.varTypes Tryz.prog).any (Tryz.prog.loopsFrom ·)) = true := by kernel_rfl
theorem x9 : (Rows.fnExactAllStampsRow.wideKeys == (Tryz.f3.params.toList ++ Rows.fnExactAllStampsSpec.plain.varTypes Tryz.prog ++ Tryz.f3.resultTypes.toList).any (Tryz.prog.wideKeysFrom ·)) = true := by kernel_rfl
theorem x10 : (Rows.fnExactAllStampsRow.veiled == (Tryz.f3.params.toList ++ Rows.fnExactAllStampsSpec.plain.varTypes Tryz.prog ++ Tryz.f3.resultTypes.toList).any (Tryz.prog.veiledRec ·)) = true := by kernel_rfl
theorem x11 : (Rows.fnExactAllStampsRow.maps == (Tryz.f3.params.toList ++ Rows.fnExactAllStampsSpec.plain.varTypes Tryz.prog).any (Tryz.prog.mapsRec ·)) = true := by kernel_rfl
theorem x12 : (Rows.fnExactAllStampsRow.ifaces == (Tryz.f3.params.toList ++ Rows.fnExactAllStampsSpec.plain.varTypes Tryz.prog).any (Tryz.prog.ifacesRec ·)) = true := by kernel_rfl
theorem named : Tryz.prog.funcNamed Rows.fnExactAllStampsRow.func = some 3 := by kernel_rfl
theorem closed : joinedFacts Tryz.prog 3 Tryz.f3 Rows.fnExactAllStampsSpec Rows.fnExactAllStampsRow = true := by
  unfold joinedFacts
  rw [laidF, rowedF, x3, x4, x5, x6, x7, x8, x9, x10, x11, x12]
  kernel_rfl
theorem walk {w : World} {vals : List Value} {rows : List (List Vm.D)} (hv : All2 (Reads w) vals rows) (ht : TyAll Tryz.prog 12 [31] rows) :
    Calls Tryz.prog 3 vals.toArray w fun e w' => e = .returned (.bool true) ∧ Below w.heap.size w w' := by
  obtain ⟨r0, rs0, rfl, h0, ht0⟩ := tyAll_cons ht
  obtain rfl := tyAll_nil ht0
  obtain ⟨a0, rfl, t0⟩ := dec31 (n := 1) h0
  have hb : l_FnExactAllStamps a0 = true := by
    unfold l_FnExactAllStamps
    by_cases z0 : (l_szWorld a0 1048576) < 0
    · simp [z0]
    obtain ⟨s0, y0⟩ := l_szWorld_sm a0 1048576 t0 (by omega) (by omega) z0
    obtain ⟨c0, d0⟩ := l_szWorld_cz a0 1048576 t0 (by omega) (by omega) z0
    obtain ⟨m0, n0⟩ := l_markWorld_mk a0 1 (by omega) (by omega)
    have o0 : ¬ (l_markWorld a0 1).2 < 0 := by omega
    have p0 : 0 ≤ (l_markWorld a0 1).2 := by omega
    have b1 := i_AllStamps_cn a0 (by omega)
    obtain ⟨m2, n2, h2⟩ := l_markStampS_mh (i_AllStamps a0) 1 (by omega) (by omega)
    have o2 : ¬ (l_markStampS (i_AllStamps a0) 1).2 < 0 := by omega
    have p2 : 0 ≤ (l_markStampS (i_AllStamps a0) 1).2 := by omega
    simp (maxDischargeDepth := 12) [z0, l_eqArchive_self, l_eqArchiveS_self, l_eqAuthority_self, l_eqAuthorityS_self, l_eqCert_self, l_eqCertS_self, l_eqDocument_self, l_eqFrame_self, l_eqIntS_self, l_eqItem_self, l_eqItemS_self, l_eqKey_self, l_eqKeyS_self, l_eqMethod_self, l_eqMethodS_self, l_eqPiece_self, l_eqPieceS_self, l_eqRenewal_self, l_eqRenewalS_self, l_eqSignature_self, l_eqStamp_self, l_eqStampS_self, l_eqStep_self, l_eqStepS_self, l_eqStrand_self, l_eqStringS_self, l_eqWorld_self, t0, o0, p0, h2, o2, p2]
  have hs := l_FnExactAllStamps_ok a0 t0
  rw [hb] at hs
  exact true_of_sound hs hv
theorem lifted (os : Os) (started : os.Started) (H : Type) (enc : TypeId × Value → H) :
    ReturnsInHanded {} Tryz.checked os 3 .any (Rows.fnExactAllStampsSpec.pre6 enc Tryz.prog Tryz.f3 Rows.fnExactAllStampsRow.domain false) (Rows.fnExactAllStampsSpec.post enc Tryz.prog Tryz.f3 false true false false) := by
  refine returnsInHanded_of_change (C := Tryz.checked) own started (by kernel_rfl) Tryz.func3
    (ChangeSpec.witness6 (enc := enc) (C := Tryz.checked) false ⟨#[], #[.agg #[.slice none 0 0, .slice none 0 0, .slice none 0 0, .int .i64 0, .int .i64 0, .slice none 0 0, .slice none 0 0, .slice none 0 0, .slice none 0 0, .slice none 0 0, .int .i64 0, .slice none 0 0]], []⟩ 8 (by kernel_rfl) (by kernel_rfl) (by kernel_rfl) (by kernel_rfl)) ?_
  intro W base args ds gs before hval0 hW hcnd _
  have hval : ∀ (j : Nat) t v, Tryz.f3.params[j]? = some t → args[j]? = some v → Value.okWide Tryz.prog W .any base t v := hval0
  have hW' := hW
  obtain ⟨p, q, hA0, hV, rfl, hfz, hnd⟩ := hW
  have hA : DataW.TrodAll enc Tryz.prog W 0 (fun _ => true) true Tryz.f3.params.toList args.toList ds p := hA0
  obtain ⟨rows, hr, hty⟩ := reads_all (n := 12) plain (fun j t v h1 h2 => hval j t v (by simpa using h1) (by simpa using h2)) hA
  have hA2 := hA
  rw [Tryz.params3] at hA2 hty
  obtain ⟨v0, vs0, d0, ds0, p0, q0, hargs, rfl, rfl, h0, r0⟩ := trodAll_cons hA2
  obtain ⟨rfl, rfl, rfl⟩ := trodAll_nil r0
  obtain rfl : args = #[v0] := by cases args; simp_all
  obtain ⟨rfl, rfl⟩ := trodVars_none hV
  simp only [List.append_nil] at hW'
  refine (walk hr hty).mono fun e W' ⟨he, hg⟩ => ?_
  subst he
  exact ⟨_, rfl, _, _, _, [], _, [], hW', trodAll_mk1 (shut_bool Tryz.underlying4 _), below_trodAll laidF hg plain hA, rfl, hg.frame _, fun h => by cases h⟩
theorem over : Rows.fnExactAllStampsRow.holds Tryz.pinned (OpenSpec.ofChange Rows.fnExactAllStampsSpec) :=
  OpenClaim.holds_of_wide 3 Tryz.f3 rfl rfl rfl rfl rfl rfl rfl ⟨rfl, rfl, rfl, rfl, rfl⟩ rfl rfl rfl rfl rfl named Tryz.func3 closed
    (of_decide_eq_true (by kernel_rfl)) (by unfold Func.isWrapper; first | (rw [if_pos (by decide +kernel)]; kernel_rfl) | (rw [if_neg (by decide +kernel)]; exact ⟨rfl, rfl⟩))
    (fun os started H enc _ => lifted os started H enc)
theorem proved : Rows.FnExactAllStampsSaid := over
end Go.Proofs.YtdbglcndfmdlfaaGreat.fnExactAllStamps
