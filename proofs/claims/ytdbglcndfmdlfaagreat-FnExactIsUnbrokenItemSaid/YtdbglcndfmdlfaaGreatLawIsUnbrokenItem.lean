/- The given statement Rows.FnExactIsUnbrokenItemSaid: the law answers true for every input. No condition. -/
import Derived.Test.YtdbglcndfmdlfaaGreatRows
import Derived.Test.YtdbglcndfmdlfaaGreatDd
import Derived.Test.YtdbglcndfmdlfaaGreatE
import Derived.Test.YtdbglcndfmdlfaaGreatC
import Derived.Test.YtdbglcndfmdlfaaGreatFx
import Derived.WalkKit
import Derived.Below
import Derived.ProofKit
import Derived.OpenShut
namespace Go.Proofs.YtdbglcndfmdlfaaGreat.fnExactIsUnbrokenItem
open Go.ChangeShapes Go.WideShapes Go.ChangeAt Go.RowKit Go.Vm Go.Mo
set_option linter.unusedVariables false
set_option linter.unusedSimpArgs false
set_option maxRecDepth 100000
theorem own : ownKnob Tryz.prog.godebug = none := by kernel_rfl
theorem plain : plainAll Tryz.prog 12 Tryz.f4.params.toList = true := by kernel_rfl
theorem x3 : Tryz.f4.params.all (Tryz.prog.readableRec ·) = true := by kernel_rfl
theorem x4 : (Rows.fnExactIsUnbrokenItemRow.inPlace == Tryz.prog.inPlace 4) = true := by kernel_rfl
theorem x5 : (Rows.fnExactIsUnbrokenItemRow.unfollowed == Tryz.prog.unfollowed 4) = true := by kernel_rfl
theorem x6 : (Rows.fnExactIsUnbrokenItemRow.recurses == Tryz.prog.recurses 4) = true := by kernel_rfl
theorem x7 : (Rows.fnExactIsUnbrokenItemRow.named == Tryz.prog.varsNamed 4) = true := by kernel_rfl
theorem x8 : (Rows.fnExactIsUnbrokenItemRow.loops == (Tryz.f4.params.toList ++ Rows.fnExactIsUnbrokenItemSpec.plain.varTypes Tryz.prog).any (Tryz.prog.loopsFrom ·)) = true := by kernel_rfl
theorem x9 : (Rows.fnExactIsUnbrokenItemRow.wideKeys == (Tryz.f4.params.toList ++ Rows.fnExactIsUnbrokenItemSpec.plain.varTypes Tryz.prog ++ Tryz.f4.resultTypes.toList).any (Tryz.prog.wideKeysFrom ·)) = true := by kernel_rfl
theorem x10 : (Rows.fnExactIsUnbrokenItemRow.veiled == (Tryz.f4.params.toList ++ Rows.fnExactIsUnbrokenItemSpec.plain.varTypes Tryz.prog ++ Tryz.f4.resultTypes.toList).any (Tryz.prog.veiledRec ·)) = true := by kernel_rfl
theorem x11 : (Rows.fnExactIsUnbrokenItemRow.maps == (Tryz.f4.params.toList ++ Rows.fnExactIsUnbrokenItemSpec.plain.varTypes Tryz.prog).any (Tryz.prog.mapsRec ·)) = true := by kernel_rfl
theorem x12 : (Rows.fnExactIsUnbrokenItemRow.ifaces == (Tryz.f4.params.toList ++ Rows.fnExactIsUnbrokenItemSpec.plain.varTypes Tryz.prog).any (Tryz.prog.ifacesRec ·)) = true := by kernel_rfl
theorem named : Tryz.prog.funcNamed Rows.fnExactIsUnbrokenItemRow.func = some 4 := by kernel_rfl
theorem closed : joinedFacts Tryz.prog 4 Tryz.f4 Rows.fnExactIsUnbrokenItemSpec Rows.fnExactIsUnbrokenItemRow = true := by
  unfold joinedFacts
  rw [laidF, rowedF, x3, x4, x5, x6, x7, x8, x9, x10, x11, x12]
  kernel_rfl
theorem walk {w : World} {vals : List Value} {rows : List (List Vm.D)} (hv : All2 (Reads w) vals rows) (ht : TyAll Tryz.prog 12 [31, 3] rows) :
    Calls Tryz.prog 4 vals.toArray w fun e w' => e = .returned (.bool true) ∧ Below w.heap.size w w' := by
  obtain ⟨r0, rs0, rfl, h0, ht0⟩ := tyAll_cons ht
  obtain ⟨r1, rs1, rfl, h1, ht1⟩ := tyAll_cons ht0
  obtain rfl := tyAll_nil ht1
  obtain ⟨a0, rfl, t0⟩ := dec31 (n := 1) h0
  obtain ⟨a1, rfl, t1⟩ := dec3 (n := 11) h1
  have hb : l_FnExactIsUnbrokenItem a0 a1 = true := by simp (maxDischargeDepth := 12) [l_FnExactIsUnbrokenItem, l_toArchive_id, l_toArchiveS_id, l_toAuthority_id, l_toAuthorityS_id, l_toCert_id, l_toCertS_id, l_toDocument_id, l_toFrame_id, l_toIntS_id, l_toItem_id, l_toItemS_id, l_toKey_id, l_toKeyS_id, l_toMethod_id, l_toMethodS_id, l_toPiece_id, l_toPieceS_id, l_toRenewal_id, l_toRenewalS_id, l_toSignature_id, l_toStamp_id, l_toStampS_id, l_toStep_id, l_toStepS_id, l_toStrand_id, l_toStringS_id, l_toWorld_id, l_eqArchive_self, l_eqArchiveS_self, l_eqAuthority_self, l_eqAuthorityS_self, l_eqCert_self, l_eqCertS_self, l_eqDocument_self, l_eqFrame_self, l_eqIntS_self, l_eqItem_self, l_eqItemS_self, l_eqKey_self, l_eqKeyS_self, l_eqMethod_self, l_eqMethodS_self, l_eqPiece_self, l_eqPieceS_self, l_eqRenewal_self, l_eqRenewalS_self, l_eqSignature_self, l_eqStamp_self, l_eqStampS_self, l_eqStep_self, l_eqStepS_self, l_eqStrand_self, l_eqStringS_self, l_eqWorld_self, t0]
  have hs := l_FnExactIsUnbrokenItem_ok a0 a1 t0
  rw [hb] at hs
  exact true_of_sound hs hv
theorem lifted (os : Os) (started : os.Started) (H : Type) (enc : TypeId × Value → H) :
    ReturnsInHanded {} Tryz.checked os 4 .any (Rows.fnExactIsUnbrokenItemSpec.pre6 enc Tryz.prog Tryz.f4 Rows.fnExactIsUnbrokenItemRow.domain false) (Rows.fnExactIsUnbrokenItemSpec.post enc Tryz.prog Tryz.f4 false true false false) := by
  refine returnsInHanded_of_change (C := Tryz.checked) own started (by kernel_rfl) Tryz.func4
    (ChangeSpec.witness6 (enc := enc) (C := Tryz.checked) false ⟨#[], #[.agg #[.slice none 0 0, .slice none 0 0, .slice none 0 0, .int .i64 0, .int .i64 0, .slice none 0 0, .slice none 0 0, .slice none 0 0, .slice none 0 0, .slice none 0 0, .int .i64 0, .slice none 0 0], .int .i64 0], []⟩ 8 (by kernel_rfl) (by kernel_rfl) (by kernel_rfl) (by kernel_rfl)) ?_
  intro W base args ds gs before hval0 hW hcnd _
  have hval : ∀ (j : Nat) t v, Tryz.f4.params[j]? = some t → args[j]? = some v → Value.okWide Tryz.prog W .any base t v := hval0
  have hW' := hW
  obtain ⟨p, q, hA0, hV, rfl, hfz, hnd⟩ := hW
  have hA : DataW.TrodAll enc Tryz.prog W 0 (fun _ => true) true Tryz.f4.params.toList args.toList ds p := hA0
  obtain ⟨rows, hr, hty⟩ := reads_all (n := 12) plain (fun j t v h1 h2 => hval j t v (by simpa using h1) (by simpa using h2)) hA
  have hA2 := hA
  rw [Tryz.params4] at hA2 hty
  obtain ⟨v0, vs0, d0, ds0, p0, q0, hargs, rfl, rfl, h0, r0⟩ := trodAll_cons hA2
  obtain ⟨v1, vs1, d1, ds1, p1, q1, rfl, rfl, rfl, h1, r1⟩ := trodAll_cons r0
  obtain ⟨rfl, rfl, rfl⟩ := trodAll_nil r1
  obtain rfl : args = #[v0, v1] := by cases args; simp_all
  obtain ⟨rfl, rfl⟩ := trodVars_none hV
  simp only [List.append_nil] at hW'
  refine (walk hr hty).mono fun e W' ⟨he, hg⟩ => ?_
  subst he
  exact ⟨_, rfl, _, _, _, [], _, [], hW', trodAll_mk1 (shut_bool Tryz.underlying4 _), below_trodAll laidF hg plain hA, rfl, hg.frame _, fun h => by cases h⟩
theorem over : Rows.fnExactIsUnbrokenItemRow.holds Tryz.pinned (OpenSpec.ofChange Rows.fnExactIsUnbrokenItemSpec) :=
  OpenClaim.holds_of_wide 4 Tryz.f4 rfl rfl rfl rfl rfl rfl rfl ⟨rfl, rfl, rfl, rfl, rfl⟩ rfl rfl rfl rfl rfl named Tryz.func4 closed
    (of_decide_eq_true (by kernel_rfl)) (by unfold Func.isWrapper; first | (rw [if_pos (by decide +kernel)]; kernel_rfl) | (rw [if_neg (by decide +kernel)]; exact ⟨rfl, rfl⟩))
    (fun os started H enc _ => lifted os started H enc)
theorem proved : Rows.FnExactIsUnbrokenItemSaid := over
end Go.Proofs.YtdbglcndfmdlfaaGreat.fnExactIsUnbrokenItem
