/- The given statement Rows.FnExactStepRenewSaid: the law answers true for every input. No condition. -/
import Derived.Test.YtjflhdkeibijaaaGreatRows
import Derived.Test.YtjflhdkeibijaaaGreatDd
import Derived.Test.YtjflhdkeibijaaaGreatE
import Derived.Test.YtjflhdkeibijaaaGreatC
import Derived.Test.YtjflhdkeibijaaaGreatFx
import Derived.WalkKit
import Derived.Below
import Derived.ProofKit
import Derived.OpenShut
namespace Go.Proofs.YtjflhdkeibijaaaGreat.fnExactStepRenew
open Go.ChangeShapes Go.WideShapes Go.ChangeAt Go.RowKit Go.Vm Go.Mo
set_option linter.unusedVariables false
set_option linter.unusedSimpArgs false
set_option maxRecDepth 100000
theorem own : ownKnob Tryz.prog.godebug = none := by kernel_rfl
theorem plain : xk Tryz.prog 12 Tryz.f6.params.toList = true := by kernel_rfl
theorem x3 : Tryz.f6.params.all (Tryz.prog.readableRec ·) = true := by kernel_rfl
theorem x4 : (Rows.fnExactStepRenewRow.inPlace == Tryz.prog.inPlace 6) = true := by kernel_rfl
theorem x5 : (Rows.fnExactStepRenewRow.unfollowed == Tryz.prog.unfollowed 6) = true := by kernel_rfl
theorem x6 : (Rows.fnExactStepRenewRow.recurses == Tryz.prog.recurses 6) = true := by kernel_rfl
theorem x7 : (Rows.fnExactStepRenewRow.named == Tryz.prog.varsNamed 6) = true := by kernel_rfl
theorem x8 : (Rows.fnExactStepRenewRow.loops == (Tryz.f6.params.toList ++ Rows.fnExactStepRenewSpec.plain.varTypes Tryz.prog).any (Tryz.prog.loopsFrom ·)) = true := by kernel_rfl
theorem x9 : (Rows.fnExactStepRenewRow.wideKeys == (Tryz.f6.params.toList ++ Rows.fnExactStepRenewSpec.plain.varTypes Tryz.prog ++ Tryz.f6.resultTypes.toList).any (Tryz.prog.wideKeysFrom ·)) = true := by kernel_rfl
theorem x10 : (Rows.fnExactStepRenewRow.veiled == (Tryz.f6.params.toList ++ Rows.fnExactStepRenewSpec.plain.varTypes Tryz.prog ++ Tryz.f6.resultTypes.toList).any (Tryz.prog.veiledRec ·)) = true := by kernel_rfl
theorem x11 : (Rows.fnExactStepRenewRow.maps == (Tryz.f6.params.toList ++ Rows.fnExactStepRenewSpec.plain.varTypes Tryz.prog).any (Tryz.prog.mapsRec ·)) = true := by kernel_rfl
theorem x12 : (Rows.fnExactStepRenewRow.ifaces == (Tryz.f6.params.toList ++ Rows.fnExactStepRenewSpec.plain.varTypes Tryz.prog).any (Tryz.prog.ifacesRec ·)) = true := by kernel_rfl
theorem named : Tryz.prog.funcNamed Rows.fnExactStepRenewRow.func = some 6 := by kernel_rfl
theorem closed : joinedFacts Tryz.prog 6 Tryz.f6 Rows.fnExactStepRenewSpec Rows.fnExactStepRenewRow = true := by
  unfold joinedFacts
  rw [Fo, DD, x3, x4, x5, x6, x7, x8, x9, x10, x11, x12]
  kernel_rfl
theorem walk {w : World} {vals : List Value} {rows : List (List Vm.D)} (hv : Zt (Reads w) vals rows) (ht : Oq Tryz.prog 12 [31, 3, 28, 3] rows) :
    Calls Tryz.prog 6 vals.toArray w fun e w' => e = .returned (.bool true) ∧ Below w.heap.size w w' := by
  obtain ⟨r0, rs0, rfl, h0, ht0⟩ := y6 ht
  obtain ⟨r1, rs1, rfl, h1, ht1⟩ := y6 ht0
  obtain ⟨r2, rs2, rfl, h2, ht2⟩ := y6 ht1
  obtain ⟨r3, rs3, rfl, h3, ht3⟩ := y6 ht2
  obtain rfl := Mp ht3
  obtain ⟨a0, rfl, t0⟩ := Ca (n := 1) h0
  obtain ⟨a1, rfl, t1⟩ := Qb (n := 11) h1
  obtain ⟨a2, rfl, t2⟩ := Ou (n := 10) h2
  obtain ⟨a3, rfl, t3⟩ := Qb (n := 11) h3
  have hb : J8 a0 a1 a2 a3 = true := by
    unfold J8
    by_cases z0 : (↑a2.length : Int) > 1048576
    · simp [z0]
    have c0 : cn a2 ≤ 1048576 := by have := Gj (c := cn) (m := 1) (fun _ => Nat.le_of_ble_eq_true rfl) a2; rw [Xf]; omega
    by_cases z1 : (KM a0 1048576) < 0
    · simp [z0, z1]
    obtain ⟨s1, y1⟩ := qe a0 1048576 t0 (by omega) (by omega) z1
    obtain ⟨c1, d1⟩ := TC a0 1048576 t0 (by omega) (by omega) z1
    obtain ⟨m0, n0, h0⟩ := yr a0 1 (by omega) (by omega)
    have o0 : ¬ (Ze a0 1).2 < 0 := by omega
    have p0 : 0 ≤ (Ze a0 1).2 := by omega
    obtain ⟨m1, n1, h1⟩ := Je a2 (Ze a0 1).2 (by omega) (by omega)
    have o1 : ¬ (ZB a2 (Ze a0 1).2).2 < 0 := by omega
    have p1 : 0 ≤ (ZB a2 (Ze a0 1).2).2 := by omega
    have b2 := On a0 a1 a2 a3 (by omega) (by omega)
    obtain ⟨m3, n3, h3⟩ := yr (Zu a0 a1 a2 a3).1 1 (by omega) (by omega)
    have o3 : ¬ (Ze (Zu a0 a1 a2 a3).1 1).2 < 0 := by omega
    have p3 : 0 ≤ (Ze (Zu a0 a1 a2 a3).1 1).2 := by omega
    simp (maxDischargeDepth := 12) [z0, z1, y9, yX, zh, zA, j6, qj, yq, qp, zG, jz, qz, Wd, jt, xy, xA, jC, qF, y8, yS, zf, qw, qK, kH, jN, qL, xC, W1, t0, t2, h0, o0, p0, h1, o1, p1, h3, o3, p3]
  have hs := Wr a0 a1 a2 a3 t0 t2
  rw [hb] at hs
  exact US hs hv
theorem lifted (os : Os) (started : os.Started) (H : Type) (enc : TypeId × Value → H) :
    ReturnsInHanded {} Tryz.checked os 6 .any (Rows.fnExactStepRenewSpec.pre6 enc Tryz.prog Tryz.f6 Rows.fnExactStepRenewRow.domain false) (Rows.fnExactStepRenewSpec.post enc Tryz.prog Tryz.f6 false true false false) := by
  refine returnsInHanded_of_change (C := Tryz.checked) own started (by kernel_rfl) Tryz.func6
    (ChangeSpec.witness6 (enc := enc) (C := Tryz.checked) false ⟨#[], #[.agg #[.slice none 0 0, .slice none 0 0, .slice none 0 0, .int .i64 0, .int .i64 0, .slice none 0 0, .slice none 0 0, .slice none 0 0, .slice none 0 0, .slice none 0 0, .int .i64 0, .slice none 0 0], .int .i64 0, .slice none 0 0, .int .i64 0], []⟩ 8 (by kernel_rfl) (by kernel_rfl) (by kernel_rfl) (by kernel_rfl)) ?_
  intro W base args ds gs before hval0 hW hcnd _
  have hval : ∀ (j : Nat) t v, Tryz.f6.params[j]? = some t → args[j]? = some v → Value.okWide Tryz.prog W .any base t v := hval0
  have hW' := hW
  obtain ⟨p, q, hA0, hV, rfl, hfz, hnd⟩ := hW
  have hA : DataW.TrodAll enc Tryz.prog W 0 (fun _ => true) true Tryz.f6.params.toList args.toList ds p := hA0
  obtain ⟨rows, hr, hty⟩ := SO (n := 12) plain (fun j t v h1 h2 => hval j t v (by simpa using h1) (by simpa using h2)) hA
  have hA2 := hA
  rw [Tryz.params6] at hA2 hty
  obtain ⟨v0, vs0, d0, ds0, p0, q0, hargs, rfl, rfl, h0, r0⟩ := trodAll_cons hA2
  obtain ⟨v1, vs1, d1, ds1, p1, q1, rfl, rfl, rfl, h1, r1⟩ := trodAll_cons r0
  obtain ⟨v2, vs2, d2, ds2, p2, q2, rfl, rfl, rfl, h2, r2⟩ := trodAll_cons r1
  obtain ⟨v3, vs3, d3, ds3, p3, q3, rfl, rfl, rfl, h3, r3⟩ := trodAll_cons r2
  obtain ⟨rfl, rfl, rfl⟩ := trodAll_nil r3
  obtain rfl : args = #[v0, v1, v2, v3] := by cases args; simp_all
  obtain ⟨rfl, rfl⟩ := trodVars_none hV
  simp only [List.append_nil] at hW'
  refine (walk hr hty).mono fun e W' ⟨he, hg⟩ => ?_
  subst he
  exact ⟨_, rfl, _, _, _, [], _, [], hW', trodAll_mk1 (shut_bool Tryz.underlying4 _), kC Fo hg plain hA, rfl, hg.frame _, fun h => by cases h⟩
theorem SD : Rows.fnExactStepRenewRow.holds Tryz.pinned (OpenSpec.ofChange Rows.fnExactStepRenewSpec) :=
  OpenClaim.holds_of_wide 6 Tryz.f6 rfl rfl rfl rfl rfl rfl rfl ⟨rfl, rfl, rfl, rfl, rfl⟩ rfl rfl rfl rfl rfl named Tryz.func6 closed
    (of_decide_eq_true (by kernel_rfl)) (by unfold Func.isWrapper; first | (rw [if_pos (by decide +kernel)]; kernel_rfl) | (rw [if_neg (by decide +kernel)]; exact ⟨rfl, rfl⟩))
    (fun os started H enc _ => lifted os started H enc)
theorem proved : Rows.FnExactStepRenewSaid := SD
end Go.Proofs.YtjflhdkeibijaaaGreat.fnExactStepRenew
