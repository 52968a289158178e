/- The given statement Rows.FnExactStepForgetSaid: the law answers true for every input. No condition. -/
import Derived.Test.YtjflhdkeibijaaaGreatRows
import Derived.Test.YtjflhdkeibijaaaGreatDd
import Derived.Test.YtjflhdkeibijaaaGreatE
import Derived.Test.YtjflhdkeibijaaaGreatC
import Derived.Test.YtjflhdkeibijaaaGreatFx
import Derived.WalkKit
import Derived.Below
import Derived.ProofKit
import Derived.OpenShut
namespace Go.Proofs.YtjflhdkeibijaaaGreat.fnExactStepForget
open Go.ChangeShapes Go.WideShapes Go.ChangeAt Go.RowKit Go.Vm Go.Mo
set_option linter.unusedVariables false
set_option linter.unusedSimpArgs false
set_option maxRecDepth 100000
theorem own : ownKnob Tryz.prog.godebug = none := by kernel_rfl
theorem plain : xk Tryz.prog 12 Tryz.f3.params.toList = true := by kernel_rfl
theorem x3 : Tryz.f3.params.all (Tryz.prog.readableRec ·) = true := by kernel_rfl
theorem x4 : (Rows.fnExactStepForgetRow.inPlace == Tryz.prog.inPlace 3) = true := by kernel_rfl
theorem x5 : (Rows.fnExactStepForgetRow.unfollowed == Tryz.prog.unfollowed 3) = true := by kernel_rfl
theorem x6 : (Rows.fnExactStepForgetRow.recurses == Tryz.prog.recurses 3) = true := by kernel_rfl
theorem x7 : (Rows.fnExactStepForgetRow.named == Tryz.prog.varsNamed 3) = true := by kernel_rfl
theorem x8 : (Rows.fnExactStepForgetRow.loops == (Tryz.f3.params.toList ++ Rows.fnExactStepForgetSpec.plain.varTypes Tryz.prog).any (Tryz.prog.loopsFrom ·)) = true := by kernel_rfl
theorem x9 : (Rows.fnExactStepForgetRow.wideKeys == (Tryz.f3.params.toList ++ Rows.fnExactStepForgetSpec.plain.varTypes Tryz.prog ++ Tryz.f3.resultTypes.toList).any (Tryz.prog.wideKeysFrom ·)) = true := by kernel_rfl
theorem x10 : (Rows.fnExactStepForgetRow.veiled == (Tryz.f3.params.toList ++ Rows.fnExactStepForgetSpec.plain.varTypes Tryz.prog ++ Tryz.f3.resultTypes.toList).any (Tryz.prog.veiledRec ·)) = true := by kernel_rfl
theorem x11 : (Rows.fnExactStepForgetRow.maps == (Tryz.f3.params.toList ++ Rows.fnExactStepForgetSpec.plain.varTypes Tryz.prog).any (Tryz.prog.mapsRec ·)) = true := by kernel_rfl
theorem x12 : (Rows.fnExactStepForgetRow.ifaces == (Tryz.f3.params.toList ++ Rows.fnExactStepForgetSpec.plain.varTypes Tryz.prog).any (Tryz.prog.ifacesRec ·)) = true := by kernel_rfl
theorem named : Tryz.prog.funcNamed Rows.fnExactStepForgetRow.func = some 3 := by kernel_rfl
theorem closed : joinedFacts Tryz.prog 3 Tryz.f3 Rows.fnExactStepForgetSpec Rows.fnExactStepForgetRow = true := by
  unfold joinedFacts
  rw [Fo, DD, x3, x4, x5, x6, x7, x8, x9, x10, x11, x12]
  kernel_rfl
theorem walk {w : World} {vals : List Value} {rows : List (List Vm.D)} (hv : Zt (Reads w) vals rows) (ht : Oq Tryz.prog 12 [31, 3] rows) :
    Calls Tryz.prog 3 vals.toArray w fun e w' => e = .returned (.bool true) ∧ Below w.heap.size w w' := by
  obtain ⟨r0, rs0, rfl, h0, ht0⟩ := y6 ht
  obtain ⟨r1, rs1, rfl, h1, ht1⟩ := y6 ht0
  obtain rfl := Mp ht1
  obtain ⟨a0, rfl, t0⟩ := Ca (n := 1) h0
  obtain ⟨a1, rfl, t1⟩ := Qb (n := 11) h1
  have hb : Ji a0 a1 = true := by
    unfold Ji
    by_cases z0 : (KM a0 1048576) < 0
    · simp [z0]
    obtain ⟨s0, y0⟩ := qe a0 1048576 t0 (by omega) (by omega) z0
    obtain ⟨c0, d0⟩ := TC a0 1048576 t0 (by omega) (by omega) z0
    obtain ⟨m0, n0, h0⟩ := yr a0 1 (by omega) (by omega)
    have o0 : ¬ (Ze a0 1).2 < 0 := by omega
    have p0 : 0 ≤ (Ze a0 1).2 := by omega
    have b1 := Rh a0 a1 (by omega)
    obtain ⟨m2, n2, h2⟩ := yr (Zo a0 a1).1 1 (by omega) (by omega)
    have o2 : ¬ (Ze (Zo a0 a1).1 1).2 < 0 := by omega
    have p2 : 0 ≤ (Ze (Zo a0 a1).1 1).2 := by omega
    simp (maxDischargeDepth := 12) [z0, y9, yX, zh, zA, j6, qj, yq, qp, zG, jz, qz, Wd, jt, xy, xA, jC, qF, y8, yS, zf, qw, qK, kH, jN, qL, xC, W1, t0, h0, o0, p0, h2, o2, p2]
  have hs := km a0 a1 t0
  rw [hb] at hs
  exact US hs hv
theorem lifted (os : Os) (started : os.Started) (H : Type) (enc : TypeId × Value → H) :
    ReturnsInHanded {} Tryz.checked os 3 .any (Rows.fnExactStepForgetSpec.pre6 enc Tryz.prog Tryz.f3 Rows.fnExactStepForgetRow.domain false) (Rows.fnExactStepForgetSpec.post enc Tryz.prog Tryz.f3 false true false false) := by
  refine returnsInHanded_of_change (C := Tryz.checked) own started (by kernel_rfl) Tryz.func3
    (ChangeSpec.witness6 (enc := enc) (C := Tryz.checked) false ⟨#[], #[.agg #[.slice none 0 0, .slice none 0 0, .slice none 0 0, .int .i64 0, .int .i64 0, .slice none 0 0, .slice none 0 0, .slice none 0 0, .slice none 0 0, .slice none 0 0, .int .i64 0, .slice none 0 0], .int .i64 0], []⟩ 8 (by kernel_rfl) (by kernel_rfl) (by kernel_rfl) (by kernel_rfl)) ?_
  intro W base args ds gs before hval0 hW hcnd _
  have hval : ∀ (j : Nat) t v, Tryz.f3.params[j]? = some t → args[j]? = some v → Value.okWide Tryz.prog W .any base t v := hval0
  have hW' := hW
  obtain ⟨p, q, hA0, hV, rfl, hfz, hnd⟩ := hW
  have hA : DataW.TrodAll enc Tryz.prog W 0 (fun _ => true) true Tryz.f3.params.toList args.toList ds p := hA0
  obtain ⟨rows, hr, hty⟩ := SO (n := 12) plain (fun j t v h1 h2 => hval j t v (by simpa using h1) (by simpa using h2)) hA
  have hA2 := hA
  rw [Tryz.params3] at hA2 hty
  obtain ⟨v0, vs0, d0, ds0, p0, q0, hargs, rfl, rfl, h0, r0⟩ := trodAll_cons hA2
  obtain ⟨v1, vs1, d1, ds1, p1, q1, rfl, rfl, rfl, h1, r1⟩ := trodAll_cons r0
  obtain ⟨rfl, rfl, rfl⟩ := trodAll_nil r1
  obtain rfl : args = #[v0, v1] := by cases args; simp_all
  obtain ⟨rfl, rfl⟩ := trodVars_none hV
  simp only [List.append_nil] at hW'
  refine (walk hr hty).mono fun e W' ⟨he, hg⟩ => ?_
  subst he
  exact ⟨_, rfl, _, _, _, [], _, [], hW', trodAll_mk1 (shut_bool Tryz.underlying4 _), kC Fo hg plain hA, rfl, hg.frame _, fun h => by cases h⟩
theorem SD : Rows.fnExactStepForgetRow.holds Tryz.pinned (OpenSpec.ofChange Rows.fnExactStepForgetSpec) :=
  OpenClaim.holds_of_wide 3 Tryz.f3 rfl rfl rfl rfl rfl rfl rfl ⟨rfl, rfl, rfl, rfl, rfl⟩ rfl rfl rfl rfl rfl named Tryz.func3 closed
    (of_decide_eq_true (by kernel_rfl)) (by unfold Func.isWrapper; first | (rw [if_pos (by decide +kernel)]; kernel_rfl) | (rw [if_neg (by decide +kernel)]; exact ⟨rfl, rfl⟩))
    (fun os started H enc _ => lifted os started H enc)
theorem proved : Rows.FnExactStepForgetSaid := SD
end Go.Proofs.YtjflhdkeibijaaaGreat.fnExactStepForget
