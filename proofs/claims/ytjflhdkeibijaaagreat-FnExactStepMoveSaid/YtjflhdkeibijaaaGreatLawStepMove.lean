/- The given statement Rows.FnExactStepMoveSaid: the law answers true for every input. No condition. -/
import Derived.Test.YtjflhdkeibijaaaGreatRows
import Derived.Test.YtjflhdkeibijaaaGreatDd
import Derived.Test.YtjflhdkeibijaaaGreatE
import Derived.Test.YtjflhdkeibijaaaGreatC
import Derived.Test.YtjflhdkeibijaaaGreatFx
import Derived.WalkKit
import Derived.Below
import Derived.ProofKit
import Derived.OpenShut
namespace Go.Proofs.YtjflhdkeibijaaaGreat.fnExactStepMove
open Go.ChangeShapes Go.WideShapes Go.ChangeAt Go.RowKit Go.Vm Go.Mo
set_option linter.unusedVariables false
set_option linter.unusedSimpArgs false
set_option maxRecDepth 100000
theorem own : ownKnob Tryz.prog.godebug = none := by kernel_rfl
theorem plain : qX Tryz.prog 12 Tryz.f5.params.toList = true := by kernel_rfl
theorem x3 : Tryz.f5.params.all (Tryz.prog.readableRec ·) = true := by kernel_rfl
theorem x4 : (Rows.fnExactStepMoveRow.inPlace == Tryz.prog.inPlace 5) = true := by kernel_rfl
theorem x5 : (Rows.fnExactStepMoveRow.unfollowed == Tryz.prog.unfollowed 5) = true := by kernel_rfl
theorem x6 : (Rows.fnExactStepMoveRow.recurses == Tryz.prog.recurses 5) = true := by kernel_rfl
theorem x7 : (Rows.fnExactStepMoveRow.named == Tryz.prog.varsNamed 5) = true := by kernel_rfl
theorem x8 : (Rows.fnExactStepMoveRow.loops == (Tryz.f5.params.toList ++ Rows.fnExactStepMoveSpec.plain.varTypes Tryz.prog).any (Tryz.prog.loopsFrom ·)) = true := by kernel_rfl
theorem x9 : (Rows.fnExactStepMoveRow.wideKeys == (Tryz.f5.params.toList ++ Rows.fnExactStepMoveSpec.plain.varTypes Tryz.prog ++ Tryz.f5.resultTypes.toList).any (Tryz.prog.wideKeysFrom ·)) = true := by kernel_rfl
theorem x10 : (Rows.fnExactStepMoveRow.veiled == (Tryz.f5.params.toList ++ Rows.fnExactStepMoveSpec.plain.varTypes Tryz.prog ++ Tryz.f5.resultTypes.toList).any (Tryz.prog.veiledRec ·)) = true := by kernel_rfl
theorem x11 : (Rows.fnExactStepMoveRow.maps == (Tryz.f5.params.toList ++ Rows.fnExactStepMoveSpec.plain.varTypes Tryz.prog).any (Tryz.prog.mapsRec ·)) = true := by kernel_rfl
theorem x12 : (Rows.fnExactStepMoveRow.ifaces == (Tryz.f5.params.toList ++ Rows.fnExactStepMoveSpec.plain.varTypes Tryz.prog).any (Tryz.prog.ifacesRec ·)) = true := by kernel_rfl
theorem named : Tryz.prog.funcNamed Rows.fnExactStepMoveRow.func = some 5 := by kernel_rfl
theorem closed : joinedFacts Tryz.prog 5 Tryz.f5 Rows.fnExactStepMoveSpec Rows.fnExactStepMoveRow = true := by
  unfold joinedFacts
  rw [CP, Cs, x3, x4, x5, x6, x7, x8, x9, x10, x11, x12]
  kernel_rfl
theorem walk {w : World} {vals : List Value} {rows : List (List Vm.D)} (hv : Zp (Reads w) vals rows) (ht : M1 Tryz.prog 12 [31, 3, 3, 3] rows) :
    Calls Tryz.prog 5 vals.toArray w fun e w' => e = .returned (.bool true) ∧ Below w.heap.size w w' := by
  obtain ⟨r0, rs0, rfl, h0, ht0⟩ := kJ ht
  obtain ⟨r1, rs1, rfl, h1, ht1⟩ := kJ ht0
  obtain ⟨r2, rs2, rfl, h2, ht2⟩ := kJ ht1
  obtain ⟨r3, rs3, rfl, h3, ht3⟩ := kJ ht2
  obtain rfl := Fq ht3
  obtain ⟨a0, rfl, t0⟩ := Bw (n := 1) h0
  obtain ⟨a1, rfl, t1⟩ := QO (n := 11) h1
  obtain ⟨a2, rfl, t2⟩ := QO (n := 11) h2
  obtain ⟨a3, rfl, t3⟩ := QO (n := 11) h3
  have hb : KM a0 a1 a2 a3 = true := by
    unfold KM
    by_cases z0 : (zf a0 1048576) < 0
    · simp [z0]
    obtain ⟨s0, y0⟩ := Uw a0 1048576 t0 (by omega) (by omega) z0
    obtain ⟨c0, d0⟩ := IY a0 1048576 t0 (by omega) (by omega) z0
    obtain ⟨m0, n0, h0⟩ := W0 a0 1 (by omega) (by omega)
    have o0 : ¬ (Zm a0 1).2 < 0 := by omega
    have p0 : 0 ≤ (Zm a0 1).2 := by omega
    have b1 := Nv a0 a1 a2 a3 (by omega)
    obtain ⟨m2, n2, h2⟩ := W0 (Zx a0 a1 a2 a3).1 1 (by omega) (by omega)
    have o2 : ¬ (Zm (Zx a0 a1 a2 a3).1 1).2 < 0 := by omega
    have p2 : 0 ≤ (Zm (Zx a0 a1 a2 a3).1 1).2 := by omega
    simp (maxDischargeDepth := 12) [z0, jx, qp, qY, xi, Vr, WO, qk, WQ, y3, Vt, WV, Us, Vn, WH, jr, WU, WE, jl, qq, qb, WN, WG, VZ, W2, kz, jj, Oi, t0, h0, o0, p0, h2, o2, p2]
  have hs := W9 a0 a1 a2 a3 t0
  rw [hb] at hs
  exact Nl hs hv
theorem lifted (os : Os) (started : os.Started) (H : Type) (enc : TypeId × Value → H) :
    ReturnsInHanded {} Tryz.checked os 5 .any (Rows.fnExactStepMoveSpec.pre6 enc Tryz.prog Tryz.f5 Rows.fnExactStepMoveRow.domain false) (Rows.fnExactStepMoveSpec.post enc Tryz.prog Tryz.f5 false true false false) := by
  refine returnsInHanded_of_change (C := Tryz.checked) own started (by kernel_rfl) Tryz.func5
    (ChangeSpec.witness6 (enc := enc) (C := Tryz.checked) false ⟨#[], #[.agg #[.slice none 0 0, .slice none 0 0, .slice none 0 0, .int .i64 0, .int .i64 0, .slice none 0 0, .slice none 0 0, .slice none 0 0, .slice none 0 0, .slice none 0 0, .int .i64 0, .slice none 0 0], .int .i64 0, .int .i64 0, .int .i64 0], []⟩ 8 (by kernel_rfl) (by kernel_rfl) (by kernel_rfl) (by kernel_rfl)) ?_
  intro W base args ds gs before hval0 hW hcnd _
  have hval : ∀ (j : Nat) t v, Tryz.f5.params[j]? = some t → args[j]? = some v → Value.okWide Tryz.prog W .any base t v := hval0
  have hW' := hW
  obtain ⟨p, q, hA0, hV, rfl, hfz, hnd⟩ := hW
  have hA : DataW.TrodAll enc Tryz.prog W 0 (fun _ => true) true Tryz.f5.params.toList args.toList ds p := hA0
  obtain ⟨rows, hr, hty⟩ := MW (n := 12) plain (fun j t v h1 h2 => hval j t v (by simpa using h1) (by simpa using h2)) hA
  have hA2 := hA
  rw [Tryz.params5] at hA2 hty
  obtain ⟨v0, vs0, d0, ds0, p0, q0, hargs, rfl, rfl, h0, r0⟩ := trodAll_cons hA2
  obtain ⟨v1, vs1, d1, ds1, p1, q1, rfl, rfl, rfl, h1, r1⟩ := trodAll_cons r0
  obtain ⟨v2, vs2, d2, ds2, p2, q2, rfl, rfl, rfl, h2, r2⟩ := trodAll_cons r1
  obtain ⟨v3, vs3, d3, ds3, p3, q3, rfl, rfl, rfl, h3, r3⟩ := trodAll_cons r2
  obtain ⟨rfl, rfl, rfl⟩ := trodAll_nil r3
  obtain rfl : args = #[v0, v1, v2, v3] := by cases args; simp_all
  obtain ⟨rfl, rfl⟩ := trodVars_none hV
  simp only [List.append_nil] at hW'
  refine (walk hr hty).mono fun e W' ⟨he, hg⟩ => ?_
  subst he
  exact ⟨_, rfl, _, _, _, [], _, [], hW', trodAll_mk1 (shut_bool Tryz.underlying4 _), Vi CP hg plain hA, rfl, hg.frame _, fun h => by cases h⟩
theorem Oj : Rows.fnExactStepMoveRow.holds Tryz.pinned (OpenSpec.ofChange Rows.fnExactStepMoveSpec) :=
  OpenClaim.holds_of_wide 5 Tryz.f5 rfl rfl rfl rfl rfl rfl rfl ⟨rfl, rfl, rfl, rfl, rfl⟩ rfl rfl rfl rfl rfl named Tryz.func5 closed
    (of_decide_eq_true (by kernel_rfl)) (by unfold Func.isWrapper; first | (rw [if_pos (by decide +kernel)]; kernel_rfl) | (rw [if_neg (by decide +kernel)]; exact ⟨rfl, rfl⟩))
    (fun os started H enc _ => lifted os started H enc)
theorem proved : Rows.FnExactStepMoveSaid := Oj
end Go.Proofs.YtjflhdkeibijaaaGreat.fnExactStepMove
