/- The given statement Rows.FnExactStepBackdateSaid: the law answers true for every input. No condition. -/
import Derived.Test.YtjflhdkeibijaaaGreatRows
import Derived.Test.YtjflhdkeibijaaaGreatDd
import Derived.Test.YtjflhdkeibijaaaGreatE
import Derived.Test.YtjflhdkeibijaaaGreatC
import Derived.Test.YtjflhdkeibijaaaGreatFx
import Derived.WalkKit
import Derived.Below
import Derived.ProofKit
import Derived.OpenShut
namespace Go.Proofs.YtjflhdkeibijaaaGreat.fnExactStepBackdate
open Go.ChangeShapes Go.WideShapes Go.ChangeAt Go.RowKit Go.Vm Go.Mo
set_option linter.unusedVariables false
set_option linter.unusedSimpArgs false
set_option maxRecDepth 100000
theorem own : ownKnob Tryz.prog.godebug = none := by kernel_rfl
theorem plain : xy Tryz.prog 12 Tryz.f4.params.toList = true := by kernel_rfl
theorem x3 : Tryz.f4.params.all (Tryz.prog.readableRec ·) = true := by kernel_rfl
theorem x4 : (Rows.fnExactStepBackdateRow.inPlace == Tryz.prog.inPlace 4) = true := by kernel_rfl
theorem x5 : (Rows.fnExactStepBackdateRow.unfollowed == Tryz.prog.unfollowed 4) = true := by kernel_rfl
theorem x6 : (Rows.fnExactStepBackdateRow.recurses == Tryz.prog.recurses 4) = true := by kernel_rfl
theorem x7 : (Rows.fnExactStepBackdateRow.named == Tryz.prog.varsNamed 4) = true := by kernel_rfl
theorem x8 : (Rows.fnExactStepBackdateRow.loops == (Tryz.f4.params.toList ++ Rows.fnExactStepBackdateSpec.plain.varTypes Tryz.prog).any (Tryz.prog.loopsFrom ·)) = true := by kernel_rfl
theorem x9 : (Rows.fnExactStepBackdateRow.wideKeys == (Tryz.f4.params.toList ++ Rows.fnExactStepBackdateSpec.plain.varTypes Tryz.prog ++ Tryz.f4.resultTypes.toList).any (Tryz.prog.wideKeysFrom ·)) = true := by kernel_rfl
theorem x10 : (Rows.fnExactStepBackdateRow.veiled == (Tryz.f4.params.toList ++ Rows.fnExactStepBackdateSpec.plain.varTypes Tryz.prog ++ Tryz.f4.resultTypes.toList).any (Tryz.prog.veiledRec ·)) = true := by kernel_rfl
theorem x11 : (Rows.fnExactStepBackdateRow.maps == (Tryz.f4.params.toList ++ Rows.fnExactStepBackdateSpec.plain.varTypes Tryz.prog).any (Tryz.prog.mapsRec ·)) = true := by kernel_rfl
theorem x12 : (Rows.fnExactStepBackdateRow.ifaces == (Tryz.f4.params.toList ++ Rows.fnExactStepBackdateSpec.plain.varTypes Tryz.prog).any (Tryz.prog.ifacesRec ·)) = true := by kernel_rfl
theorem named : Tryz.prog.funcNamed Rows.fnExactStepBackdateRow.func = some 4 := by kernel_rfl
theorem closed : joinedFacts Tryz.prog 4 Tryz.f4 Rows.fnExactStepBackdateSpec Rows.fnExactStepBackdateRow = true := by
  unfold joinedFacts
  rw [DD, Db, x3, x4, x5, x6, x7, x8, x9, x10, x11, x12]
  kernel_rfl
theorem walk {w : World} {vals : List Value} {rows : List (List Vm.D)} (hv : Zs (Reads w) vals rows) (ht : Nz Tryz.prog 12 [31, 3, 3] rows) :
    Calls Tryz.prog 4 vals.toArray w fun e w' => e = .returned (.bool true) ∧ Below w.heap.size w w' := by
  obtain ⟨r0, rs0, rfl, h0, ht0⟩ := Vj ht
  obtain ⟨r1, rs1, rfl, h1, ht1⟩ := Vj ht0
  obtain ⟨r2, rs2, rfl, h2, ht2⟩ := Vj ht1
  obtain rfl := G4 ht2
  obtain ⟨a0, rfl, t0⟩ := Cf (n := 1) h0
  obtain ⟨a1, rfl, t1⟩ := X7 (n := 11) h1
  obtain ⟨a2, rfl, t2⟩ := X7 (n := 11) h2
  have hb : QR a0 a1 a2 = true := by
    unfold QR
    by_cases z0 : (zO a0 1048576) < 0
    · simp [z0]
    obtain ⟨s0, y0⟩ := Uf a0 1048576 t0 (by omega) (by omega) z0
    obtain ⟨c0, d0⟩ := LQ a0 1048576 t0 (by omega) (by omega) z0
    obtain ⟨m0, n0, h0⟩ := WZ a0 1 (by omega) (by omega)
    have o0 : ¬ (Zn a0 1).2 < 0 := by omega
    have p0 : 0 ≤ (Zn a0 1).2 := by omega
    have b1 := V8 a0 a1 a2 (by omega)
    obtain ⟨m2, n2, h2⟩ := WZ (Zg a0 a1 a2).1 1 (by omega) (by omega)
    have o2 : ¬ (Zn (Zg a0 a1 a2).1 1).2 < 0 := by omega
    have p2 : 0 ≤ (Zn (Zg a0 a1 a2).1 1).2 := by omega
    simp (maxDischargeDepth := 12) [z0, jT, qN, xi, xH, W9, WM, ql, WV, yb, W3, WO, UR, W2, kS, jY, ko, kT, jg, qM, xw, WN, kN, W4, ka, kV, jH, Pk, t0, h0, o0, p0, h2, o2, p2]
  have hs := jA a0 a1 a2 t0
  rw [hb] at hs
  exact Ok hs hv
theorem lifted (os : Os) (started : os.Started) (H : Type) (enc : TypeId × Value → H) :
    ReturnsInHanded {} Tryz.checked os 4 .any (Rows.fnExactStepBackdateSpec.pre6 enc Tryz.prog Tryz.f4 Rows.fnExactStepBackdateRow.domain false) (Rows.fnExactStepBackdateSpec.post enc Tryz.prog Tryz.f4 false true false false) := by
  refine returnsInHanded_of_change (C := Tryz.checked) own started (by kernel_rfl) Tryz.func4
    (ChangeSpec.witness6 (enc := enc) (C := Tryz.checked) false ⟨#[], #[.agg #[.slice none 0 0, .slice none 0 0, .slice none 0 0, .int .i64 0, .int .i64 0, .slice none 0 0, .slice none 0 0, .slice none 0 0, .slice none 0 0, .slice none 0 0, .int .i64 0, .slice none 0 0], .int .i64 0, .int .i64 0], []⟩ 8 (by kernel_rfl) (by kernel_rfl) (by kernel_rfl) (by kernel_rfl)) ?_
  intro W base args ds gs before hval0 hW hcnd _
  have hval : ∀ (j : Nat) t v, Tryz.f4.params[j]? = some t → args[j]? = some v → Value.okWide Tryz.prog W .any base t v := hval0
  have hW' := hW
  obtain ⟨p, q, hA0, hV, rfl, hfz, hnd⟩ := hW
  have hA : DataW.TrodAll enc Tryz.prog W 0 (fun _ => true) true Tryz.f4.params.toList args.toList ds p := hA0
  obtain ⟨rows, hr, hty⟩ := NX (n := 12) plain (fun j t v h1 h2 => hval j t v (by simpa using h1) (by simpa using h2)) hA
  have hA2 := hA
  rw [Tryz.params4] at hA2 hty
  obtain ⟨v0, vs0, d0, ds0, p0, q0, hargs, rfl, rfl, h0, r0⟩ := trodAll_cons hA2
  obtain ⟨v1, vs1, d1, ds1, p1, q1, rfl, rfl, rfl, h1, r1⟩ := trodAll_cons r0
  obtain ⟨v2, vs2, d2, ds2, p2, q2, rfl, rfl, rfl, h2, r2⟩ := trodAll_cons r1
  obtain ⟨rfl, rfl, rfl⟩ := trodAll_nil r2
  obtain rfl : args = #[v0, v1, v2] := by cases args; simp_all
  obtain ⟨rfl, rfl⟩ := trodVars_none hV
  simp only [List.append_nil] at hW'
  refine (walk hr hty).mono fun e W' ⟨he, hg⟩ => ?_
  subst he
  exact ⟨_, rfl, _, _, _, [], _, [], hW', trodAll_mk1 (shut_bool Tryz.underlying4 _), W8 DD hg plain hA, rfl, hg.frame _, fun h => by cases h⟩
theorem RK : Rows.fnExactStepBackdateRow.holds Tryz.pinned (OpenSpec.ofChange Rows.fnExactStepBackdateSpec) :=
  OpenClaim.holds_of_wide 4 Tryz.f4 rfl rfl rfl rfl rfl rfl rfl ⟨rfl, rfl, rfl, rfl, rfl⟩ rfl rfl rfl rfl rfl named Tryz.func4 closed
    (of_decide_eq_true (by kernel_rfl)) (by unfold Func.isWrapper; first | (rw [if_pos (by decide +kernel)]; kernel_rfl) | (rw [if_neg (by decide +kernel)]; exact ⟨rfl, rfl⟩))
    (fun os started H enc _ => lifted os started H enc)
theorem proved : Rows.FnExactStepBackdateSaid := RK
end Go.Proofs.YtjflhdkeibijaaaGreat.fnExactStepBackdate
