/- The given statement Rows.FnExactApplyEventSaid: the law answers true for every input. No condition. -/
import Derived.Test.YtdkobknehoecjaaGreatRows
import Derived.Test.YtdkobknehoecjaaGreatDd
import Derived.Test.YtdkobknehoecjaaGreatE
import Derived.Test.YtdkobknehoecjaaGreatC
import Derived.Test.YtdkobknehoecjaaGreatFx
import Derived.WalkKit
import Derived.Below
import Derived.ProofKit
import Derived.OpenShut
namespace Go.Proofs.YtdkobknehoecjaaGreat.fnExactApplyEvent
open Go.ChangeShapes Go.WideShapes Go.ChangeAt Go.RowKit Go.Vm Go.Mo
set_option linter.unusedVariables false
set_option linter.unusedSimpArgs false
set_option maxRecDepth 100000
theorem own : ownKnob Tryz.prog.godebug = none := by kernel_rfl
theorem plain : VK Tryz.prog 12 Tryz.f3.params.toList = true := by kernel_rfl
theorem x3 : Tryz.f3.params.all (Tryz.prog.readableRec ·) = true := by kernel_rfl
theorem x4 : (Rows.fnExactApplyEventRow.inPlace == Tryz.prog.inPlace 3) = true := by kernel_rfl
theorem x5 : (Rows.fnExactApplyEventRow.unfollowed == Tryz.prog.unfollowed 3) = true := by kernel_rfl
theorem x6 : (Rows.fnExactApplyEventRow.recurses == Tryz.prog.recurses 3) = true := by kernel_rfl
theorem x7 : (Rows.fnExactApplyEventRow.named == Tryz.prog.varsNamed 3) = true := by kernel_rfl
theorem x8 : (Rows.fnExactApplyEventRow.loops == (Tryz.f3.params.toList ++ Rows.fnExactApplyEventSpec.plain.varTypes Tryz.prog).any (Tryz.prog.loopsFrom ·)) = true := by kernel_rfl
theorem x9 : (Rows.fnExactApplyEventRow.wideKeys == (Tryz.f3.params.toList ++ Rows.fnExactApplyEventSpec.plain.varTypes Tryz.prog ++ Tryz.f3.resultTypes.toList).any (Tryz.prog.wideKeysFrom ·)) = true := by kernel_rfl
theorem x10 : (Rows.fnExactApplyEventRow.veiled == (Tryz.f3.params.toList ++ Rows.fnExactApplyEventSpec.plain.varTypes Tryz.prog ++ Tryz.f3.resultTypes.toList).any (Tryz.prog.veiledRec ·)) = true := by kernel_rfl
theorem x11 : (Rows.fnExactApplyEventRow.maps == (Tryz.f3.params.toList ++ Rows.fnExactApplyEventSpec.plain.varTypes Tryz.prog).any (Tryz.prog.mapsRec ·)) = true := by kernel_rfl
theorem x12 : (Rows.fnExactApplyEventRow.ifaces == (Tryz.f3.params.toList ++ Rows.fnExactApplyEventSpec.plain.varTypes Tryz.prog).any (Tryz.prog.ifacesRec ·)) = true := by kernel_rfl
theorem named : Tryz.prog.funcNamed Rows.fnExactApplyEventRow.func = some 3 := by kernel_rfl
theorem closed : joinedFacts Tryz.prog 3 Tryz.f3 Rows.fnExactApplyEventSpec Rows.fnExactApplyEventRow = true := by
  unfold joinedFacts
  rw [pI, pv, x3, x4, x5, x6, x7, x8, x9, x10, x11, x12]
  kernel_rfl
theorem walk {w : World} {lu : List Value} {rows : List (List Vm.D)} (hv : YA (Reads w) lu rows) (ht : E3 Tryz.prog 12 [31, 36] rows) :
    Calls Tryz.prog 3 lu.toArray w fun e w' => e = .returned (.bool true) /\ Below w.heap.size w w' := by
  obtain ⟨r0, rs0, rfl, h0, ht0⟩ := GI ht
  obtain ⟨r1, rs1, rfl, h1, ht1⟩ := GI ht0
  obtain rfl := vr ht1
  obtain ⟨a0, rfl, t0⟩ := og (n := 1) h0
  obtain ⟨a1, rfl, t1⟩ := nL (n := 8) h1
  have hb : zc a0 a1 = true := by
    unfold zc
    by_cases z0 : (KB a0 1048576) < 0
    · simp [z0]
    obtain ⟨s0, y0⟩ := Na a0 1048576 t0 (by omega) (by omega) z0
    obtain ⟨c0, d0⟩ := D9 a0 1048576 t0 (by omega) (by omega) z0
    by_cases z1 : (jB a1 (KB a0 1048576)) < 0
    · simp [z0, z1]
    obtain ⟨s1, y1⟩ := Oa a1 (KB a0 1048576) t1 (by omega) (by omega) z1
    obtain ⟨c1, d1⟩ := CW a1 (KB a0 1048576) t1 (by omega) (by omega) z1
    obtain ⟨m0, n0, h0⟩ := Rv a0 1 (by omega) (by omega)
    have o0 : ¬ (Z0 a0 1).2 < 0 := by omega
    have p0 : 0 <= (Z0 a0 1).2 := by omega
    obtain ⟨m1, n1⟩ := Gi a1 (Z0 a0 1).2 (by omega) (by omega)
    have o1 : ¬ (XI a1 (Z0 a0 1).2).2 < 0 := by omega
    have p1 : 0 <= (XI a1 (Z0 a0 1).2).2 := by omega
    have b2 := Lo a0 a1 (by omega) (by omega)
    obtain ⟨m3, n3, h3⟩ := Rv (Z3 a0 a1).1 1 (by omega) (by omega)
    have o3 : ¬ (Z0 (Z3 a0 a1).1 1).2 < 0 := by omega
    have p3 : 0 <= (Z0 (Z3 a0 a1).1 1).2 := by omega
    simp (maxDischargeDepth := 12) [z0, z1, TJ, UK, VP, WU, Pl, Rq, jQ, HP, RJ, qH, PW, RV, Nd, Pp, SH, Us, RS, SK, TL, V4, VX, Su, SD, PV, RT, SN, Uw, Ho, t0, t1, h0, o0, p0, o1, p1, h3, o3, p3]
  have hs := Ta a0 a1 t0 t1
  rw [hb] at hs
  exact Fx hs hv
theorem lifted (os : Os) (started : os.Started) (H : Type) (enc : TypeId × Value -> H) :
    ReturnsInHanded {} Tryz.checked os 3 .any (Rows.fnExactApplyEventSpec.pre6 enc Tryz.prog Tryz.f3 Rows.fnExactApplyEventRow.domain false) (Rows.fnExactApplyEventSpec.post enc Tryz.prog Tryz.f3 false true false false) := by
  refine returnsInHanded_of_change (C := Tryz.checked) own started (by kernel_rfl) Tryz.func3
    (ChangeSpec.witness6 (enc := enc) (C := Tryz.checked) false ⟨#[], #[.agg #[.slice none 0 0, .slice none 0 0, .slice none 0 0, .int .i64 0, .int .i64 0, .slice none 0 0, .slice none 0 0, .slice none 0 0, .slice none 0 0, .slice none 0 0, .int .i64 0, .slice none 0 0], .agg #[.int .i64 0, .int .i64 0, .int .i64 0, .int .i64 0, .int .i64 0, .int .i64 0, .slice none 0 0, .slice none 0 0, .slice none 0 0]], []⟩ 8 (by kernel_rfl) (by kernel_rfl) (by kernel_rfl) (by kernel_rfl)) ?_
  intro W base args ds gs before af hW hcnd _
  have fA : ∀ (j : Nat) t v, Tryz.f3.params[j]? = some t -> args[j]? = some v -> Value.okWide Tryz.prog W .any base t v := af
  have hW' := hW
  obtain ⟨p, q, hA0, hV, rfl, hfz, l9⟩ := hW
  have hA : DataW.TrodAll enc Tryz.prog W 0 (fun _ => true) true Tryz.f3.params.toList args.toList ds p := hA0
  obtain ⟨rows, hr, gh⟩ := DA (n := 12) plain (fun j t v h1 h2 => fA j t v (by simpa using h1) (by simpa using h2)) hA
  have hA2 := hA
  rw [Tryz.params3] at hA2 gh
  obtain ⟨v0, vs0, d0, ds0, p0, q0, lH, rfl, rfl, h0, r0⟩ := trodAll_cons hA2
  obtain ⟨v1, vs1, d1, ds1, p1, q1, rfl, rfl, rfl, h1, r1⟩ := trodAll_cons r0
  obtain ⟨rfl, rfl, rfl⟩ := trodAll_nil r1
  obtain rfl : args = #[v0, v1] := by cases args; simp_all
  obtain ⟨rfl, rfl⟩ := trodVars_none hV
  simp only [List.append_nil] at hW'
  refine (walk hr gh).mono fun e W' ⟨he, hg⟩ => ?_
  subst he
  exact ⟨_, rfl, _, _, _, [], _, [], hW', trodAll_mk1 (shut_bool Tryz.underlying4 _), Pq pI hg plain hA, rfl, hg.frame _, fun h => by cases h⟩
theorem GQ : Rows.fnExactApplyEventRow.holds Tryz.pinned (OpenSpec.ofChange Rows.fnExactApplyEventSpec) :=
  OpenClaim.holds_of_wide 3 Tryz.f3 rfl rfl rfl rfl rfl rfl rfl ⟨rfl, rfl, rfl, rfl, rfl⟩ rfl rfl rfl rfl rfl named Tryz.func3 closed
    (of_decide_eq_true (by kernel_rfl)) (by unfold Func.isWrapper; first | (rw [if_pos (by decide +kernel)]; kernel_rfl) | (rw [if_neg (by decide +kernel)]; exact ⟨rfl, rfl⟩))
    (fun os started H enc _ => lifted os started H enc)
theorem proved : Rows.FnExactApplyEventSaid := GQ
end Go.Proofs.YtdkobknehoecjaaGreat.fnExactApplyEvent
