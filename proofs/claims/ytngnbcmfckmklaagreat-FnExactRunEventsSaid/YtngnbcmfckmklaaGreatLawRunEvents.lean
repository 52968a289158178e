/- The given statement Rows.FnExactRunEventsSaid: the law answers true for every input. No condition. -/
import Derived.Test.YtngnbcmfckmklaaGreatRows
import Derived.Test.YtngnbcmfckmklaaGreatDd
import Derived.Test.YtngnbcmfckmklaaGreatE
import Derived.Test.YtngnbcmfckmklaaGreatC
import Derived.Test.YtngnbcmfckmklaaGreatFx
import Derived.WalkKit
import Derived.Below
import Derived.ProofKit
import Derived.OpenShut
namespace Go.Proofs.YtngnbcmfckmklaaGreat.fnExactRunEvents
open Go.ChangeShapes Go.WideShapes Go.ChangeAt Go.RowKit Go.Vm Go.Mo
set_option linter.unusedVariables false
set_option linter.unusedSimpArgs false
set_option maxRecDepth 100000
theorem own : ownKnob Tryz.prog.godebug = none := by kernel_rfl
theorem plain : UB Tryz.prog 12 Tryz.f3.params.toList = true := by kernel_rfl
theorem x3 : Tryz.f3.params.all (Tryz.prog.readableRec ·) = true := by kernel_rfl
theorem x4 : (Rows.fnExactRunEventsRow.inPlace == Tryz.prog.inPlace 3) = true := by kernel_rfl
theorem x5 : (Rows.fnExactRunEventsRow.unfollowed == Tryz.prog.unfollowed 3) = true := by kernel_rfl
theorem x6 : (Rows.fnExactRunEventsRow.recurses == Tryz.prog.recurses 3) = true := by kernel_rfl
theorem x7 : (Rows.fnExactRunEventsRow.named == Tryz.prog.varsNamed 3) = true := by kernel_rfl
theorem x8 : (Rows.fnExactRunEventsRow.loops == (Tryz.f3.params.toList ++ Rows.fnExactRunEventsSpec.plain.varTypes Tryz.prog).any (Tryz.prog.loopsFrom ·)) = true := by kernel_rfl
theorem x9 : (Rows.fnExactRunEventsRow.wideKeys == (Tryz.f3.params.toList ++ Rows.fnExactRunEventsSpec.plain.varTypes Tryz.prog ++ Tryz.f3.resultTypes.toList).any (Tryz.prog.wideKeysFrom ·)) = true := by kernel_rfl
theorem x10 : (Rows.fnExactRunEventsRow.veiled == (Tryz.f3.params.toList ++ Rows.fnExactRunEventsSpec.plain.varTypes Tryz.prog ++ Tryz.f3.resultTypes.toList).any (Tryz.prog.veiledRec ·)) = true := by kernel_rfl
theorem x11 : (Rows.fnExactRunEventsRow.maps == (Tryz.f3.params.toList ++ Rows.fnExactRunEventsSpec.plain.varTypes Tryz.prog).any (Tryz.prog.mapsRec ·)) = true := by kernel_rfl
theorem x12 : (Rows.fnExactRunEventsRow.ifaces == (Tryz.f3.params.toList ++ Rows.fnExactRunEventsSpec.plain.varTypes Tryz.prog).any (Tryz.prog.ifacesRec ·)) = true := by kernel_rfl
theorem named : Tryz.prog.funcNamed Rows.fnExactRunEventsRow.func = some 3 := by kernel_rfl
theorem closed : joinedFacts Tryz.prog 3 Tryz.f3 Rows.fnExactRunEventsSpec Rows.fnExactRunEventsRow = true := by
  unfold joinedFacts
  rw [oT, nA, x3, x4, x5, x6, x7, x8, x9, x10, x11, x12]
  kernel_rfl
theorem walk {w : World} {gQ : List Value} {rows : List (List Vm.D)} (hv : Z6 (Reads w) gQ rows) (ht : CK Tryz.prog 12 [31, 32] rows) :
    Calls Tryz.prog 3 gQ.toArray w fun e w' => e = .returned (.bool true) /\ Below w.heap.size w w' := by
  obtain ⟨r0, rs0, rfl, h0, ht0⟩ := Gz ht
  obtain ⟨r1, rs1, rfl, h1, ht1⟩ := Gz ht0
  obtain rfl := tu ht1
  obtain ⟨a0, rfl, t0⟩ := nt (n := 1) h0
  obtain ⟨a1, rfl, t1⟩ := mT (n := 7) h1
  have hb : yo a0 a1 = true := by
    unfold yo
    by_cases z0 : (KQ a0 1048576) < 0
    · simp [z0]
    obtain ⟨s0, y0⟩ := N7 a0 1048576 t0 (by omega) (by omega) z0
    obtain ⟨c0, d0⟩ := BQ a0 1048576 t0 (by omega) (by omega) z0
    by_cases z1 : (kV a1 (KQ a0 1048576)) < 0
    · simp [z0, z1]
    obtain ⟨s1, y1⟩ := OO a1 (KQ a0 1048576) t1 (by omega) (by omega) z1
    obtain ⟨c1, d1⟩ := El a1 (KQ a0 1048576) t1 (by omega) (by omega) z1
    obtain ⟨m0, n0, h0⟩ := Rm a0 1 (by omega) (by omega)
    have o0 : ¬ (Zz a0 1).2 < 0 := by omega
    have p0 : 0 <= (Zz a0 1).2 := by omega
    have b1 := GR a0 a1 s0 s1 (by omega) (by omega)
    obtain ⟨m2, n2, h2⟩ := Rm (YF a0 a1) 1 (by omega) (by omega)
    have o2 : ¬ (Zz (YF a0 a1) 1).2 < 0 := by omega
    have p2 : 0 <= (Zz (YF a0 a1) 1).2 := by omega
    obtain ⟨m3, n3⟩ := HN a1 (Zz a0 1).2 (by omega) (by omega)
    have o3 : ¬ (JD a1 (Zz a0 1).2).2 < 0 := by omega
    have p3 : 0 <= (JD a1 (Zz a0 1).2).2 := by omega
    simp (maxDischargeDepth := 12) [Gu a0 a1 s0 s1, z0, z1, Tw, Ug, Vk, Ww, OM, Rf, kG, PA, IT, Rv, qk, OT, R4, N4, Og, RV, Tm, Rk, RI, SA, Uq, V2, PV, RP, Oe, PZ, S3, T2, Fp, t0, t1, h0, o0, p0, h2, o2, p2, o3, p3]
  have hs := Rc a0 a1 t0 t1
  rw [hb] at hs
  exact Eh hs hv
theorem lifted (os : Os) (started : os.Started) (H : Type) (enc : TypeId × Value -> H) :
    ReturnsInHanded {} Tryz.checked os 3 .any (Rows.fnExactRunEventsSpec.pre6 enc Tryz.prog Tryz.f3 Rows.fnExactRunEventsRow.domain false) (Rows.fnExactRunEventsSpec.post enc Tryz.prog Tryz.f3 false true false false) := by
  refine returnsInHanded_of_change (C := Tryz.checked) own started (by kernel_rfl) Tryz.func3
    (ChangeSpec.witness6 (enc := enc) (C := Tryz.checked) false ⟨#[], #[.agg #[.slice none 0 0, .slice none 0 0, .slice none 0 0, .int .i64 0, .int .i64 0, .slice none 0 0, .slice none 0 0, .slice none 0 0, .slice none 0 0, .slice none 0 0, .int .i64 0, .slice none 0 0], .slice none 0 0], []⟩ 8 (by kernel_rfl) (by kernel_rfl) (by kernel_rfl) (by kernel_rfl)) ?_
  intro W base args ds gs before hval0 hW hcnd _
  have ep : ∀ (j : Nat) t v, Tryz.f3.params[j]? = some t -> args[j]? = some v -> Value.okWide Tryz.prog W .any base t v := hval0
  have hW' := hW
  obtain ⟨p, q, hA0, hV, rfl, hfz, gd⟩ := hW
  have hA : DataW.TrodAll enc Tryz.prog W 0 (fun _ => true) true Tryz.f3.params.toList args.toList ds p := hA0
  obtain ⟨rows, hr, eO⟩ := D6 (n := 12) plain (fun j t v h1 h2 => ep j t v (by simpa using h1) (by simpa using h2)) hA
  have hA2 := hA
  rw [Tryz.params3] at hA2 eO
  obtain ⟨v0, vs0, d0, ds0, p0, q0, iY, rfl, rfl, h0, r0⟩ := trodAll_cons hA2
  obtain ⟨v1, vs1, d1, ds1, p1, q1, rfl, rfl, rfl, h1, r1⟩ := trodAll_cons r0
  obtain ⟨rfl, rfl, rfl⟩ := trodAll_nil r1
  obtain rfl : args = #[v0, v1] := by cases args; simp_all
  obtain ⟨rfl, rfl⟩ := trodVars_none hV
  simp only [List.append_nil] at hW'
  refine (walk hr eO).mono fun e W' ⟨he, hg⟩ => ?_
  subst he
  exact ⟨_, rfl, _, _, _, [], _, [], hW', trodAll_mk1 (shut_bool Tryz.underlying4 _), OY oT hg plain hA, rfl, hg.frame _, fun h => by cases h⟩
theorem GP : Rows.fnExactRunEventsRow.holds Tryz.pinned (OpenSpec.ofChange Rows.fnExactRunEventsSpec) :=
  OpenClaim.holds_of_wide 3 Tryz.f3 rfl rfl rfl rfl rfl rfl rfl ⟨rfl, rfl, rfl, rfl, rfl⟩ rfl rfl rfl rfl rfl named Tryz.func3 closed
    (of_decide_eq_true (by kernel_rfl)) (by unfold Func.isWrapper; first | (rw [if_pos (by decide +kernel)]; kernel_rfl) | (rw [if_neg (by decide +kernel)]; exact ⟨rfl, rfl⟩))
    (fun os started H enc _ => lifted os started H enc)
theorem proved : Rows.FnExactRunEventsSaid := GP
end Go.Proofs.YtngnbcmfckmklaaGreat.fnExactRunEvents
