/- The given statement Rows.FnExactForgedValidSaid: the law answers true for every input. No condition. -/
import Derived.Test.YtfhmpplolpejnaaGreatRows
import Derived.Test.YtfhmpplolpejnaaGreatDd
import Derived.Test.YtfhmpplolpejnaaGreatE
import Derived.Test.YtfhmpplolpejnaaGreatC
import Derived.Test.YtfhmpplolpejnaaGreatFx
import Derived.WalkKit
import Derived.Below
import Derived.ProofKit
import Derived.OpenShut
namespace Go.Proofs.YtfhmpplolpejnaaGreat.fnExactForgedValid
open Go.ChangeShapes Go.WideShapes Go.ChangeAt Go.RowKit Go.Vm Go.Mo
set_option linter.unusedVariables false
set_option linter.unusedSimpArgs false
set_option maxRecDepth 100000
theorem own : ownKnob Tryz.prog.godebug = none := by kernel_rfl
theorem plain : WT Tryz.prog 12 Tryz.f10.params.toList = true := by kernel_rfl
theorem x3 : Tryz.f10.params.all (Tryz.prog.readableRec ·) = true := by kernel_rfl
theorem x4 : (Rows.fnExactForgedValidRow.inPlace == Tryz.prog.inPlace 10) = true := by kernel_rfl
theorem x5 : (Rows.fnExactForgedValidRow.unfollowed == Tryz.prog.unfollowed 10) = true := by kernel_rfl
theorem x6 : (Rows.fnExactForgedValidRow.recurses == Tryz.prog.recurses 10) = true := by kernel_rfl
theorem x7 : (Rows.fnExactForgedValidRow.named == Tryz.prog.varsNamed 10) = true := by kernel_rfl
theorem x8 : (Rows.fnExactForgedValidRow.loops == (Tryz.f10.params.toList ++ Rows.fnExactForgedValidSpec.plain.varTypes Tryz.prog).any (Tryz.prog.loopsFrom ·)) = true := by kernel_rfl
theorem x9 : (Rows.fnExactForgedValidRow.wideKeys == (Tryz.f10.params.toList ++ Rows.fnExactForgedValidSpec.plain.varTypes Tryz.prog ++ Tryz.f10.resultTypes.toList).any (Tryz.prog.wideKeysFrom ·)) = true := by kernel_rfl
theorem x10 : (Rows.fnExactForgedValidRow.veiled == (Tryz.f10.params.toList ++ Rows.fnExactForgedValidSpec.plain.varTypes Tryz.prog ++ Tryz.f10.resultTypes.toList).any (Tryz.prog.veiledRec ·)) = true := by kernel_rfl
theorem x11 : (Rows.fnExactForgedValidRow.maps == (Tryz.f10.params.toList ++ Rows.fnExactForgedValidSpec.plain.varTypes Tryz.prog).any (Tryz.prog.mapsRec ·)) = true := by kernel_rfl
theorem x12 : (Rows.fnExactForgedValidRow.ifaces == (Tryz.f10.params.toList ++ Rows.fnExactForgedValidSpec.plain.varTypes Tryz.prog).any (Tryz.prog.ifacesRec ·)) = true := by kernel_rfl
theorem named : Tryz.prog.funcNamed Rows.fnExactForgedValidRow.func = some 10 := by kernel_rfl
theorem closed : joinedFacts Tryz.prog 10 Tryz.f10 Rows.fnExactForgedValidSpec Rows.fnExactForgedValidRow = true := by
  unfold joinedFacts
  rw [vi, sQ, x3, x4, x5, x6, x7, x8, x9, x10, x11, x12]
  kernel_rfl
theorem walk {w : World} {vals : List Value} {rows : List (List Vm.D)} (hv : Z8 (Reads w) vals rows) (ht : Gg Tryz.prog 12 [74] rows) :
    Calls Tryz.prog 10 vals.toArray w fun e w' => e = .returned (.bool true) ∧ Below w.heap.size w w' := by
  obtain ⟨r0, rs0, rfl, h0, ht0⟩ := Hn ht
  obtain rfl := E4 ht0
  obtain ⟨a0, rfl, t0⟩ := pU (n := 1) h0
  have hb : K0 a0 = true := by
    unfold K0
    by_cases z0 : (QX a0 1048576) < 0
    · simp [z0]
    obtain ⟨s0, y0⟩ := VL a0 1048576 t0 (by omega) (by omega) z0
    obtain ⟨c0, d0⟩ := zH a0 1048576 t0 (by omega) (by omega) z0
    obtain ⟨m0, n0⟩ := PJ a0 1 (by omega) (by omega)
    have o0 : ¬ (YQ a0 1).2 < 0 := by omega
    have p0 : 0 ≤ (YQ a0 1).2 := by omega
    have b1 := LF a0 (by omega)
    obtain ⟨m2, n2, h2⟩ := OI (YU a0) 1 (by omega) (by omega)
    have o2 : ¬ (ZC (YU a0) 1).2 < 0 := by omega
    have p2 : 0 ≤ (ZC (YU a0) 1).2 := by omega
    simp (maxDischargeDepth := 12) [z0, kj, jj, qq, qR, TW, UA, jo, US, qi, Ta, Vp, RI, TV, W4, kW, UH, Wq, kg, jn, qt, UN, Wm, TX, UC, Wo, kh, Rn, t0, o0, p0, h2, o2, p2]
  have hs := Tv a0 t0
  rw [hb] at hs
  exact OK hs hv
theorem lifted (os : Os) (started : os.Started) (H : Type) (enc : TypeId × Value → H) :
    ReturnsInHanded {} Tryz.checked os 10 .any (Rows.fnExactForgedValidSpec.pre6 enc Tryz.prog Tryz.f10 Rows.fnExactForgedValidRow.domain false) (Rows.fnExactForgedValidSpec.post enc Tryz.prog Tryz.f10 false true false false) := by
  refine returnsInHanded_of_change (C := Tryz.checked) own started (by kernel_rfl) Tryz.func10
    (ChangeSpec.witness6 (enc := enc) (C := Tryz.checked) false ⟨#[], #[.agg #[.slice none 0 0, .slice none 0 0, .slice none 0 0, .int .i64 0, .int .i64 0, .slice none 0 0, .slice none 0 0, .slice none 0 0, .slice none 0 0, .slice none 0 0, .int .i64 0, .slice none 0 0]], []⟩ 8 (by kernel_rfl) (by kernel_rfl) (by kernel_rfl) (by kernel_rfl)) ?_
  intro W base args ds gs before hval0 hW hcnd _
  have hval : ∀ (j : Nat) t v, Tryz.f10.params[j]? = some t → args[j]? = some v → Value.okWide Tryz.prog W .any base t v := hval0
  have hW' := hW
  obtain ⟨p, q, hA0, hV, rfl, hfz, hnd⟩ := hW
  have hA : DataW.TrodAll enc Tryz.prog W 0 (fun _ => true) true Tryz.f10.params.toList args.toList ds p := hA0
  obtain ⟨rows, hr, hty⟩ := MQ (n := 12) plain (fun j t v h1 h2 => hval j t v (by simpa using h1) (by simpa using h2)) hA
  have hA2 := hA
  rw [Tryz.params10] at hA2 hty
  obtain ⟨v0, vs0, d0, ds0, p0, q0, hargs, rfl, rfl, h0, r0⟩ := trodAll_cons hA2
  obtain ⟨rfl, rfl, rfl⟩ := trodAll_nil r0
  obtain rfl : args = #[v0] := by cases args; simp_all
  obtain ⟨rfl, rfl⟩ := trodVars_none hV
  simp only [List.append_nil] at hW'
  refine (walk hr hty).mono fun e W' ⟨he, hg⟩ => ?_
  subst he
  exact ⟨_, rfl, _, _, _, [], _, [], hW', trodAll_mk1 (shut_bool Tryz.underlying4 _), TR vi hg plain hA, rfl, hg.frame _, fun h => by cases h⟩
theorem LG : Rows.fnExactForgedValidRow.holds Tryz.pinned (OpenSpec.ofChange Rows.fnExactForgedValidSpec) :=
  OpenClaim.holds_of_wide 10 Tryz.f10 rfl rfl rfl rfl rfl rfl rfl ⟨rfl, rfl, rfl, rfl, rfl⟩ rfl rfl rfl rfl rfl named Tryz.func10 closed
    (of_decide_eq_true (by kernel_rfl)) (by unfold Func.isWrapper; first | (rw [if_pos (by decide +kernel)]; kernel_rfl) | (rw [if_neg (by decide +kernel)]; exact ⟨rfl, rfl⟩))
    (fun os started H enc _ => lifted os started H enc)
theorem proved : Rows.FnExactForgedValidSaid := LG
end Go.Proofs.YtfhmpplolpejnaaGreat.fnExactForgedValid
