/- The given statement Rows.FnExactFormatWorldSaid: the law answers true for every input. No condition. -/
import Derived.Test.YtfhmpplolpejnaaGreatRows
import Derived.Test.YtfhmpplolpejnaaGreatDd
import Derived.Test.YtfhmpplolpejnaaGreatE
import Derived.Test.YtfhmpplolpejnaaGreatC
import Derived.Test.YtfhmpplolpejnaaGreatFx
import Derived.WalkKit
import Derived.Below
import Derived.ProofKit
import Derived.OpenShut
namespace Go.Proofs.YtfhmpplolpejnaaGreat.fnExactFormatWorld
open Go.ChangeShapes Go.WideShapes Go.ChangeAt Go.RowKit Go.Vm Go.Mo
set_option linter.unusedVariables false
set_option linter.unusedSimpArgs false
set_option maxRecDepth 100000
theorem own : ownKnob Tryz.prog.godebug = none := by kernel_rfl
theorem plain : xZ Tryz.prog 12 Tryz.f7.params.toList = true := by kernel_rfl
theorem x3 : Tryz.f7.params.all (Tryz.prog.readableRec ·) = true := by kernel_rfl
theorem x4 : (Rows.fnExactFormatWorldRow.inPlace == Tryz.prog.inPlace 7) = true := by kernel_rfl
theorem x5 : (Rows.fnExactFormatWorldRow.unfollowed == Tryz.prog.unfollowed 7) = true := by kernel_rfl
theorem x6 : (Rows.fnExactFormatWorldRow.recurses == Tryz.prog.recurses 7) = true := by kernel_rfl
theorem x7 : (Rows.fnExactFormatWorldRow.named == Tryz.prog.varsNamed 7) = true := by kernel_rfl
theorem x8 : (Rows.fnExactFormatWorldRow.loops == (Tryz.f7.params.toList ++ Rows.fnExactFormatWorldSpec.plain.varTypes Tryz.prog).any (Tryz.prog.loopsFrom ·)) = true := by kernel_rfl
theorem x9 : (Rows.fnExactFormatWorldRow.wideKeys == (Tryz.f7.params.toList ++ Rows.fnExactFormatWorldSpec.plain.varTypes Tryz.prog ++ Tryz.f7.resultTypes.toList).any (Tryz.prog.wideKeysFrom ·)) = true := by kernel_rfl
theorem x10 : (Rows.fnExactFormatWorldRow.veiled == (Tryz.f7.params.toList ++ Rows.fnExactFormatWorldSpec.plain.varTypes Tryz.prog ++ Tryz.f7.resultTypes.toList).any (Tryz.prog.veiledRec ·)) = true := by kernel_rfl
theorem x11 : (Rows.fnExactFormatWorldRow.maps == (Tryz.f7.params.toList ++ Rows.fnExactFormatWorldSpec.plain.varTypes Tryz.prog).any (Tryz.prog.mapsRec ·)) = true := by kernel_rfl
theorem x12 : (Rows.fnExactFormatWorldRow.ifaces == (Tryz.f7.params.toList ++ Rows.fnExactFormatWorldSpec.plain.varTypes Tryz.prog).any (Tryz.prog.ifacesRec ·)) = true := by kernel_rfl
theorem named : Tryz.prog.funcNamed Rows.fnExactFormatWorldRow.func = some 7 := by kernel_rfl
theorem closed : joinedFacts Tryz.prog 7 Tryz.f7 Rows.fnExactFormatWorldSpec Rows.fnExactFormatWorldRow = true := by
  unfold joinedFacts
  rw [ZGL, ZK7, x3, x4, x5, x6, x7, x8, x9, x10, x11, x12]
  kernel_rfl
theorem walk {w : World} {vals : List Value} {rows : List (List Vm.D)} (hv : YG (Reads w) vals rows) (ht : ZGS Tryz.prog 12 [74] rows) :
    Calls Tryz.prog 7 vals.toArray w fun e w' => e = .returned (.bool true) ∧ Below w.heap.size w w' := by
  obtain ⟨r0, rs0, rfl, h0, ht0⟩ := yd ht
  obtain rfl := ZDc ht0
  obtain ⟨a0, rfl, t0⟩ := ZUQ (n := 1) h0
  have hb : Kq a0 = true := by simp (maxDischargeDepth := 12) [Kq, YF, Yk, Zf, Zd, XO, XD, Zk, Z7, YJ, YL, YY, YV, YK, Zp, Zn, Z6, Zq, Zo, Zj, Ze, Z8, Zr, YI, Z4, Zs, Zm, XE, KG, JS, Qu, Qj, y3, zt, JW, z7, J6, y4, yF, qE, y2, Kk, KH, zf, Km, KF, JU, Qw, xA, zy, Ki, y7, yE, Kl, KE, z6, xd, t0]
  have hs := ZDZ a0 t0
  rw [hb] at hs
  exact qq hs hv
theorem lifted (os : Os) (started : os.Started) (H : Type) (enc : TypeId × Value → H) :
    ReturnsInHanded {} Tryz.checked os 7 .any (Rows.fnExactFormatWorldSpec.pre6 enc Tryz.prog Tryz.f7 Rows.fnExactFormatWorldRow.domain false) (Rows.fnExactFormatWorldSpec.post enc Tryz.prog Tryz.f7 false true false false) := by
  refine returnsInHanded_of_change (C := Tryz.checked) own started (by kernel_rfl) Tryz.func7
    (ChangeSpec.witness6 (enc := enc) (C := Tryz.checked) false ⟨#[], #[.agg #[.slice none 0 0, .slice none 0 0, .slice none 0 0, .int .i64 0, .int .i64 0, .slice none 0 0, .slice none 0 0, .slice none 0 0, .slice none 0 0, .slice none 0 0, .int .i64 0, .slice none 0 0]], []⟩ 8 (by kernel_rfl) (by kernel_rfl) (by kernel_rfl) (by kernel_rfl)) ?_
  intro W base args ds gs before hval0 hW hcnd _
  have hval : ∀ (j : Nat) t v, Tryz.f7.params[j]? = some t → args[j]? = some v → Value.okWide Tryz.prog W .any base t v := hval0
  have hW' := hW
  obtain ⟨p, q, hA0, hV, rfl, hfz, hnd⟩ := hW
  have hA : DataW.TrodAll enc Tryz.prog W 0 (fun _ => true) true Tryz.f7.params.toList args.toList ds p := hA0
  obtain ⟨rows, hr, hty⟩ := ZBV (n := 12) plain (fun j t v h1 h2 => hval j t v (by simpa using h1) (by simpa using h2)) hA
  have hA2 := hA
  rw [Tryz.params7] at hA2 hty
  obtain ⟨v0, vs0, d0, ds0, p0, q0, hargs, rfl, rfl, h0, r0⟩ := trodAll_cons hA2
  obtain ⟨rfl, rfl, rfl⟩ := trodAll_nil r0
  obtain rfl : args = #[v0] := by cases args; simp_all
  obtain ⟨rfl, rfl⟩ := trodVars_none hV
  simp only [List.append_nil] at hW'
  refine (walk hr hty).mono fun e W' ⟨he, hg⟩ => ?_
  subst he
  exact ⟨_, rfl, _, _, _, [], _, [], hW', trodAll_mk1 (shut_bool Tryz.underlying4 _), y8 ZGL hg plain hA, rfl, hg.frame _, fun h => by cases h⟩
theorem ZEa : Rows.fnExactFormatWorldRow.holds Tryz.pinned (OpenSpec.ofChange Rows.fnExactFormatWorldSpec) :=
  OpenClaim.holds_of_wide 7 Tryz.f7 rfl rfl rfl rfl rfl rfl rfl ⟨rfl, rfl, rfl, rfl, rfl⟩ rfl rfl rfl rfl rfl named Tryz.func7 closed
    (of_decide_eq_true (by kernel_rfl)) (by unfold Func.isWrapper; first | (rw [if_pos (by decide +kernel)]; kernel_rfl) | (rw [if_neg (by decide +kernel)]; exact ⟨rfl, rfl⟩))
    (fun os started H enc _ => lifted os started H enc)
theorem proved : Rows.FnExactFormatWorldSaid := ZEa
end Go.Proofs.YtfhmpplolpejnaaGreat.fnExactFormatWorld
