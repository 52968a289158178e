/- The given statement Rows.FnWorldsSaid: the law answers true for every input. No condition. -/
import Derived.Test.YtgkcgbmbdaapcaaGreatRows
import Derived.Test.YtgkcgbmbdaapcaaGreatDd
import Derived.Test.YtgkcgbmbdaapcaaGreatPFnWorlds
import Derived.Test.YtgkcgbmbdaapcaaGreatC
import Derived.Test.YtgkcgbmbdaapcaaGreatFx
import Derived.WalkKit
import Derived.Below
import Derived.ProofKit
import Derived.OpenShut
namespace Go.Proofs.YtgkcgbmbdaapcaaGreat.fnWorlds
open Go.ChangeShapes Go.WideShapes Go.ChangeAt Go.RowKit Go.Vm Go.Mo
set_option linter.unusedVariables false
set_option linter.unusedSimpArgs false
set_option maxRecDepth 100000
theorem own : ownKnob Tryz.prog.godebug = none := by kernel_rfl
theorem plain : yP Tryz.prog 12 Tryz.f4.params.toList = true := by kernel_rfl
theorem x3 : Tryz.f4.params.all (Tryz.prog.readableRec ·) = true := by kernel_rfl
theorem x4 : (Rows.fnWorldsRow.inPlace == Tryz.prog.inPlace 4) = true := by kernel_rfl
theorem x5 : (Rows.fnWorldsRow.unfollowed == Tryz.prog.unfollowed 4) = true := by kernel_rfl
theorem x6 : (Rows.fnWorldsRow.recurses == Tryz.prog.recurses 4) = true := by kernel_rfl
theorem x7 : (Rows.fnWorldsRow.named == Tryz.prog.varsNamed 4) = true := by kernel_rfl
theorem x8 : (Rows.fnWorldsRow.loops == (Tryz.f4.params.toList ++ Rows.fnWorldsSpec.plain.varTypes Tryz.prog).any (Tryz.prog.loopsFrom ·)) = true := by kernel_rfl
theorem x9 : (Rows.fnWorldsRow.wideKeys == (Tryz.f4.params.toList ++ Rows.fnWorldsSpec.plain.varTypes Tryz.prog ++ Tryz.f4.resultTypes.toList).any (Tryz.prog.wideKeysFrom ·)) = true := by kernel_rfl
theorem x10 : (Rows.fnWorldsRow.veiled == (Tryz.f4.params.toList ++ Rows.fnWorldsSpec.plain.varTypes Tryz.prog ++ Tryz.f4.resultTypes.toList).any (Tryz.prog.veiledRec ·)) = true := by kernel_rfl
theorem x11 : (Rows.fnWorldsRow.maps == (Tryz.f4.params.toList ++ Rows.fnWorldsSpec.plain.varTypes Tryz.prog).any (Tryz.prog.mapsRec ·)) = true := by kernel_rfl
theorem x12 : (Rows.fnWorldsRow.ifaces == (Tryz.f4.params.toList ++ Rows.fnWorldsSpec.plain.varTypes Tryz.prog).any (Tryz.prog.ifacesRec ·)) = true := by kernel_rfl
theorem named : Tryz.prog.funcNamed Rows.fnWorldsRow.func = some 4 := by kernel_rfl
theorem closed : joinedFacts Tryz.prog 4 Tryz.f4 Rows.fnWorldsSpec Rows.fnWorldsRow = true := by
  unfold joinedFacts
  rw [Lq, HE, x3, x4, x5, x6, x7, x8, x9, x10, x11, x12]
  kernel_rfl
theorem walk {w : World} {wj : List Value} {rows : List (List Vm.D)} (hv : Zc (Reads w) wj rows) (ht : RT Tryz.prog 12 [22] rows) :
    Calls Tryz.prog 4 wj.toArray w fun e w' => e = .returned (.bool true) /\ Below w.heap.size w w' := by
  obtain ⟨r0, ic, rfl, h0, mV⟩ := RX ht
  obtain rfl := Pe mV
  obtain ⟨a0, rfl, t0⟩ := GO (n := 10) h0
  have hb : xF a0 = true := T4 a0
  have hs := R4 a0 t0
  rw [hb] at hs
  exact W7 hs hv
theorem lifted (os : Os) (started : os.Started) (H : Type) (enc : TypeId × Value -> H) :
    ReturnsInHanded {} Tryz.checked os 4 .any (Rows.fnWorldsSpec.pre6 enc Tryz.prog Tryz.f4 Rows.fnWorldsRow.domain false) (Rows.fnWorldsSpec.post enc Tryz.prog Tryz.f4 false true false false) := by
  refine returnsInHanded_of_change (C := Tryz.checked) own started (by kernel_rfl) Tryz.func4
    (ChangeSpec.witness6 (enc := enc) (C := Tryz.checked) false ⟨#[], #[.slice none 0 0], []⟩ 8 (by kernel_rfl) (by kernel_rfl) (by kernel_rfl) (by kernel_rfl)) ?_
  intro W base args ds gs before ss hW mU _
  have v5 : ∀ (j : Nat) t v, Tryz.f4.params[j]? = some t -> args[j]? = some v -> Value.okWide Tryz.prog W .any base t v := ss
  have ov := hW
  obtain ⟨p, q, mW, hV, rfl, ig, w8⟩ := hW
  have hA : DataW.TrodAll enc Tryz.prog W 0 (fun _ => true) true Tryz.f4.params.toList args.toList ds p := mW
  obtain ⟨rows, hr, vy⟩ := Un (n := 12) plain (fun j t v h1 h2 => v5 j t v (by simpa using h1) (by simpa using h2)) hA
  have ow := hA
  rw [Tryz.params4] at ow vy
  obtain ⟨v0, ij, d0, im, p0, q0, wH, rfl, rfl, h0, r0⟩ := trodAll_cons ow
  obtain ⟨rfl, rfl, rfl⟩ := trodAll_nil r0
  obtain rfl : args = #[v0] := by cases args; simp_all
  obtain ⟨rfl, rfl⟩ := trodVars_none hV
  simp only [List.append_nil] at ov
  refine (walk hr vy).mono fun e W' ⟨he, hg⟩ => ?_
  subst he
  exact ⟨_, rfl, _, _, _, [], _, [], ov, trodAll_mk1 (shut_bool Tryz.underlying4 _), qk Lq hg plain hA, rfl, hg.frame _, fun h => by cases h⟩
theorem U3 : Rows.fnWorldsRow.holds Tryz.pinned (OpenSpec.ofChange Rows.fnWorldsSpec) :=
  OpenClaim.holds_of_wide 4 Tryz.f4 rfl rfl rfl rfl rfl rfl rfl ⟨rfl, rfl, rfl, rfl, rfl⟩ rfl rfl rfl rfl rfl named Tryz.func4 closed
    (of_decide_eq_true (by kernel_rfl)) (by unfold Func.isWrapper; first | (rw [if_pos (by decide +kernel)]; kernel_rfl) | (rw [if_neg (by decide +kernel)]; exact ⟨rfl, rfl⟩))
    (fun os started H enc _ => lifted os started H enc)
theorem proved : Rows.FnWorldsSaid := U3
end Go.Proofs.YtgkcgbmbdaapcaaGreat.fnWorlds
