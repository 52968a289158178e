/- The given statement Rows.FnBackdatedSaid: the law answers true for every input. No condition. -/
import Derived.Test.YthjkhlcbpfnobaaGreatRows
import Derived.Test.YthjkhlcbpfnobaaGreatDd
import Derived.Test.YthjkhlcbpfnobaaGreatPFnBackdated
import Derived.Test.YthjkhlcbpfnobaaGreatC
import Derived.Test.YthjkhlcbpfnobaaGreatFx
import Derived.WalkKit
import Derived.Below
import Derived.ProofKit
import Derived.OpenShut
namespace Go.Proofs.YthjkhlcbpfnobaaGreat.fnBackdated
open Go.ChangeShapes Go.WideShapes Go.ChangeAt Go.RowKit Go.Vm Go.Mo
set_option linter.unusedVariables false
set_option linter.unusedSimpArgs false
set_option maxRecDepth 100000
theorem own : ownKnob Tryz.prog.godebug = none := by kernel_rfl
theorem plain : WM Tryz.prog 12 Tryz.f5.params.toList = true := by kernel_rfl
theorem x3 : Tryz.f5.params.all (Tryz.prog.readableRec ·) = true := by kernel_rfl
theorem x4 : (Rows.fnBackdatedRow.inPlace == Tryz.prog.inPlace 5) = true := by kernel_rfl
theorem x5 : (Rows.fnBackdatedRow.unfollowed == Tryz.prog.unfollowed 5) = true := by kernel_rfl
theorem x6 : (Rows.fnBackdatedRow.recurses == Tryz.prog.recurses 5) = true := by kernel_rfl
theorem x7 : (Rows.fnBackdatedRow.named == Tryz.prog.varsNamed 5) = true := by kernel_rfl
theorem x8 : (Rows.fnBackdatedRow.loops == (Tryz.f5.params.toList ++ Rows.fnBackdatedSpec.plain.varTypes Tryz.prog).any (Tryz.prog.loopsFrom ·)) = true := by kernel_rfl
theorem x9 : (Rows.fnBackdatedRow.wideKeys == (Tryz.f5.params.toList ++ Rows.fnBackdatedSpec.plain.varTypes Tryz.prog ++ Tryz.f5.resultTypes.toList).any (Tryz.prog.wideKeysFrom ·)) = true := by kernel_rfl
theorem x10 : (Rows.fnBackdatedRow.veiled == (Tryz.f5.params.toList ++ Rows.fnBackdatedSpec.plain.varTypes Tryz.prog ++ Tryz.f5.resultTypes.toList).any (Tryz.prog.veiledRec ·)) = true := by kernel_rfl
theorem x11 : (Rows.fnBackdatedRow.maps == (Tryz.f5.params.toList ++ Rows.fnBackdatedSpec.plain.varTypes Tryz.prog).any (Tryz.prog.mapsRec ·)) = true := by kernel_rfl
theorem x12 : (Rows.fnBackdatedRow.ifaces == (Tryz.f5.params.toList ++ Rows.fnBackdatedSpec.plain.varTypes Tryz.prog).any (Tryz.prog.ifacesRec ·)) = true := by kernel_rfl
theorem named : Tryz.prog.funcNamed Rows.fnBackdatedRow.func = some 5 := by kernel_rfl
theorem closed : joinedFacts Tryz.prog 5 Tryz.f5 Rows.fnBackdatedSpec Rows.fnBackdatedRow = true := by
  unfold joinedFacts
  rw [Bk, wK, x3, x4, x5, x6, x7, x8, x9, x10, x11, x12]
  kernel_rfl
theorem walk {w : World} {oF : List Value} {rows : List (List Vm.D)} (hv : YB (Reads w) oF rows) (ht : L9 Tryz.prog 12 [22] rows) :
    Calls Tryz.prog 5 oF.toArray w fun e w' => e = .returned (.bool true) /\ Below w.heap.size w w' := by
  obtain ⟨r0, rs0, rfl, h0, aW⟩ := Hk ht
  obtain rfl := FH aW
  obtain ⟨a0, rfl, t0⟩ := ux (n := 10) h0
  have hb : qT a0 = true := OA a0
  have hs := N3 a0 t0
  rw [hb] at hs
  exact R6 hs hv
theorem lifted (os : Os) (started : os.Started) (H : Type) (enc : TypeId × Value -> H) :
    ReturnsInHanded {} Tryz.checked os 5 .any (Rows.fnBackdatedSpec.pre6 enc Tryz.prog Tryz.f5 Rows.fnBackdatedRow.domain false) (Rows.fnBackdatedSpec.post enc Tryz.prog Tryz.f5 false true false false) := by
  refine returnsInHanded_of_change (C := Tryz.checked) own started (by kernel_rfl) Tryz.func5
    (ChangeSpec.witness6 (enc := enc) (C := Tryz.checked) false ⟨#[], #[.slice none 0 0], []⟩ 8 (by kernel_rfl) (by kernel_rfl) (by kernel_rfl) (by kernel_rfl)) ?_
  intro W base args ds gs before gV hW aV _
  have nv : ∀ (j : Nat) t v, Tryz.f5.params[j]? = some t -> args[j]? = some v -> Value.okWide Tryz.prog W .any base t v := gV
  have cG := hW
  obtain ⟨p, q, aX, hV, rfl, hfz, oW⟩ := hW
  have hA : DataW.TrodAll enc Tryz.prog W 0 (fun _ => true) true Tryz.f5.params.toList args.toList ds p := aX
  obtain ⟨rows, hr, nZ⟩ := N7 (n := 12) plain (fun j t v h1 h2 => nv j t v (by simpa using h1) (by simpa using h2)) hA
  have cH := hA
  rw [Tryz.params5] at cH nZ
  obtain ⟨v0, vs0, d0, ds0, p0, q0, pX, rfl, rfl, h0, r0⟩ := trodAll_cons cH
  obtain ⟨rfl, rfl, rfl⟩ := trodAll_nil r0
  obtain rfl : args = #[v0] := by cases args; simp_all
  obtain ⟨rfl, rfl⟩ := trodVars_none hV
  simp only [List.append_nil] at cG
  refine (walk hr nZ).mono fun e W' ⟨he, hg⟩ => ?_
  subst he
  exact ⟨_, rfl, _, _, _, [], _, [], cG, trodAll_mk1 (shut_bool Tryz.underlying4 _), Ug Bk hg plain hA, rfl, hg.frame _, fun h => by cases h⟩
theorem Oe : Rows.fnBackdatedRow.holds Tryz.pinned (OpenSpec.ofChange Rows.fnBackdatedSpec) :=
  OpenClaim.holds_of_wide 5 Tryz.f5 rfl rfl rfl rfl rfl rfl rfl ⟨rfl, rfl, rfl, rfl, rfl⟩ rfl rfl rfl rfl rfl named Tryz.func5 closed
    (of_decide_eq_true (by kernel_rfl)) (by unfold Func.isWrapper; first | (rw [if_pos (by decide +kernel)]; kernel_rfl) | (rw [if_neg (by decide +kernel)]; exact ⟨rfl, rfl⟩))
    (fun os started H enc _ => lifted os started H enc)
theorem proved : Rows.FnBackdatedSaid := Oe
end Go.Proofs.YthjkhlcbpfnobaaGreat.fnBackdated
