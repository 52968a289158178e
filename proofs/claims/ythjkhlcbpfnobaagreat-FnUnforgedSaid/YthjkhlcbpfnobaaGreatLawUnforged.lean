/- The given statement Rows.FnUnforgedSaid: the law answers true for every input. No condition. -/
import Derived.Test.YthjkhlcbpfnobaaGreatRows
import Derived.Test.YthjkhlcbpfnobaaGreatDd
import Derived.Test.YthjkhlcbpfnobaaGreatPFnUnforged
import Derived.Test.YthjkhlcbpfnobaaGreatC
import Derived.Test.YthjkhlcbpfnobaaGreatFx
import Derived.WalkKit
import Derived.Below
import Derived.ProofKit
import Derived.OpenShut
namespace Go.Proofs.YthjkhlcbpfnobaaGreat.fnUnforged
open Go.ChangeShapes Go.WideShapes Go.ChangeAt Go.RowKit Go.Vm Go.Mo
set_option linter.unusedVariables false
set_option linter.unusedSimpArgs false
set_option maxRecDepth 100000
theorem own : ownKnob Tryz.prog.godebug = none := by kernel_rfl
theorem plain : V0 Tryz.prog 12 Tryz.f7.params.toList = true := by kernel_rfl
theorem x3 : Tryz.f7.params.all (Tryz.prog.readableRec ·) = true := by kernel_rfl
theorem x4 : (Rows.fnUnforgedRow.inPlace == Tryz.prog.inPlace 7) = true := by kernel_rfl
theorem x5 : (Rows.fnUnforgedRow.unfollowed == Tryz.prog.unfollowed 7) = true := by kernel_rfl
theorem x6 : (Rows.fnUnforgedRow.recurses == Tryz.prog.recurses 7) = true := by kernel_rfl
theorem x7 : (Rows.fnUnforgedRow.named == Tryz.prog.varsNamed 7) = true := by kernel_rfl
theorem x8 : (Rows.fnUnforgedRow.loops == (Tryz.f7.params.toList ++ Rows.fnUnforgedSpec.plain.varTypes Tryz.prog).any (Tryz.prog.loopsFrom ·)) = true := by kernel_rfl
theorem x9 : (Rows.fnUnforgedRow.wideKeys == (Tryz.f7.params.toList ++ Rows.fnUnforgedSpec.plain.varTypes Tryz.prog ++ Tryz.f7.resultTypes.toList).any (Tryz.prog.wideKeysFrom ·)) = true := by kernel_rfl
theorem x10 : (Rows.fnUnforgedRow.veiled == (Tryz.f7.params.toList ++ Rows.fnUnforgedSpec.plain.varTypes Tryz.prog ++ Tryz.f7.resultTypes.toList).any (Tryz.prog.veiledRec ·)) = true := by kernel_rfl
theorem x11 : (Rows.fnUnforgedRow.maps == (Tryz.f7.params.toList ++ Rows.fnUnforgedSpec.plain.varTypes Tryz.prog).any (Tryz.prog.mapsRec ·)) = true := by kernel_rfl
theorem x12 : (Rows.fnUnforgedRow.ifaces == (Tryz.f7.params.toList ++ Rows.fnUnforgedSpec.plain.varTypes Tryz.prog).any (Tryz.prog.ifacesRec ·)) = true := by kernel_rfl
theorem named : Tryz.prog.funcNamed Rows.fnUnforgedRow.func = some 7 := by kernel_rfl
theorem closed : joinedFacts Tryz.prog 7 Tryz.f7 Rows.fnUnforgedSpec Rows.fnUnforgedRow = true := by
  unfold joinedFacts
  rw [pH, pj, x3, x4, x5, x6, x7, x8, x9, x10, x11, x12]
  kernel_rfl
theorem walk {w : World} {l6 : List Value} {rows : List (List Vm.D)} (hv : Z9 (Reads w) l6 rows) (ht : Eu Tryz.prog 12 [22] rows) :
    Calls Tryz.prog 7 l6.toArray w fun e w' => e = .returned (.bool true) /\ Below w.heap.size w w' := by
  obtain ⟨r0, rs0, rfl, h0, ht0⟩ := wM ht
  obtain rfl := vg ht0
  obtain ⟨a0, rfl, t0⟩ := nC (n := 10) h0
  have hb : kE a0 = true := N8 a0
  have hs := I4 a0 t0
  rw [hb] at hs
  exact FR hs hv
theorem lifted (os : Os) (started : os.Started) (H : Type) (enc : TypeId × Value -> H) :
    ReturnsInHanded {} Tryz.checked os 7 .any (Rows.fnUnforgedSpec.pre6 enc Tryz.prog Tryz.f7 Rows.fnUnforgedRow.domain false) (Rows.fnUnforgedSpec.post enc Tryz.prog Tryz.f7 false true false false) := by
  refine returnsInHanded_of_change (C := Tryz.checked) own started (by kernel_rfl) Tryz.func7
    (ChangeSpec.witness6 (enc := enc) (C := Tryz.checked) false ⟨#[], #[.slice none 0 0], []⟩ 8 (by kernel_rfl) (by kernel_rfl) (by kernel_rfl) (by kernel_rfl)) ?_
  intro W base args ds gs before hval0 hW hcnd _
  have fN : ∀ (j : Nat) t v, Tryz.f7.params[j]? = some t -> args[j]? = some v -> Value.okWide Tryz.prog W .any base t v := hval0
  have hW' := hW
  obtain ⟨p, q, hA0, hV, rfl, hfz, iV⟩ := hW
  have hA : DataW.TrodAll enc Tryz.prog W 0 (fun _ => true) true Tryz.f7.params.toList args.toList ds p := hA0
  obtain ⟨rows, hr, gv⟩ := Eh (n := 12) plain (fun j t v h1 h2 => fN j t v (by simpa using h1) (by simpa using h2)) hA
  have hA2 := hA
  rw [Tryz.params7] at hA2 gv
  obtain ⟨v0, vs0, d0, ds0, p0, q0, lF, rfl, rfl, h0, r0⟩ := trodAll_cons hA2
  obtain ⟨rfl, rfl, rfl⟩ := trodAll_nil r0
  obtain rfl : args = #[v0] := by cases args; simp_all
  obtain ⟨rfl, rfl⟩ := trodVars_none hV
  simp only [List.append_nil] at hW'
  refine (walk hr gv).mono fun e W' ⟨he, hg⟩ => ?_
  subst he
  exact ⟨_, rfl, _, _, _, [], _, [], hW', trodAll_mk1 (shut_bool Tryz.underlying4 _), P1 pH hg plain hA, rfl, hg.frame _, fun h => by cases h⟩
theorem Mj : Rows.fnUnforgedRow.holds Tryz.pinned (OpenSpec.ofChange Rows.fnUnforgedSpec) :=
  OpenClaim.holds_of_wide 7 Tryz.f7 rfl rfl rfl rfl rfl rfl rfl ⟨rfl, rfl, rfl, rfl, rfl⟩ rfl rfl rfl rfl rfl named Tryz.func7 closed
    (of_decide_eq_true (by kernel_rfl)) (by unfold Func.isWrapper; first | (rw [if_pos (by decide +kernel)]; kernel_rfl) | (rw [if_neg (by decide +kernel)]; exact ⟨rfl, rfl⟩))
    (fun os started H enc _ => lifted os started H enc)
theorem proved : Rows.FnUnforgedSaid := Mj
end Go.Proofs.YthjkhlcbpfnobaaGreat.fnUnforged
