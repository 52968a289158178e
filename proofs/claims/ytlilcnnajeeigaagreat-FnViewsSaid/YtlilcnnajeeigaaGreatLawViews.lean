/- The given statement Rows.FnViewsSaid: the law answers true for every input. No condition. -/
import Derived.Test.YtlilcnnajeeigaaGreatRows
import Derived.Test.YtlilcnnajeeigaaGreatDd
import Derived.Test.YtlilcnnajeeigaaGreatPFnViews
import Derived.Test.YtlilcnnajeeigaaGreatC
import Derived.Test.YtlilcnnajeeigaaGreatFx
import Derived.WalkKit
import Derived.Below
import Derived.ProofKit
import Derived.OpenShut
namespace Go.Proofs.YtlilcnnajeeigaaGreat.fnViews
open Go.ChangeShapes Go.WideShapes Go.ChangeAt Go.RowKit Go.Vm Go.Mo
set_option linter.unusedVariables false
set_option linter.unusedSimpArgs false
set_option maxRecDepth 100000
theorem own : ownKnob Tryz.prog.godebug = none := by kernel_rfl
theorem plain : qS Tryz.prog 12 Tryz.f3.params.toList = true := by kernel_rfl
theorem x3 : Tryz.f3.params.all (Tryz.prog.readableRec ·) = true := by kernel_rfl
theorem x4 : (Rows.fnViewsRow.inPlace == Tryz.prog.inPlace 3) = true := by kernel_rfl
theorem x5 : (Rows.fnViewsRow.unfollowed == Tryz.prog.unfollowed 3) = true := by kernel_rfl
theorem x6 : (Rows.fnViewsRow.recurses == Tryz.prog.recurses 3) = true := by kernel_rfl
theorem x7 : (Rows.fnViewsRow.named == Tryz.prog.varsNamed 3) = true := by kernel_rfl
theorem x8 : (Rows.fnViewsRow.loops == (Tryz.f3.params.toList ++ Rows.fnViewsSpec.plain.varTypes Tryz.prog).any (Tryz.prog.loopsFrom ·)) = true := by kernel_rfl
theorem x9 : (Rows.fnViewsRow.wideKeys == (Tryz.f3.params.toList ++ Rows.fnViewsSpec.plain.varTypes Tryz.prog ++ Tryz.f3.resultTypes.toList).any (Tryz.prog.wideKeysFrom ·)) = true := by kernel_rfl
theorem x10 : (Rows.fnViewsRow.veiled == (Tryz.f3.params.toList ++ Rows.fnViewsSpec.plain.varTypes Tryz.prog ++ Tryz.f3.resultTypes.toList).any (Tryz.prog.veiledRec ·)) = true := by kernel_rfl
theorem x11 : (Rows.fnViewsRow.maps == (Tryz.f3.params.toList ++ Rows.fnViewsSpec.plain.varTypes Tryz.prog).any (Tryz.prog.mapsRec ·)) = true := by kernel_rfl
theorem x12 : (Rows.fnViewsRow.ifaces == (Tryz.f3.params.toList ++ Rows.fnViewsSpec.plain.varTypes Tryz.prog).any (Tryz.prog.ifacesRec ·)) = true := by kernel_rfl
theorem named : Tryz.prog.funcNamed Rows.fnViewsRow.func = some 3 := by kernel_rfl
theorem closed : joinedFacts Tryz.prog 3 Tryz.f3 Rows.fnViewsSpec Rows.fnViewsRow = true := by
  unfold joinedFacts
  rw [EV, Ei, x3, x4, x5, x6, x7, x8, x9, x10, x11, x12]
  kernel_rfl
theorem walk {w : World} {wq : List Value} {rows : List (List Vm.D)} (hv : Zg (Reads w) wq rows) (ht : Nu Tryz.prog 12 [22] rows) :
    Calls Tryz.prog 3 wq.toArray w fun e w' => e = .returned (.bool true) /\ Below w.heap.size w w' := by
  obtain ⟨r0, fD, rfl, h0, hD⟩ := HD ht
  obtain rfl := Hz hD
  obtain ⟨a0, rfl, t0⟩ := DL (n := 10) h0
  have hb : kV a0 = true := PY a0
  have hs := N6 a0 t0
  rw [hb] at hs
  exact O8 hs hv
theorem lifted (os : Os) (started : os.Started) (H : Type) (enc : TypeId × Value -> H) :
    ReturnsInHanded {} Tryz.checked os 3 .any (Rows.fnViewsSpec.pre6 enc Tryz.prog Tryz.f3 Rows.fnViewsRow.domain false) (Rows.fnViewsSpec.post enc Tryz.prog Tryz.f3 false true false false) := by
  refine returnsInHanded_of_change (C := Tryz.checked) own started (by kernel_rfl) Tryz.func3
    (ChangeSpec.witness6 (enc := enc) (C := Tryz.checked) false ⟨#[], #[.slice none 0 0], []⟩ 8 (by kernel_rfl) (by kernel_rfl) (by kernel_rfl) (by kernel_rfl)) ?_
  intro W base args ds gs before ow hW hC _
  have uW : ∀ (j : Nat) t v, Tryz.f3.params[j]? = some t -> args[j]? = some v -> Value.okWide Tryz.prog W .any base t v := ow
  have iB := hW
  obtain ⟨p, q, hE, hV, rfl, fE, w9⟩ := hW
  have hA : DataW.TrodAll enc Tryz.prog W 0 (fun _ => true) true Tryz.f3.params.toList args.toList ds p := hE
  obtain ⟨rows, hr, uO⟩ := NV (n := 12) plain (fun j t v h1 h2 => uW j t v (by simpa using h1) (by simpa using h2)) hA
  have iC := hA
  rw [Tryz.params3] at iC uO
  obtain ⟨v0, fF, d0, fG, p0, q0, wK, rfl, rfl, h0, r0⟩ := trodAll_cons iC
  obtain ⟨rfl, rfl, rfl⟩ := trodAll_nil r0
  obtain rfl : args = #[v0] := by cases args; simp_all
  obtain ⟨rfl, rfl⟩ := trodVars_none hV
  simp only [List.append_nil] at iB
  refine (walk hr uO).mono fun e W' ⟨he, hg⟩ => ?_
  subst he
  exact ⟨_, rfl, _, _, _, [], _, [], iB, trodAll_mk1 (shut_bool Tryz.underlying4 _), Ub EV hg plain hA, rfl, hg.frame _, fun h => by cases h⟩
theorem ON : Rows.fnViewsRow.holds Tryz.pinned (OpenSpec.ofChange Rows.fnViewsSpec) :=
  OpenClaim.holds_of_wide 3 Tryz.f3 rfl rfl rfl rfl rfl rfl rfl ⟨rfl, rfl, rfl, rfl, rfl⟩ rfl rfl rfl rfl rfl named Tryz.func3 closed
    (of_decide_eq_true (by kernel_rfl)) (by unfold Func.isWrapper; first | (rw [if_pos (by decide +kernel)]; kernel_rfl) | (rw [if_neg (by decide +kernel)]; exact ⟨rfl, rfl⟩))
    (fun os started H enc _ => lifted os started H enc)
theorem proved : Rows.FnViewsSaid := ON
end Go.Proofs.YtlilcnnajeeigaaGreat.fnViews
