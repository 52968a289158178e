/- The given statement Rows.FnLiarsFoundSaid: the law answers true for every input. No condition. -/
import Derived.Test.YthjkhlcbpfnobaaGreatRows
import Derived.Test.YthjkhlcbpfnobaaGreatDd
import Derived.Test.YthjkhlcbpfnobaaGreatPFnLiarsFound
import Derived.Test.YthjkhlcbpfnobaaGreatC
import Derived.Test.YthjkhlcbpfnobaaGreatFx
import Derived.WalkKit
import Derived.Below
import Derived.ProofKit
import Derived.OpenShut
namespace Go.Proofs.YthjkhlcbpfnobaaGreat.fnLiarsFound
open Go.ChangeShapes Go.WideShapes Go.ChangeAt Go.RowKit Go.Vm Go.Mo
set_option linter.unusedVariables false
set_option linter.unusedSimpArgs false
set_option maxRecDepth 100000
theorem own : ownKnob Tryz.prog.godebug = none := by kernel_rfl
theorem plain : xG Tryz.prog 12 Tryz.f6.params.toList = true := by kernel_rfl
theorem x3 : Tryz.f6.params.all (Tryz.prog.readableRec ·) = true := by kernel_rfl
theorem x4 : (Rows.fnLiarsFoundRow.inPlace == Tryz.prog.inPlace 6) = true := by kernel_rfl
theorem x5 : (Rows.fnLiarsFoundRow.unfollowed == Tryz.prog.unfollowed 6) = true := by kernel_rfl
theorem x6 : (Rows.fnLiarsFoundRow.recurses == Tryz.prog.recurses 6) = true := by kernel_rfl
theorem x7 : (Rows.fnLiarsFoundRow.named == Tryz.prog.varsNamed 6) = true := by kernel_rfl
theorem x8 : (Rows.fnLiarsFoundRow.loops == (Tryz.f6.params.toList ++ Rows.fnLiarsFoundSpec.plain.varTypes Tryz.prog).any (Tryz.prog.loopsFrom ·)) = true := by kernel_rfl
theorem x9 : (Rows.fnLiarsFoundRow.wideKeys == (Tryz.f6.params.toList ++ Rows.fnLiarsFoundSpec.plain.varTypes Tryz.prog ++ Tryz.f6.resultTypes.toList).any (Tryz.prog.wideKeysFrom ·)) = true := by kernel_rfl
theorem x10 : (Rows.fnLiarsFoundRow.veiled == (Tryz.f6.params.toList ++ Rows.fnLiarsFoundSpec.plain.varTypes Tryz.prog ++ Tryz.f6.resultTypes.toList).any (Tryz.prog.veiledRec ·)) = true := by kernel_rfl
theorem x11 : (Rows.fnLiarsFoundRow.maps == (Tryz.f6.params.toList ++ Rows.fnLiarsFoundSpec.plain.varTypes Tryz.prog).any (Tryz.prog.mapsRec ·)) = true := by kernel_rfl
theorem x12 : (Rows.fnLiarsFoundRow.ifaces == (Tryz.f6.params.toList ++ Rows.fnLiarsFoundSpec.plain.varTypes Tryz.prog).any (Tryz.prog.ifacesRec ·)) = true := by kernel_rfl
theorem named : Tryz.prog.funcNamed Rows.fnLiarsFoundRow.func = some 6 := by kernel_rfl
theorem closed : joinedFacts Tryz.prog 6 Tryz.f6 Rows.fnLiarsFoundSpec Rows.fnLiarsFoundRow = true := by
  unfold joinedFacts
  rw [Ff, Fq, x3, x4, x5, x6, x7, x8, x9, x10, x11, x12]
  kernel_rfl
theorem walk {w : World} {wq : List Value} {rows : List (List Vm.D)} (hv : Zg (Reads w) wq rows) (ht : Pu Tryz.prog 12 [22] rows) :
    Calls Tryz.prog 6 wq.toArray w fun e w' => e = .returned (.bool true) /\ Below w.heap.size w w' := by
  obtain ⟨r0, eh, rfl, h0, fV⟩ := M8 ht
  obtain rfl := L3 fV
  obtain ⟨a0, rfl, t0⟩ := Ea (n := 10) h0
  have hb : KN a0 = true := WC a0
  have hs := VC a0 t0
  rw [hb] at hs
  exact Rw hs hv
theorem lifted (os : Os) (started : os.Started) (H : Type) (enc : TypeId × Value -> H) :
    ReturnsInHanded {} Tryz.checked os 6 .any (Rows.fnLiarsFoundSpec.pre6 enc Tryz.prog Tryz.f6 Rows.fnLiarsFoundRow.domain false) (Rows.fnLiarsFoundSpec.post enc Tryz.prog Tryz.f6 false true false false) := by
  refine returnsInHanded_of_change (C := Tryz.checked) own started (by kernel_rfl) Tryz.func6
    (ChangeSpec.witness6 (enc := enc) (C := Tryz.checked) false ⟨#[], #[.slice none 0 0], []⟩ 8 (by kernel_rfl) (by kernel_rfl) (by kernel_rfl) (by kernel_rfl)) ?_
  intro W base args ds gs before mV hW fU _
  have u4 : ∀ (j : Nat) t v, Tryz.f6.params[j]? = some t -> args[j]? = some v -> Value.okWide Tryz.prog W .any base t v := mV
  have gF := hW
  obtain ⟨p, q, fW, hV, rfl, ei, vF⟩ := hW
  have hA : DataW.TrodAll enc Tryz.prog W 0 (fun _ => true) true Tryz.f6.params.toList args.toList ds p := fW
  obtain ⟨rows, hr, uZ⟩ := Pf (n := 12) plain (fun j t v h1 h2 => u4 j t v (by simpa using h1) (by simpa using h2)) hA
  have gG := hA
  rw [Tryz.params6] at gG uZ
  obtain ⟨v0, ej, d0, ek, p0, q0, wI, rfl, rfl, h0, r0⟩ := trodAll_cons gG
  obtain ⟨rfl, rfl, rfl⟩ := trodAll_nil r0
  obtain rfl : args = #[v0] := by cases args; simp_all
  obtain ⟨rfl, rfl⟩ := trodVars_none hV
  simp only [List.append_nil] at gF
  refine (walk hr uZ).mono fun e W' ⟨he, hg⟩ => ?_
  subst he
  exact ⟨_, rfl, _, _, _, [], _, [], gF, trodAll_mk1 (shut_bool Tryz.underlying4 _), WU Ff hg plain hA, rfl, hg.frame _, fun h => by cases h⟩
theorem RH : Rows.fnLiarsFoundRow.holds Tryz.pinned (OpenSpec.ofChange Rows.fnLiarsFoundSpec) :=
  OpenClaim.holds_of_wide 6 Tryz.f6 rfl rfl rfl rfl rfl rfl rfl ⟨rfl, rfl, rfl, rfl, rfl⟩ rfl rfl rfl rfl rfl named Tryz.func6 closed
    (of_decide_eq_true (by kernel_rfl)) (by unfold Func.isWrapper; first | (rw [if_pos (by decide +kernel)]; kernel_rfl) | (rw [if_neg (by decide +kernel)]; exact ⟨rfl, rfl⟩))
    (fun os started H enc _ => lifted os started H enc)
theorem proved : Rows.FnLiarsFoundSaid := RH
end Go.Proofs.YthjkhlcbpfnobaaGreat.fnLiarsFound
