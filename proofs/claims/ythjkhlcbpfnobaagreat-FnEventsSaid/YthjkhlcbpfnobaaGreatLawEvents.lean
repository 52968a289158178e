/- The given statement Rows.FnEventsSaid: the law answers true for every input. No condition. -/
import Derived.Test.YthjkhlcbpfnobaaGreatRows
import Derived.Test.YthjkhlcbpfnobaaGreatDd
import Derived.Test.YthjkhlcbpfnobaaGreatPFnEvents
import Derived.Test.YthjkhlcbpfnobaaGreatC
import Derived.Test.YthjkhlcbpfnobaaGreatFx
import Derived.WalkKit
import Derived.Below
import Derived.ProofKit
import Derived.OpenShut
namespace Go.Proofs.YthjkhlcbpfnobaaGreat.fnEvents
open Go.ChangeShapes Go.WideShapes Go.ChangeAt Go.RowKit Go.Vm Go.Mo
set_option linter.unusedVariables false
set_option linter.unusedSimpArgs false
set_option maxRecDepth 100000
theorem own : ownKnob Tryz.prog.godebug = none := by kernel_rfl
theorem plain : kq Tryz.prog 12 Tryz.f3.params.toList = true := by kernel_rfl
theorem x3 : Tryz.f3.params.all (Tryz.prog.readableRec ·) = true := by kernel_rfl
theorem x4 : (Rows.fnEventsRow.inPlace == Tryz.prog.inPlace 3) = true := by kernel_rfl
theorem x5 : (Rows.fnEventsRow.unfollowed == Tryz.prog.unfollowed 3) = true := by kernel_rfl
theorem x6 : (Rows.fnEventsRow.recurses == Tryz.prog.recurses 3) = true := by kernel_rfl
theorem x7 : (Rows.fnEventsRow.named == Tryz.prog.varsNamed 3) = true := by kernel_rfl
theorem x8 : (Rows.fnEventsRow.loops == (Tryz.f3.params.toList ++ Rows.fnEventsSpec.plain.varTypes Tryz.prog).any (Tryz.prog.loopsFrom ·)) = true := by kernel_rfl
theorem x9 : (Rows.fnEventsRow.wideKeys == (Tryz.f3.params.toList ++ Rows.fnEventsSpec.plain.varTypes Tryz.prog ++ Tryz.f3.resultTypes.toList).any (Tryz.prog.wideKeysFrom ·)) = true := by kernel_rfl
theorem x10 : (Rows.fnEventsRow.veiled == (Tryz.f3.params.toList ++ Rows.fnEventsSpec.plain.varTypes Tryz.prog ++ Tryz.f3.resultTypes.toList).any (Tryz.prog.veiledRec ·)) = true := by kernel_rfl
theorem x11 : (Rows.fnEventsRow.maps == (Tryz.f3.params.toList ++ Rows.fnEventsSpec.plain.varTypes Tryz.prog).any (Tryz.prog.mapsRec ·)) = true := by kernel_rfl
theorem x12 : (Rows.fnEventsRow.ifaces == (Tryz.f3.params.toList ++ Rows.fnEventsSpec.plain.varTypes Tryz.prog).any (Tryz.prog.ifacesRec ·)) = true := by kernel_rfl
theorem named : Tryz.prog.funcNamed Rows.fnEventsRow.func = some 3 := by kernel_rfl
theorem closed : joinedFacts Tryz.prog 3 Tryz.f3 Rows.fnEventsSpec Rows.fnEventsRow = true := by
  unfold joinedFacts
  rw [B4, Ae, x3, x4, x5, x6, x7, x8, x9, x10, x11, x12]
  kernel_rfl
theorem walk {w : World} {u6 : List Value} {rows : List (List Vm.D)} (hv : Z5 (Reads w) u6 rows) (ht : Iy Tryz.prog 12 [22] rows) :
    Calls Tryz.prog 3 u6.toArray w fun e w' => e = .returned (.bool true) /\ Below w.heap.size w w' := by
  obtain ⟨r0, bS, rfl, h0, dn⟩ := F9 ht
  obtain rfl := Dg dn
  obtain ⟨a0, rfl, t0⟩ := Ax (n := 10) h0
  have hb : kY a0 = true := O4 a0
  have hs := IL a0 t0
  rw [hb] at hs
  exact L6 hs hv
theorem lifted (os : Os) (started : os.Started) (H : Type) (enc : TypeId × Value -> H) :
    ReturnsInHanded {} Tryz.checked os 3 .any (Rows.fnEventsSpec.pre6 enc Tryz.prog Tryz.f3 Rows.fnEventsRow.domain false) (Rows.fnEventsSpec.post enc Tryz.prog Tryz.f3 false true false false) := by
  refine returnsInHanded_of_change (C := Tryz.checked) own started (by kernel_rfl) Tryz.func3
    (ChangeSpec.witness6 (enc := enc) (C := Tryz.checked) false ⟨#[], #[.slice none 0 0], []⟩ 8 (by kernel_rfl) (by kernel_rfl) (by kernel_rfl) (by kernel_rfl)) ?_
  intro W base args ds gs before iY hW dm _
  have rH : ∀ (j : Nat) t v, Tryz.f3.params[j]? = some t -> args[j]? = some v -> Value.okWide Tryz.prog W .any base t v := iY
  have eW := hW
  obtain ⟨p, q, dq, hV, rfl, bT, tN⟩ := hW
  have hA : DataW.TrodAll enc Tryz.prog W 0 (fun _ => true) true Tryz.f3.params.toList args.toList ds p := dq
  obtain ⟨rows, hr, sh⟩ := I3 (n := 12) plain (fun j t v h1 h2 => rH j t v (by simpa using h1) (by simpa using h2)) hA
  have eY := hA
  rw [Tryz.params3] at eY sh
  obtain ⟨v0, bU, d0, bV, p0, q0, uL, rfl, rfl, h0, r0⟩ := trodAll_cons eY
  obtain ⟨rfl, rfl, rfl⟩ := trodAll_nil r0
  obtain rfl : args = #[v0] := by cases args; simp_all
  obtain ⟨rfl, rfl⟩ := trodVars_none hV
  simp only [List.append_nil] at eW
  refine (walk hr sh).mono fun e W' ⟨he, hg⟩ => ?_
  subst he
  exact ⟨_, rfl, _, _, _, [], _, [], eW, trodAll_mk1 (shut_bool Tryz.underlying4 _), SS B4 hg plain hA, rfl, hg.frame _, fun h => by cases h⟩
theorem NL : Rows.fnEventsRow.holds Tryz.pinned (OpenSpec.ofChange Rows.fnEventsSpec) :=
  OpenClaim.holds_of_wide 3 Tryz.f3 rfl rfl rfl rfl rfl rfl rfl ⟨rfl, rfl, rfl, rfl, rfl⟩ rfl rfl rfl rfl rfl named Tryz.func3 closed
    (of_decide_eq_true (by kernel_rfl)) (by unfold Func.isWrapper; first | (rw [if_pos (by decide +kernel)]; kernel_rfl) | (rw [if_neg (by decide +kernel)]; exact ⟨rfl, rfl⟩))
    (fun os started H enc _ => lifted os started H enc)
theorem proved : Rows.FnEventsSaid := NL
end Go.Proofs.YthjkhlcbpfnobaaGreat.fnEvents
