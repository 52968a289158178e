/- The given statement Rows.FnExactFormatRedactedSaid: the law answers true for every input. No condition. -/
import Derived.Test.YtjnnnnanipkcnaaRows
import Derived.Test.YtjnnnnanipkcnaaDd
import Derived.Test.YtjnnnnanipkcnaaE
import Derived.Test.YtjnnnnanipkcnaaC
import Derived.Test.YtjnnnnanipkcnaaFx
import Derived.WalkKit
import Derived.Below
import Derived.ProofKit
import Derived.OpenShut
namespace Go.Proofs.Ytjnnnnanipkcnaa.fnExactFormatRedacted
open Go.ChangeShapes Go.WideShapes Go.ChangeAt Go.RowKit Go.Vm Go.Mo
set_option linter.unusedVariables false
set_option linter.unusedSimpArgs false
set_option maxRecDepth 100000
theorem own : ownKnob Try.prog.godebug = none := by kernel_rfl
theorem plain : plainAll Try.prog 12 Try.f3.params.toList = true := by kernel_rfl
theorem x3 : Try.f3.params.all (Try.prog.readableRec ·) = true := by kernel_rfl
theorem x4 : (Rows.fnExactFormatRedactedRow.inPlace == Try.prog.inPlace 3) = true := by kernel_rfl
theorem x5 : (Rows.fnExactFormatRedactedRow.unfollowed == Try.prog.unfollowed 3) = true := by kernel_rfl
theorem x6 : (Rows.fnExactFormatRedactedRow.recurses == Try.prog.recurses 3) = true := by kernel_rfl
theorem x7 : (Rows.fnExactFormatRedactedRow.named == Try.prog.varsNamed 3) = true := by kernel_rfl
theorem x8 : (Rows.fnExactFormatRedactedRow.loops == (Try.f3.params.toList ++ Rows.fnExactFormatRedactedSpec.plain.varTypes Try.prog).any (Try.prog.loopsFrom ·)) = true := by kernel_rfl
theorem x9 : (Rows.fnExactFormatRedactedRow.wideKeys == (Try.f3.params.toList ++ Rows.fnExactFormatRedactedSpec.plain.varTypes Try.prog ++ Try.f3.resultTypes.toList).any (Try.prog.wideKeysFrom ·)) = true := by kernel_rfl
theorem x10 : (Rows.fnExactFormatRedactedRow.veiled == (Try.f3.params.toList ++ Rows.fnExactFormatRedactedSpec.plain.varTypes Try.prog ++ Try.f3.resultTypes.toList).any (Try.prog.veiledRec ·)) = true := by kernel_rfl
theorem x11 : (Rows.fnExactFormatRedactedRow.maps == (Try.f3.params.toList ++ Rows.fnExactFormatRedactedSpec.plain.varTypes Try.prog).any (Try.prog.mapsRec ·)) = true := by kernel_rfl
theorem x12 : (Rows.fnExactFormatRedactedRow.ifaces == (Try.f3.params.toList ++ Rows.fnExactFormatRedactedSpec.plain.varTypes Try.prog).any (Try.prog.ifacesRec ·)) = true := by kernel_rfl
theorem named : Try.prog.funcNamed Rows.fnExactFormatRedactedRow.func = some 3 := by kernel_rfl
theorem closed : joinedFacts Try.prog 3 Try.f3 Rows.fnExactFormatRedactedSpec Rows.fnExactFormatRedactedRow = true := by
  unfold joinedFacts
  rw [laidF, rowedF, x3, x4, x5, x6, x7, x8, x9, x10, x11, x12]
  kernel_rfl
theorem walk {w : World} {vals : List Value} {rows : List (List Vm.D)} (hv : All2 (Reads w) vals rows) (ht : TyAll Try.prog 12 [27] rows) :
    Calls Try.prog 3 vals.toArray w fun e w' => e = .returned (.bool true) ∧ Below w.heap.size w w' := by
  obtain ⟨r0, rs0, rfl, h0, ht0⟩ := tyAll_cons ht
  obtain rfl := tyAll_nil ht0
  obtain ⟨a0, rfl, t0⟩ := dec27 (n := 8) h0
  have hb : l_FnExactFormatRedacted a0 = true := by simp [l_FnExactFormatRedacted, l_toBoolS_id, l_toIntS_id, l_toIntSS_id, l_toRedacted_id, l_toStringS_id, l_eqBoolS_self, l_eqIntS_self, l_eqIntSS_self, l_eqRedacted_self, l_eqStringS_self]
  have hs := l_FnExactFormatRedacted_ok a0 t0
  rw [hb] at hs
  exact true_of_sound hs hv
theorem lifted (os : Os) (started : os.Started) (H : Type) (enc : TypeId × Value → H) :
    ReturnsInHanded {} Try.checked os 3 .any (Rows.fnExactFormatRedactedSpec.pre6 enc Try.prog Try.f3 Rows.fnExactFormatRedactedRow.domain false) (Rows.fnExactFormatRedactedSpec.post enc Try.prog Try.f3 false true false false) := by
  refine returnsInHanded_of_change (C := Try.checked) own started (by kernel_rfl) Try.func3
    (ChangeSpec.witness6 (enc := enc) (C := Try.checked) false ⟨#[], #[.agg #[.int .i64 0, .slice none 0 0, .slice none 0 0, .slice none 0 0, .slice none 0 0, .slice none 0 0]], []⟩ 8 (by kernel_rfl) (by kernel_rfl) (by kernel_rfl) (by kernel_rfl)) ?_
  intro W base args ds gs before hval0 hW hcnd _
  have hval : ∀ (j : Nat) t v, Try.f3.params[j]? = some t → args[j]? = some v → Value.okWide Try.prog W .any base t v := hval0
  have hW' := hW
  obtain ⟨p, q, hA0, hV, rfl, hfz, hnd⟩ := hW
  have hA : DataW.TrodAll enc Try.prog W 0 (fun _ => true) true Try.f3.params.toList args.toList ds p := hA0
  obtain ⟨rows, hr, hty⟩ := reads_all (n := 12) plain (fun j t v h1 h2 => hval j t v (by simpa using h1) (by simpa using h2)) hA
  have hA2 := hA
  rw [Try.params3] at hA2 hty
  obtain ⟨v0, vs0, d0, ds0, p0, q0, hargs, rfl, rfl, h0, r0⟩ := trodAll_cons hA2
  obtain ⟨rfl, rfl, rfl⟩ := trodAll_nil r0
  obtain rfl : args = #[v0] := by cases args; simp_all
  obtain ⟨rfl, rfl⟩ := trodVars_none hV
  simp only [List.append_nil] at hW'
  refine (walk hr hty).mono fun e W' ⟨he, hg⟩ => ?_
  subst he
  exact ⟨_, rfl, _, _, _, [], _, [], hW', trodAll_mk1 (shut_bool Try.underlying4 _), below_trodAll laidF hg plain hA, rfl, hg.frame _, fun h => by cases h⟩
theorem over : Rows.fnExactFormatRedactedRow.holds Try.pinned (OpenSpec.ofChange Rows.fnExactFormatRedactedSpec) :=
  OpenClaim.holds_of_wide 3 Try.f3 rfl rfl rfl rfl rfl rfl rfl ⟨rfl, rfl, rfl, rfl, rfl⟩ rfl rfl rfl rfl rfl named Try.func3 closed
    (of_decide_eq_true (by kernel_rfl)) (by unfold Func.isWrapper; first | (rw [if_pos (by decide +kernel)]; kernel_rfl) | (rw [if_neg (by decide +kernel)]; exact ⟨rfl, rfl⟩))
    (fun os started H enc _ => lifted os started H enc)
theorem proved : Rows.FnExactFormatRedactedSaid := over
end Go.Proofs.Ytjnnnnanipkcnaa.fnExactFormatRedacted
