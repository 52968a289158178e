/- The given statement Rows.FnExactFaultOfSaid: the law answers true for every input. No condition. -/
import Derived.Test.YtfhmpplolpejnaaGreatRows
import Derived.Test.YtfhmpplolpejnaaGreatDd
import Derived.Test.YtfhmpplolpejnaaGreatE
import Derived.Test.YtfhmpplolpejnaaGreatC
import Derived.Test.YtfhmpplolpejnaaGreatFx
import Derived.WalkKit
import Derived.Below
import Derived.ProofKit
import Derived.OpenShut
namespace Go.Proofs.YtfhmpplolpejnaaGreat.fnExactFaultOf
open Go.ChangeShapes Go.WideShapes Go.ChangeAt Go.RowKit Go.Vm Go.Mo
set_option linter.unusedVariables false
set_option linter.unusedSimpArgs false
set_option maxRecDepth 100000
theorem own : ownKnob Tryz.prog.godebug = none := by kernel_rfl
theorem plain : W0 Tryz.prog 12 Tryz.f9.params.toList = true := by kernel_rfl
theorem x3 : Tryz.f9.params.all (Tryz.prog.readableRec ·) = true := by kernel_rfl
theorem x4 : (Rows.fnExactFaultOfRow.inPlace == Tryz.prog.inPlace 9) = true := by kernel_rfl
theorem x5 : (Rows.fnExactFaultOfRow.unfollowed == Tryz.prog.unfollowed 9) = true := by kernel_rfl
theorem x6 : (Rows.fnExactFaultOfRow.recurses == Tryz.prog.recurses 9) = true := by kernel_rfl
theorem x7 : (Rows.fnExactFaultOfRow.named == Tryz.prog.varsNamed 9) = true := by kernel_rfl
theorem x8 : (Rows.fnExactFaultOfRow.loops == (Tryz.f9.params.toList ++ Rows.fnExactFaultOfSpec.plain.varTypes Tryz.prog).any (Tryz.prog.loopsFrom ·)) = true := by kernel_rfl
theorem x9 : (Rows.fnExactFaultOfRow.wideKeys == (Tryz.f9.params.toList ++ Rows.fnExactFaultOfSpec.plain.varTypes Tryz.prog ++ Tryz.f9.resultTypes.toList).any (Tryz.prog.wideKeysFrom ·)) = true := by kernel_rfl
theorem x10 : (Rows.fnExactFaultOfRow.veiled == (Tryz.f9.params.toList ++ Rows.fnExactFaultOfSpec.plain.varTypes Tryz.prog ++ Tryz.f9.resultTypes.toList).any (Tryz.prog.veiledRec ·)) = true := by kernel_rfl
theorem x11 : (Rows.fnExactFaultOfRow.maps == (Tryz.f9.params.toList ++ Rows.fnExactFaultOfSpec.plain.varTypes Tryz.prog).any (Tryz.prog.mapsRec ·)) = true := by kernel_rfl
theorem x12 : (Rows.fnExactFaultOfRow.ifaces == (Tryz.f9.params.toList ++ Rows.fnExactFaultOfSpec.plain.varTypes Tryz.prog).any (Tryz.prog.ifacesRec ·)) = true := by kernel_rfl
theorem named : Tryz.prog.funcNamed Rows.fnExactFaultOfRow.func = some 9 := by kernel_rfl
theorem closed : joinedFacts Tryz.prog 9 Tryz.f9 Rows.fnExactFaultOfSpec Rows.fnExactFaultOfRow = true := by
  unfold joinedFacts
  rw [sO, sn, x3, x4, x5, x6, x7, x8, x9, x10, x11, x12]
  kernel_rfl
theorem walk {w : World} {vals : List Value} {rows : List (List Vm.D)} (hv : Z3 (Reads w) vals rows) (ht : Fo Tryz.prog 12 [74] rows) :
    Calls Tryz.prog 9 vals.toArray w fun e w' => e = .returned (.bool true) ∧ Below w.heap.size w w' := by
  obtain ⟨r0, rs0, rfl, h0, ht0⟩ := Br ht
  obtain rfl := vD ht0
  obtain ⟨a0, rfl, t0⟩ := pD (n := 1) h0
  have hb : xB a0 = true := by simp (maxDischargeDepth := 12) [xB, Ji, JC, QV, QC, yT, zo, Qz, zg, yI, yx, z5, qG, yb, Kd, Jd, zk, Kh, Jj, Qy, QU, zx, KV, yq, zl, Ka, Jm, ze, Um, Vl, VA, WV, Pc, RU, UN, Rk, kF, Ph, Rc, NL, PW, Sh, U3, S4, Si, TQ, Vx, VN, Ss, SW, PS, Rx, SU, TO, GQ, t0]
  have hs := PR a0 t0
  rw [hb] at hs
  exact Ge hs hv
theorem lifted (os : Os) (started : os.Started) (H : Type) (enc : TypeId × Value → H) :
    ReturnsInHanded {} Tryz.checked os 9 .any (Rows.fnExactFaultOfSpec.pre6 enc Tryz.prog Tryz.f9 Rows.fnExactFaultOfRow.domain false) (Rows.fnExactFaultOfSpec.post enc Tryz.prog Tryz.f9 false true false false) := by
  refine returnsInHanded_of_change (C := Tryz.checked) own started (by kernel_rfl) Tryz.func9
    (ChangeSpec.witness6 (enc := enc) (C := Tryz.checked) false ⟨#[], #[.agg #[.slice none 0 0, .slice none 0 0, .slice none 0 0, .int .i64 0, .int .i64 0, .slice none 0 0, .slice none 0 0, .slice none 0 0, .slice none 0 0, .slice none 0 0, .int .i64 0, .slice none 0 0]], []⟩ 8 (by kernel_rfl) (by kernel_rfl) (by kernel_rfl) (by kernel_rfl)) ?_
  intro W base args ds gs before hval0 hW hcnd _
  have hval : ∀ (j : Nat) t v, Tryz.f9.params[j]? = some t → args[j]? = some v → Value.okWide Tryz.prog W .any base t v := hval0
  have hW' := hW
  obtain ⟨p, q, hA0, hV, rfl, hfz, hnd⟩ := hW
  have hA : DataW.TrodAll enc Tryz.prog W 0 (fun _ => true) true Tryz.f9.params.toList args.toList ds p := hA0
  obtain ⟨rows, hr, hty⟩ := Fq (n := 12) plain (fun j t v h1 h2 => hval j t v (by simpa using h1) (by simpa using h2)) hA
  have hA2 := hA
  rw [Tryz.params9] at hA2 hty
  obtain ⟨v0, vs0, d0, ds0, p0, q0, hargs, rfl, rfl, h0, r0⟩ := trodAll_cons hA2
  obtain ⟨rfl, rfl, rfl⟩ := trodAll_nil r0
  obtain rfl : args = #[v0] := by cases args; simp_all
  obtain ⟨rfl, rfl⟩ := trodVars_none hV
  simp only [List.append_nil] at hW'
  refine (walk hr hty).mono fun e W' ⟨he, hg⟩ => ?_
  subst he
  exact ⟨_, rfl, _, _, _, [], _, [], hW', trodAll_mk1 (shut_bool Tryz.underlying4 _), Pb sO hg plain hA, rfl, hg.frame _, fun h => by cases h⟩
theorem Hz : Rows.fnExactFaultOfRow.holds Tryz.pinned (OpenSpec.ofChange Rows.fnExactFaultOfSpec) :=
  OpenClaim.holds_of_wide 9 Tryz.f9 rfl rfl rfl rfl rfl rfl rfl ⟨rfl, rfl, rfl, rfl, rfl⟩ rfl rfl rfl rfl rfl named Tryz.func9 closed
    (of_decide_eq_true (by kernel_rfl)) (by unfold Func.isWrapper; first | (rw [if_pos (by decide +kernel)]; kernel_rfl) | (rw [if_neg (by decide +kernel)]; exact ⟨rfl, rfl⟩))
    (fun os started H enc _ => lifted os started H enc)
theorem proved : Rows.FnExactFaultOfSaid := Hz
end Go.Proofs.YtfhmpplolpejnaaGreat.fnExactFaultOf
