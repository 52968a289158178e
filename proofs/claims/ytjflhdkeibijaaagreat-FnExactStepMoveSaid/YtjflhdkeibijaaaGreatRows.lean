/-
  No cell of these rows narrows 'for every input' (looked for: loops, veiled, ifaces, maps, wideKeys, modest, calm, conditions, laid).
  DERIVED. THE GIVEN ROWS OF THIS SEAT. 4 by the template 'for every input the law returns true; each argument reads behind the call as it read before'; 0 by the template 'total and deterministic' (their statements: YtjflhdkeibijaaaGreatTotals.lean).
  GIVEN WITH THE SEED: the statements are not yours to turn. If you find one false, say at which input.
  Laid BY PROGRAM, IN A SANDBOX (cutbox-rows.mjs): the forced cells as the released guide's own fill.sh prints them over the translation 3b67ded9feda4517… (all of the seat's roots in one cut). By AI agents, Wed Nov 11 2026. No macro, syntax, notation, axiom, sorry.
-/
import Derived.Test.YtjflhdkeibijaaaGreatChecked
import GoSem.Claim
import GoSem.ClaimJoined
import GoSem.ClaimMapViews
import Derived.JoinedTies
import Derived.KernelRfl
namespace Go.Proofs.YtjflhdkeibijaaaGreat
/- THE CELL 'sum', in the pinned program and in every row, IS THE sha256 OF THE DUMP (.gsa) THAT YtjflhdkeibijaaaGreatProg.lean LOADS. Nothing in Lean hashes anything: it is a label: what it is worth is what the hold of that sum in a sandbox is worth. -/
noncomputable def Tryz.pinned : Pinned := { name := "ytjflhdkeibijaaagreat", sum := "3b67ded9feda45172979aee585052619643693225bae98c9438f62e0af1a5981", checked := Tryz.checked }
namespace Rows
def none {H : Type} : Left H := { results := [], args := [] }

/-- 'laws.FnExactStepForget': WHATEVER THE INPUT: true; the input reads as it did. -/
def fnExactStepForgetSpec : ChangeSpec := { name := "fnExactStepForget", fn := fun _ => fun
  | [d1, d2] => { results := [.lit (.bool true)], args := [d1, d2] }
  | _ => none }
def fnExactStepForgetRow : OpenClaim := { program := "ytjflhdkeibijaaagreat", sum := "3b67ded9feda45172979aee585052619643693225bae98c9438f62e0af1a5981", func := "loop.example/g00597/laws.FnExactStepForget", spec := "fnExactStepForget", apart := false }
def FnExactStepForgetSaid : Prop := fnExactStepForgetRow.holds Tryz.pinned (OpenSpec.ofChange fnExactStepForgetSpec)

/-- ITS FALSE NEIGHBOUR: 'it returns false'. Refute it at one input. -/
def fnExactStepForgetWrong : ChangeSpec := { name := "fnExactStepForget", fn := fun _ => fun
  | [d1, d2] => { results := [.lit (.bool false)], args := [d1, d2] }
  | _ => none }
def FnExactStepForgetWrongFalsely : Prop := fnExactStepForgetRow.holds Tryz.pinned (OpenSpec.ofChange fnExactStepForgetWrong)

/-- 'laws.FnExactStepBackdate': WHATEVER THE INPUT: true; the input reads as it did. -/
def fnExactStepBackdateSpec : ChangeSpec := { name := "fnExactStepBackdate", fn := fun _ => fun
  | [d1, d2, d3] => { results := [.lit (.bool true)], args := [d1, d2, d3] }
  | _ => none }
def fnExactStepBackdateRow : OpenClaim := { program := "ytjflhdkeibijaaagreat", sum := "3b67ded9feda45172979aee585052619643693225bae98c9438f62e0af1a5981", func := "loop.example/g00597/laws.FnExactStepBackdate", spec := "fnExactStepBackdate", apart := false }
def FnExactStepBackdateSaid : Prop := fnExactStepBackdateRow.holds Tryz.pinned (OpenSpec.ofChange fnExactStepBackdateSpec)

/-- ITS FALSE NEIGHBOUR: 'it returns false'. Refute it at one input. -/
def fnExactStepBackdateWrong : ChangeSpec := { name := "fnExactStepBackdate", fn := fun _ => fun
  | [d1, d2, d3] => { results := [.lit (.bool false)], args := [d1, d2, d3] }
  | _ => none }
def FnExactStepBackdateWrongFalsely : Prop := fnExactStepBackdateRow.holds Tryz.pinned (OpenSpec.ofChange fnExactStepBackdateWrong)

/-- 'laws.FnExactStepMove': WHATEVER THE INPUT: true; the input reads as it did. -/
def fnExactStepMoveSpec : ChangeSpec := { name := "fnExactStepMove", fn := fun _ => fun
  | [d1, d2, d3, d4] => { results := [.lit (.bool true)], args := [d1, d2, d3, d4] }
  | _ => none }
def fnExactStepMoveRow : OpenClaim := { program := "ytjflhdkeibijaaagreat", sum := "3b67ded9feda45172979aee585052619643693225bae98c9438f62e0af1a5981", func := "loop.example/g00597/laws.FnExactStepMove", spec := "fnExactStepMove", apart := false }
def FnExactStepMoveSaid : Prop := fnExactStepMoveRow.holds Tryz.pinned (OpenSpec.ofChange fnExactStepMoveSpec)

/-- ITS FALSE NEIGHBOUR: 'it returns false'. Refute it at one input. -/
def fnExactStepMoveWrong : ChangeSpec := { name := "fnExactStepMove", fn := fun _ => fun
  | [d1, d2, d3, d4] => { results := [.lit (.bool false)], args := [d1, d2, d3, d4] }
  | _ => none }
def FnExactStepMoveWrongFalsely : Prop := fnExactStepMoveRow.holds Tryz.pinned (OpenSpec.ofChange fnExactStepMoveWrong)

/-- 'laws.FnExactStepRenew': WHATEVER THE INPUT: true; the input reads as it did. -/
def fnExactStepRenewSpec : ChangeSpec := { name := "fnExactStepRenew", fn := fun _ => fun
  | [d1, d2, d3, d4] => { results := [.lit (.bool true)], args := [d1, d2, d3, d4] }
  | _ => none }
def fnExactStepRenewRow : OpenClaim := { program := "ytjflhdkeibijaaagreat", sum := "3b67ded9feda45172979aee585052619643693225bae98c9438f62e0af1a5981", func := "loop.example/g00597/laws.FnExactStepRenew", spec := "fnExactStepRenew", apart := false }
def FnExactStepRenewSaid : Prop := fnExactStepRenewRow.holds Tryz.pinned (OpenSpec.ofChange fnExactStepRenewSpec)

/-- ITS FALSE NEIGHBOUR: 'it returns false'. Refute it at one input. -/
def fnExactStepRenewWrong : ChangeSpec := { name := "fnExactStepRenew", fn := fun _ => fun
  | [d1, d2, d3, d4] => { results := [.lit (.bool false)], args := [d1, d2, d3, d4] }
  | _ => none }
def FnExactStepRenewWrongFalsely : Prop := fnExactStepRenewRow.holds Tryz.pinned (OpenSpec.ofChange fnExactStepRenewWrong)

/- THE SECOND FORM. 'bulk': how many values and letters a reading holds, each counted each time it is reached (what is shared counts as often as it is met; a slice's spare places count too). A statement '..UptoSaid' is the law's where the arguments, and the package variables that the reading takes, are together of bulk at most 1048576: NARROWER than '..Said'. Prove '..Said' where nothing that the law and all that it calls make is longer than what came in: it says more and counts as full. Else prove '..UptoSaid'. A law counts once. -/
mutual
def uptoBulk {H : Type} : DataW H → Nat
  | .lit (.string bytes) => bytes.length + 1
  | .lit _ => 1
  | .nil => 1
  | .ptr d => uptoBulk d + 1
  | .slice elems spare => uptoBulkAll elems + uptoBulkAll spare + 1
  | .agg parts => uptoBulkAll parts + 1
  | .iface _ d => uptoBulk d + 1
  | .map entries => uptoBulkEntries entries + 1
  | .held _ => 1
def uptoBulkAll {H : Type} : List (DataW H) → Nat
  | [] => 0
  | d :: r => uptoBulk d + uptoBulkAll r
def uptoBulkEntries {H : Type} : List (Lit × DataW H) → Nat
  | [] => 0
  | x :: r => uptoBulkEntry x + uptoBulkEntries r
def uptoBulkEntry {H : Type} : Lit × DataW H → Nat
  | (.string bytes, d) => bytes.length + uptoBulk d + 1
  | (_, d) => uptoBulk d + 1
 end
def uptoSmall : (H : Type) → List (DataW H) → Bool := fun _ ds => decide (uptoBulkAll ds ≤ 1048576)
def OpenSpec.upto (s : _root_.Go.ChangeSpec) : _root_.Go.OpenSpec := { _root_.Go.OpenSpec.ofChange s with cond := some uptoSmall }

/-- 'laws.FnExactStepForget', WHERE WHAT IT READS IS OF BULK AT MOST 1048576: true; the input reads as it did. -/
def fnExactStepForgetUptoRow : OpenClaim := { program := "ytjflhdkeibijaaagreat", sum := "3b67ded9feda45172979aee585052619643693225bae98c9438f62e0af1a5981", func := "loop.example/g00597/laws.FnExactStepForget", spec := "fnExactStepForget", apart := false, narrowed := true }
def FnExactStepForgetUptoSaid : Prop := fnExactStepForgetUptoRow.holds Tryz.pinned (OpenSpec.upto fnExactStepForgetSpec)

/-- 'laws.FnExactStepBackdate', WHERE WHAT IT READS IS OF BULK AT MOST 1048576: true; the input reads as it did. -/
def fnExactStepBackdateUptoRow : OpenClaim := { program := "ytjflhdkeibijaaagreat", sum := "3b67ded9feda45172979aee585052619643693225bae98c9438f62e0af1a5981", func := "loop.example/g00597/laws.FnExactStepBackdate", spec := "fnExactStepBackdate", apart := false, narrowed := true }
def FnExactStepBackdateUptoSaid : Prop := fnExactStepBackdateUptoRow.holds Tryz.pinned (OpenSpec.upto fnExactStepBackdateSpec)

/-- 'laws.FnExactStepMove', WHERE WHAT IT READS IS OF BULK AT MOST 1048576: true; the input reads as it did. -/
def fnExactStepMoveUptoRow : OpenClaim := { program := "ytjflhdkeibijaaagreat", sum := "3b67ded9feda45172979aee585052619643693225bae98c9438f62e0af1a5981", func := "loop.example/g00597/laws.FnExactStepMove", spec := "fnExactStepMove", apart := false, narrowed := true }
def FnExactStepMoveUptoSaid : Prop := fnExactStepMoveUptoRow.holds Tryz.pinned (OpenSpec.upto fnExactStepMoveSpec)

/-- 'laws.FnExactStepRenew', WHERE WHAT IT READS IS OF BULK AT MOST 1048576: true; the input reads as it did. -/
def fnExactStepRenewUptoRow : OpenClaim := { program := "ytjflhdkeibijaaagreat", sum := "3b67ded9feda45172979aee585052619643693225bae98c9438f62e0af1a5981", func := "loop.example/g00597/laws.FnExactStepRenew", spec := "fnExactStepRenew", apart := false, narrowed := true }
def FnExactStepRenewUptoSaid : Prop := fnExactStepRenewUptoRow.holds Tryz.pinned (OpenSpec.upto fnExactStepRenewSpec)

end Rows
end Go.Proofs.YtjflhdkeibijaaaGreat
