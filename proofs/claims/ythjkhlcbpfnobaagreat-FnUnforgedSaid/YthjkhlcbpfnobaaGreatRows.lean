/-
  No cell of these rows narrows 'for every input' (looked for: loops, veiled, ifaces, maps, wideKeys, modest, calm, conditions, laid).
  DERIVED. THE GIVEN ROWS OF THIS SEAT. 8 by the template 'for every input the law returns true; each argument reads behind the call as it read before'; 0 by the template 'total and deterministic' (their statements: YthjkhlcbpfnobaaGreatTotals.lean).
  GIVEN WITH THE SEED: the statements are not yours to turn. If you find one false, say at which input.
  Laid BY PROGRAM, IN A SANDBOX (cutbox-rows.mjs): the forced cells as the released guide's own fill.sh prints them over the translation 7619f261ef0e4a86… (all of the seat's roots in one cut). By AI agents, Wed Nov 11 2026. No macro, syntax, notation, axiom, sorry.
-/
import Derived.Test.YthjkhlcbpfnobaaGreatChecked
import GoSem.Claim
import GoSem.ClaimJoined
import GoSem.ClaimMapViews
import Derived.JoinedTies
import Derived.KernelRfl
namespace Go.Proofs.YthjkhlcbpfnobaaGreat
/- THE CELL 'sum', in the pinned program and in every row, IS THE sha256 OF THE DUMP (.gsa) THAT YthjkhlcbpfnobaaGreatProg.lean LOADS. Nothing in Lean hashes anything: it is a label: what it is worth is what the hold of that sum in a sandbox is worth. -/
noncomputable def Tryz.pinned : Pinned := { name := "ythjkhlcbpfnobaagreat", sum := "7619f261ef0e4a86e27b6d4a38802bd0e807f9a899150beb5c93dc34ef5f0ae1", checked := Tryz.checked }
namespace Rows
def none {H : Type} : Left H := { results := [], args := [] }

/-- 'laws.FnEvents': WHATEVER THE INPUT: true; the input reads as it did. -/
def fnEventsSpec : ChangeSpec := { name := "fnEvents", fn := fun _ => fun
  | [d] => { results := [.lit (.bool true)], args := [d] }
  | _ => none }
def fnEventsRow : OpenClaim := { program := "ythjkhlcbpfnobaagreat", sum := "7619f261ef0e4a86e27b6d4a38802bd0e807f9a899150beb5c93dc34ef5f0ae1", func := "loop.example/g00597/laws.FnEvents", spec := "fnEvents", apart := false }
def FnEventsSaid : Prop := fnEventsRow.holds Tryz.pinned (OpenSpec.ofChange fnEventsSpec)

/-- ITS FALSE NEIGHBOUR: 'it returns false'. Refute it at one input. -/
def fnEventsWrong : ChangeSpec := { name := "fnEvents", fn := fun _ => fun
  | [d] => { results := [.lit (.bool false)], args := [d] }
  | _ => none }
def FnEventsWrongFalsely : Prop := fnEventsRow.holds Tryz.pinned (OpenSpec.ofChange fnEventsWrong)

/-- 'laws.FnFakes': WHATEVER THE INPUT: true; the input reads as it did. -/
def fnFakesSpec : ChangeSpec := { name := "fnFakes", fn := fun _ => fun
  | [d] => { results := [.lit (.bool true)], args := [d] }
  | _ => none }
def fnFakesRow : OpenClaim := { program := "ythjkhlcbpfnobaagreat", sum := "7619f261ef0e4a86e27b6d4a38802bd0e807f9a899150beb5c93dc34ef5f0ae1", func := "loop.example/g00597/laws.FnFakes", spec := "fnFakes", unfollowed := true, recurses := true, apart := false }
def FnFakesSaid : Prop := fnFakesRow.holds Tryz.pinned (OpenSpec.ofChange fnFakesSpec)

/-- ITS FALSE NEIGHBOUR: 'it returns false'. Refute it at one input. -/
def fnFakesWrong : ChangeSpec := { name := "fnFakes", fn := fun _ => fun
  | [d] => { results := [.lit (.bool false)], args := [d] }
  | _ => none }
def FnFakesWrongFalsely : Prop := fnFakesRow.holds Tryz.pinned (OpenSpec.ofChange fnFakesWrong)

/-- 'laws.FnBackdated': WHATEVER THE INPUT: true; the input reads as it did. -/
def fnBackdatedSpec : ChangeSpec := { name := "fnBackdated", fn := fun _ => fun
  | [d] => { results := [.lit (.bool true)], args := [d] }
  | _ => none }
def fnBackdatedRow : OpenClaim := { program := "ythjkhlcbpfnobaagreat", sum := "7619f261ef0e4a86e27b6d4a38802bd0e807f9a899150beb5c93dc34ef5f0ae1", func := "loop.example/g00597/laws.FnBackdated", spec := "fnBackdated", apart := false }
def FnBackdatedSaid : Prop := fnBackdatedRow.holds Tryz.pinned (OpenSpec.ofChange fnBackdatedSpec)

/-- ITS FALSE NEIGHBOUR: 'it returns false'. Refute it at one input. -/
def fnBackdatedWrong : ChangeSpec := { name := "fnBackdated", fn := fun _ => fun
  | [d] => { results := [.lit (.bool false)], args := [d] }
  | _ => none }
def FnBackdatedWrongFalsely : Prop := fnBackdatedRow.holds Tryz.pinned (OpenSpec.ofChange fnBackdatedWrong)

/-- 'laws.FnLiarsFound': WHATEVER THE INPUT: true; the input reads as it did. -/
def fnLiarsFoundSpec : ChangeSpec := { name := "fnLiarsFound", fn := fun _ => fun
  | [d] => { results := [.lit (.bool true)], args := [d] }
  | _ => none }
def fnLiarsFoundRow : OpenClaim := { program := "ythjkhlcbpfnobaagreat", sum := "7619f261ef0e4a86e27b6d4a38802bd0e807f9a899150beb5c93dc34ef5f0ae1", func := "loop.example/g00597/laws.FnLiarsFound", spec := "fnLiarsFound", unfollowed := true, recurses := true, apart := false }
def FnLiarsFoundSaid : Prop := fnLiarsFoundRow.holds Tryz.pinned (OpenSpec.ofChange fnLiarsFoundSpec)

/-- ITS FALSE NEIGHBOUR: 'it returns false'. Refute it at one input. -/
def fnLiarsFoundWrong : ChangeSpec := { name := "fnLiarsFound", fn := fun _ => fun
  | [d] => { results := [.lit (.bool false)], args := [d] }
  | _ => none }
def FnLiarsFoundWrongFalsely : Prop := fnLiarsFoundRow.holds Tryz.pinned (OpenSpec.ofChange fnLiarsFoundWrong)

/-- 'laws.FnUnforged': WHATEVER THE INPUT: true; the input reads as it did. -/
def fnUnforgedSpec : ChangeSpec := { name := "fnUnforged", fn := fun _ => fun
  | [d] => { results := [.lit (.bool true)], args := [d] }
  | _ => none }
def fnUnforgedRow : OpenClaim := { program := "ythjkhlcbpfnobaagreat", sum := "7619f261ef0e4a86e27b6d4a38802bd0e807f9a899150beb5c93dc34ef5f0ae1", func := "loop.example/g00597/laws.FnUnforged", spec := "fnUnforged", unfollowed := true, recurses := true, apart := false }
def FnUnforgedSaid : Prop := fnUnforgedRow.holds Tryz.pinned (OpenSpec.ofChange fnUnforgedSpec)

/-- ITS FALSE NEIGHBOUR: 'it returns false'. Refute it at one input. -/
def fnUnforgedWrong : ChangeSpec := { name := "fnUnforged", fn := fun _ => fun
  | [d] => { results := [.lit (.bool false)], args := [d] }
  | _ => none }
def FnUnforgedWrongFalsely : Prop := fnUnforgedRow.holds Tryz.pinned (OpenSpec.ofChange fnUnforgedWrong)

/-- 'laws.FnLasting': WHATEVER THE INPUT: true; the input reads as it did. -/
def fnLastingSpec : ChangeSpec := { name := "fnLasting", fn := fun _ => fun
  | [d] => { results := [.lit (.bool true)], args := [d] }
  | _ => none }
def fnLastingRow : OpenClaim := { program := "ythjkhlcbpfnobaagreat", sum := "7619f261ef0e4a86e27b6d4a38802bd0e807f9a899150beb5c93dc34ef5f0ae1", func := "loop.example/g00597/laws.FnLasting", spec := "fnLasting", unfollowed := true, recurses := true, apart := false }
def FnLastingSaid : Prop := fnLastingRow.holds Tryz.pinned (OpenSpec.ofChange fnLastingSpec)

/-- ITS FALSE NEIGHBOUR: 'it returns false'. Refute it at one input. -/
def fnLastingWrong : ChangeSpec := { name := "fnLasting", fn := fun _ => fun
  | [d] => { results := [.lit (.bool false)], args := [d] }
  | _ => none }
def FnLastingWrongFalsely : Prop := fnLastingRow.holds Tryz.pinned (OpenSpec.ofChange fnLastingWrong)

/-- 'laws.FnTop': WHATEVER THE INPUT: true; the input reads as it did. -/
def fnTopSpec : ChangeSpec := { name := "fnTop", fn := fun _ => fun
  | [d] => { results := [.lit (.bool true)], args := [d] }
  | _ => none }
def fnTopRow : OpenClaim := { program := "ythjkhlcbpfnobaagreat", sum := "7619f261ef0e4a86e27b6d4a38802bd0e807f9a899150beb5c93dc34ef5f0ae1", func := "loop.example/g00597/laws.FnTop", spec := "fnTop", unfollowed := true, recurses := true, apart := false }
def FnTopSaid : Prop := fnTopRow.holds Tryz.pinned (OpenSpec.ofChange fnTopSpec)

/-- ITS FALSE NEIGHBOUR: 'it returns false'. Refute it at one input. -/
def fnTopWrong : ChangeSpec := { name := "fnTop", fn := fun _ => fun
  | [d] => { results := [.lit (.bool false)], args := [d] }
  | _ => none }
def FnTopWrongFalsely : Prop := fnTopRow.holds Tryz.pinned (OpenSpec.ofChange fnTopWrong)

/-- 'laws.FnSmall': WHATEVER THE INPUT: true; the input reads as it did. -/
def fnSmallSpec : ChangeSpec := { name := "fnSmall", fn := fun _ => fun
  | [d] => { results := [.lit (.bool true)], args := [d] }
  | _ => none }
def fnSmallRow : OpenClaim := { program := "ythjkhlcbpfnobaagreat", sum := "7619f261ef0e4a86e27b6d4a38802bd0e807f9a899150beb5c93dc34ef5f0ae1", func := "loop.example/g00597/laws.FnSmall", spec := "fnSmall", apart := false }
def FnSmallSaid : Prop := fnSmallRow.holds Tryz.pinned (OpenSpec.ofChange fnSmallSpec)

/-- ITS FALSE NEIGHBOUR: 'it returns false'. Refute it at one input. -/
def fnSmallWrong : ChangeSpec := { name := "fnSmall", fn := fun _ => fun
  | [d] => { results := [.lit (.bool false)], args := [d] }
  | _ => none }
def FnSmallWrongFalsely : Prop := fnSmallRow.holds Tryz.pinned (OpenSpec.ofChange fnSmallWrong)

/- THE SECOND FORM. 'bulk': how many values and letters a reading holds, each counted each time it is reached (what is shared counts as often as it is met; a slice's spare places count too). A statement '..UptoSaid' is the law's where the arguments, and the package variables that the reading takes, are together of bulk at most 1048576: NARROWER than '..Said'. Prove '..Said' where nothing that the law and all that it calls make is longer than what came in: it says more and counts as full. Else prove '..UptoSaid'. A law counts once. -/
mutual
def uptoBulk {H : Type} : DataW H → Nat
  | .lit (.string bytes) => bytes.length + 1
  | .lit _ => 1
  | .nil => 1
  | .ptr d => uptoBulk d + 1
  | .slice elems spare => uptoBulkAll elems + uptoBulkAll spare + 1
  | .agg parts => uptoBulkAll parts + 1
  | .iface _ d => uptoBulk d + 1
  | .map entries => uptoBulkEntries entries + 1
  | .held _ => 1
def uptoBulkAll {H : Type} : List (DataW H) → Nat
  | [] => 0
  | d :: r => uptoBulk d + uptoBulkAll r
def uptoBulkEntries {H : Type} : List (Lit × DataW H) → Nat
  | [] => 0
  | x :: r => uptoBulkEntry x + uptoBulkEntries r
def uptoBulkEntry {H : Type} : Lit × DataW H → Nat
  | (.string bytes, d) => bytes.length + uptoBulk d + 1
  | (_, d) => uptoBulk d + 1
 end
def uptoSmall : (H : Type) → List (DataW H) → Bool := fun _ ds => decide (uptoBulkAll ds ≤ 1048576)
def OpenSpec.upto (s : _root_.Go.ChangeSpec) : _root_.Go.OpenSpec := { _root_.Go.OpenSpec.ofChange s with cond := some uptoSmall }

/-- 'laws.FnEvents', WHERE WHAT IT READS IS OF BULK AT MOST 1048576: true; the input reads as it did. -/
def fnEventsUptoRow : OpenClaim := { program := "ythjkhlcbpfnobaagreat", sum := "7619f261ef0e4a86e27b6d4a38802bd0e807f9a899150beb5c93dc34ef5f0ae1", func := "loop.example/g00597/laws.FnEvents", spec := "fnEvents", apart := false, narrowed := true }
def FnEventsUptoSaid : Prop := fnEventsUptoRow.holds Tryz.pinned (OpenSpec.upto fnEventsSpec)

/-- 'laws.FnFakes', WHERE WHAT IT READS IS OF BULK AT MOST 1048576: true; the input reads as it did. -/
def fnFakesUptoRow : OpenClaim := { program := "ythjkhlcbpfnobaagreat", sum := "7619f261ef0e4a86e27b6d4a38802bd0e807f9a899150beb5c93dc34ef5f0ae1", func := "loop.example/g00597/laws.FnFakes", spec := "fnFakes", unfollowed := true, recurses := true, apart := false, narrowed := true }
def FnFakesUptoSaid : Prop := fnFakesUptoRow.holds Tryz.pinned (OpenSpec.upto fnFakesSpec)

/-- 'laws.FnBackdated', WHERE WHAT IT READS IS OF BULK AT MOST 1048576: true; the input reads as it did. -/
def fnBackdatedUptoRow : OpenClaim := { program := "ythjkhlcbpfnobaagreat", sum := "7619f261ef0e4a86e27b6d4a38802bd0e807f9a899150beb5c93dc34ef5f0ae1", func := "loop.example/g00597/laws.FnBackdated", spec := "fnBackdated", apart := false, narrowed := true }
def FnBackdatedUptoSaid : Prop := fnBackdatedUptoRow.holds Tryz.pinned (OpenSpec.upto fnBackdatedSpec)

/-- 'laws.FnLiarsFound', WHERE WHAT IT READS IS OF BULK AT MOST 1048576: true; the input reads as it did. -/
def fnLiarsFoundUptoRow : OpenClaim := { program := "ythjkhlcbpfnobaagreat", sum := "7619f261ef0e4a86e27b6d4a38802bd0e807f9a899150beb5c93dc34ef5f0ae1", func := "loop.example/g00597/laws.FnLiarsFound", spec := "fnLiarsFound", unfollowed := true, recurses := true, apart := false, narrowed := true }
def FnLiarsFoundUptoSaid : Prop := fnLiarsFoundUptoRow.holds Tryz.pinned (OpenSpec.upto fnLiarsFoundSpec)

/-- 'laws.FnUnforged', WHERE WHAT IT READS IS OF BULK AT MOST 1048576: true; the input reads as it did. -/
def fnUnforgedUptoRow : OpenClaim := { program := "ythjkhlcbpfnobaagreat", sum := "7619f261ef0e4a86e27b6d4a38802bd0e807f9a899150beb5c93dc34ef5f0ae1", func := "loop.example/g00597/laws.FnUnforged", spec := "fnUnforged", unfollowed := true, recurses := true, apart := false, narrowed := true }
def FnUnforgedUptoSaid : Prop := fnUnforgedUptoRow.holds Tryz.pinned (OpenSpec.upto fnUnforgedSpec)

/-- 'laws.FnLasting', WHERE WHAT IT READS IS OF BULK AT MOST 1048576: true; the input reads as it did. -/
def fnLastingUptoRow : OpenClaim := { program := "ythjkhlcbpfnobaagreat", sum := "7619f261ef0e4a86e27b6d4a38802bd0e807f9a899150beb5c93dc34ef5f0ae1", func := "loop.example/g00597/laws.FnLasting", spec := "fnLasting", unfollowed := true, recurses := true, apart := false, narrowed := true }
def FnLastingUptoSaid : Prop := fnLastingUptoRow.holds Tryz.pinned (OpenSpec.upto fnLastingSpec)

/-- 'laws.FnTop', WHERE WHAT IT READS IS OF BULK AT MOST 1048576: true; the input reads as it did. -/
def fnTopUptoRow : OpenClaim := { program := "ythjkhlcbpfnobaagreat", sum := "7619f261ef0e4a86e27b6d4a38802bd0e807f9a899150beb5c93dc34ef5f0ae1", func := "loop.example/g00597/laws.FnTop", spec := "fnTop", unfollowed := true, recurses := true, apart := false, narrowed := true }
def FnTopUptoSaid : Prop := fnTopUptoRow.holds Tryz.pinned (OpenSpec.upto fnTopSpec)

/-- 'laws.FnSmall', WHERE WHAT IT READS IS OF BULK AT MOST 1048576: true; the input reads as it did. -/
def fnSmallUptoRow : OpenClaim := { program := "ythjkhlcbpfnobaagreat", sum := "7619f261ef0e4a86e27b6d4a38802bd0e807f9a899150beb5c93dc34ef5f0ae1", func := "loop.example/g00597/laws.FnSmall", spec := "fnSmall", apart := false, narrowed := true }
def FnSmallUptoSaid : Prop := fnSmallUptoRow.holds Tryz.pinned (OpenSpec.upto fnSmallSpec)

end Rows
end Go.Proofs.YthjkhlcbpfnobaaGreat
