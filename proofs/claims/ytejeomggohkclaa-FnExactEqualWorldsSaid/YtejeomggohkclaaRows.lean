/-
  No cell of these rows narrows 'for every input' (looked for: loops, veiled, ifaces, maps, wideKeys, modest, calm, conditions, laid).
  DERIVED. THE GIVEN ROWS OF THIS SEAT. 12 by the template 'for every input the law returns true; each argument reads behind the call as it read before'; 0 by the template 'total and deterministic' (their statements: YtejeomggohkclaaTotals.lean).
  GIVEN WITH THE SEED: the statements are not yours to turn. If you find one false, say at which input.
  Laid BY PROGRAM, IN A SANDBOX (cutbox-rows.mjs): the forced cells as the released guide's own fill.sh prints them over the translation 74c3cfa949defb1e… (all of the seat's roots in one cut). By AI agents, Wed Nov 11 2026. No macro, syntax, notation, axiom, sorry.
-/
import Derived.Test.YtejeomggohkclaaChecked
import GoSem.Claim
import GoSem.ClaimJoined
import GoSem.ClaimMapViews
import Derived.JoinedTies
import Derived.KernelRfl
namespace Go.Proofs.Ytejeomggohkclaa
/- THE CELL 'sum', in the pinned program and in every row, IS THE sha256 OF THE DUMP (.gsa) THAT YtejeomggohkclaaProg.lean LOADS. Nothing in Lean hashes anything: it is a label: what it is worth is what the hold of that sum in a sandbox is worth. -/
noncomputable def Try.pinned : Pinned := { name := "ytejeomggohkclaa", sum := "74c3cfa949defb1ec055874718632251817d6e4f2ec5d5009783ec24963fd001", checked := Try.checked }
namespace Rows
def none {H : Type} : Left H := { results := [], args := [] }

/-- 'laws.FnExactIsHonest': WHATEVER THE INPUT: true; the input reads as it did. -/
def fnExactIsHonestSpec : ChangeSpec := { name := "fnExactIsHonest", fn := fun _ => fun
  | [d] => { results := [.lit (.bool true)], args := [d] }
  | _ => none }
def fnExactIsHonestRow : OpenClaim := { program := "ytejeomggohkclaa", sum := "74c3cfa949defb1ec055874718632251817d6e4f2ec5d5009783ec24963fd001", func := "loop.example/g00597/laws.FnExactIsHonest", spec := "fnExactIsHonest", apart := false }
def FnExactIsHonestSaid : Prop := fnExactIsHonestRow.holds Try.pinned (OpenSpec.ofChange fnExactIsHonestSpec)

/-- ITS FALSE NEIGHBOUR: 'it returns false'. Refute it at one input. -/
def fnExactIsHonestWrong : ChangeSpec := { name := "fnExactIsHonest", fn := fun _ => fun
  | [d] => { results := [.lit (.bool false)], args := [d] }
  | _ => none }
def FnExactIsHonestWrongFalsely : Prop := fnExactIsHonestRow.holds Try.pinned (OpenSpec.ofChange fnExactIsHonestWrong)

/-- 'laws.FnExactFormatRedacted': WHATEVER THE INPUT: true; the input reads as it did. -/
def fnExactFormatRedactedSpec : ChangeSpec := { name := "fnExactFormatRedacted", fn := fun _ => fun
  | [d] => { results := [.lit (.bool true)], args := [d] }
  | _ => none }
def fnExactFormatRedactedRow : OpenClaim := { program := "ytejeomggohkclaa", sum := "74c3cfa949defb1ec055874718632251817d6e4f2ec5d5009783ec24963fd001", func := "loop.example/g00597/laws.FnExactFormatRedacted", spec := "fnExactFormatRedacted", apart := false }
def FnExactFormatRedactedSaid : Prop := fnExactFormatRedactedRow.holds Try.pinned (OpenSpec.ofChange fnExactFormatRedactedSpec)

/-- ITS FALSE NEIGHBOUR: 'it returns false'. Refute it at one input. -/
def fnExactFormatRedactedWrong : ChangeSpec := { name := "fnExactFormatRedacted", fn := fun _ => fun
  | [d] => { results := [.lit (.bool false)], args := [d] }
  | _ => none }
def FnExactFormatRedactedWrongFalsely : Prop := fnExactFormatRedactedRow.holds Try.pinned (OpenSpec.ofChange fnExactFormatRedactedWrong)

/-- 'laws.FnExactIsStolen': WHATEVER THE INPUT: true; the input reads as it did. -/
def fnExactIsStolenSpec : ChangeSpec := { name := "fnExactIsStolen", fn := fun _ => fun
  | [d1, d2] => { results := [.lit (.bool true)], args := [d1, d2] }
  | _ => none }
def fnExactIsStolenRow : OpenClaim := { program := "ytejeomggohkclaa", sum := "74c3cfa949defb1ec055874718632251817d6e4f2ec5d5009783ec24963fd001", func := "loop.example/g00597/laws.FnExactIsStolen", spec := "fnExactIsStolen", apart := false }
def FnExactIsStolenSaid : Prop := fnExactIsStolenRow.holds Try.pinned (OpenSpec.ofChange fnExactIsStolenSpec)

/-- ITS FALSE NEIGHBOUR: 'it returns false'. Refute it at one input. -/
def fnExactIsStolenWrong : ChangeSpec := { name := "fnExactIsStolen", fn := fun _ => fun
  | [d1, d2] => { results := [.lit (.bool false)], args := [d1, d2] }
  | _ => none }
def FnExactIsStolenWrongFalsely : Prop := fnExactIsStolenRow.holds Try.pinned (OpenSpec.ofChange fnExactIsStolenWrong)

/-- 'laws.FnExactStrandSize': WHATEVER THE INPUT: true; the input reads as it did. -/
def fnExactStrandSizeSpec : ChangeSpec := { name := "fnExactStrandSize", fn := fun _ => fun
  | [d] => { results := [.lit (.bool true)], args := [d] }
  | _ => none }
def fnExactStrandSizeRow : OpenClaim := { program := "ytejeomggohkclaa", sum := "74c3cfa949defb1ec055874718632251817d6e4f2ec5d5009783ec24963fd001", func := "loop.example/g00597/laws.FnExactStrandSize", spec := "fnExactStrandSize", apart := false }
def FnExactStrandSizeSaid : Prop := fnExactStrandSizeRow.holds Try.pinned (OpenSpec.ofChange fnExactStrandSizeSpec)

/-- ITS FALSE NEIGHBOUR: 'it returns false'. Refute it at one input. -/
def fnExactStrandSizeWrong : ChangeSpec := { name := "fnExactStrandSize", fn := fun _ => fun
  | [d] => { results := [.lit (.bool false)], args := [d] }
  | _ => none }
def FnExactStrandSizeWrongFalsely : Prop := fnExactStrandSizeRow.holds Try.pinned (OpenSpec.ofChange fnExactStrandSizeWrong)

/-- 'laws.FnExactLongestPath': WHATEVER THE INPUT: true; the input reads as it did. -/
def fnExactLongestPathSpec : ChangeSpec := { name := "fnExactLongestPath", fn := fun _ => fun
  | [d] => { results := [.lit (.bool true)], args := [d] }
  | _ => none }
def fnExactLongestPathRow : OpenClaim := { program := "ytejeomggohkclaa", sum := "74c3cfa949defb1ec055874718632251817d6e4f2ec5d5009783ec24963fd001", func := "loop.example/g00597/laws.FnExactLongestPath", spec := "fnExactLongestPath", apart := false }
def FnExactLongestPathSaid : Prop := fnExactLongestPathRow.holds Try.pinned (OpenSpec.ofChange fnExactLongestPathSpec)

/-- ITS FALSE NEIGHBOUR: 'it returns false'. Refute it at one input. -/
def fnExactLongestPathWrong : ChangeSpec := { name := "fnExactLongestPath", fn := fun _ => fun
  | [d] => { results := [.lit (.bool false)], args := [d] }
  | _ => none }
def FnExactLongestPathWrongFalsely : Prop := fnExactLongestPathRow.holds Try.pinned (OpenSpec.ofChange fnExactLongestPathWrong)

/-- 'laws.FnExactArchiveSize': WHATEVER THE INPUT: true; the input reads as it did. -/
def fnExactArchiveSizeSpec : ChangeSpec := { name := "fnExactArchiveSize", fn := fun _ => fun
  | [d] => { results := [.lit (.bool true)], args := [d] }
  | _ => none }
def fnExactArchiveSizeRow : OpenClaim := { program := "ytejeomggohkclaa", sum := "74c3cfa949defb1ec055874718632251817d6e4f2ec5d5009783ec24963fd001", func := "loop.example/g00597/laws.FnExactArchiveSize", spec := "fnExactArchiveSize", apart := false }
def FnExactArchiveSizeSaid : Prop := fnExactArchiveSizeRow.holds Try.pinned (OpenSpec.ofChange fnExactArchiveSizeSpec)

/-- ITS FALSE NEIGHBOUR: 'it returns false'. Refute it at one input. -/
def fnExactArchiveSizeWrong : ChangeSpec := { name := "fnExactArchiveSize", fn := fun _ => fun
  | [d] => { results := [.lit (.bool false)], args := [d] }
  | _ => none }
def FnExactArchiveSizeWrongFalsely : Prop := fnExactArchiveSizeRow.holds Try.pinned (OpenSpec.ofChange fnExactArchiveSizeWrong)

/-- 'laws.FnExactIsSafeNow': WHATEVER THE INPUT: true; the input reads as it did. -/
def fnExactIsSafeNowSpec : ChangeSpec := { name := "fnExactIsSafeNow", fn := fun _ => fun
  | [d1, d2] => { results := [.lit (.bool true)], args := [d1, d2] }
  | _ => none }
def fnExactIsSafeNowRow : OpenClaim := { program := "ytejeomggohkclaa", sum := "74c3cfa949defb1ec055874718632251817d6e4f2ec5d5009783ec24963fd001", func := "loop.example/g00597/laws.FnExactIsSafeNow", spec := "fnExactIsSafeNow", apart := false }
def FnExactIsSafeNowSaid : Prop := fnExactIsSafeNowRow.holds Try.pinned (OpenSpec.ofChange fnExactIsSafeNowSpec)

/-- ITS FALSE NEIGHBOUR: 'it returns false'. Refute it at one input. -/
def fnExactIsSafeNowWrong : ChangeSpec := { name := "fnExactIsSafeNow", fn := fun _ => fun
  | [d1, d2] => { results := [.lit (.bool false)], args := [d1, d2] }
  | _ => none }
def FnExactIsSafeNowWrongFalsely : Prop := fnExactIsSafeNowRow.holds Try.pinned (OpenSpec.ofChange fnExactIsSafeNowWrong)

/-- 'laws.FnExactNeedsRenewal': WHATEVER THE INPUT: true; the input reads as it did. -/
def fnExactNeedsRenewalSpec : ChangeSpec := { name := "fnExactNeedsRenewal", fn := fun _ => fun
  | [d1, d2, d3] => { results := [.lit (.bool true)], args := [d1, d2, d3] }
  | _ => none }
def fnExactNeedsRenewalRow : OpenClaim := { program := "ytejeomggohkclaa", sum := "74c3cfa949defb1ec055874718632251817d6e4f2ec5d5009783ec24963fd001", func := "loop.example/g00597/laws.FnExactNeedsRenewal", spec := "fnExactNeedsRenewal", apart := false }
def FnExactNeedsRenewalSaid : Prop := fnExactNeedsRenewalRow.holds Try.pinned (OpenSpec.ofChange fnExactNeedsRenewalSpec)

/-- ITS FALSE NEIGHBOUR: 'it returns false'. Refute it at one input. -/
def fnExactNeedsRenewalWrong : ChangeSpec := { name := "fnExactNeedsRenewal", fn := fun _ => fun
  | [d1, d2, d3] => { results := [.lit (.bool false)], args := [d1, d2, d3] }
  | _ => none }
def FnExactNeedsRenewalWrongFalsely : Prop := fnExactNeedsRenewalRow.holds Try.pinned (OpenSpec.ofChange fnExactNeedsRenewalWrong)

/-- 'laws.FnExactNextDue': WHATEVER THE INPUT: true; the input reads as it did. -/
def fnExactNextDueSpec : ChangeSpec := { name := "fnExactNextDue", fn := fun _ => fun
  | [d1, d2] => { results := [.lit (.bool true)], args := [d1, d2] }
  | _ => none }
def fnExactNextDueRow : OpenClaim := { program := "ytejeomggohkclaa", sum := "74c3cfa949defb1ec055874718632251817d6e4f2ec5d5009783ec24963fd001", func := "loop.example/g00597/laws.FnExactNextDue", spec := "fnExactNextDue", apart := false }
def FnExactNextDueSaid : Prop := fnExactNextDueRow.holds Try.pinned (OpenSpec.ofChange fnExactNextDueSpec)

/-- ITS FALSE NEIGHBOUR: 'it returns false'. Refute it at one input. -/
def fnExactNextDueWrong : ChangeSpec := { name := "fnExactNextDue", fn := fun _ => fun
  | [d1, d2] => { results := [.lit (.bool false)], args := [d1, d2] }
  | _ => none }
def FnExactNextDueWrongFalsely : Prop := fnExactNextDueRow.holds Try.pinned (OpenSpec.ofChange fnExactNextDueWrong)

/-- 'laws.FnExactFindIn': WHATEVER THE INPUT: true; the input reads as it did. -/
def fnExactFindInSpec : ChangeSpec := { name := "fnExactFindIn", fn := fun _ => fun
  | [d1, d2] => { results := [.lit (.bool true)], args := [d1, d2] }
  | _ => none }
def fnExactFindInRow : OpenClaim := { program := "ytejeomggohkclaa", sum := "74c3cfa949defb1ec055874718632251817d6e4f2ec5d5009783ec24963fd001", func := "loop.example/g00597/laws.FnExactFindIn", spec := "fnExactFindIn", apart := false }
def FnExactFindInSaid : Prop := fnExactFindInRow.holds Try.pinned (OpenSpec.ofChange fnExactFindInSpec)

/-- ITS FALSE NEIGHBOUR: 'it returns false'. Refute it at one input. -/
def fnExactFindInWrong : ChangeSpec := { name := "fnExactFindIn", fn := fun _ => fun
  | [d1, d2] => { results := [.lit (.bool false)], args := [d1, d2] }
  | _ => none }
def FnExactFindInWrongFalsely : Prop := fnExactFindInRow.holds Try.pinned (OpenSpec.ofChange fnExactFindInWrong)

/-- 'laws.FnExactItemsDue': WHATEVER THE INPUT: true; the input reads as it did. -/
def fnExactItemsDueSpec : ChangeSpec := { name := "fnExactItemsDue", fn := fun _ => fun
  | [d1, d2, d3] => { results := [.lit (.bool true)], args := [d1, d2, d3] }
  | _ => none }
def fnExactItemsDueRow : OpenClaim := { program := "ytejeomggohkclaa", sum := "74c3cfa949defb1ec055874718632251817d6e4f2ec5d5009783ec24963fd001", func := "loop.example/g00597/laws.FnExactItemsDue", spec := "fnExactItemsDue", apart := false }
def FnExactItemsDueSaid : Prop := fnExactItemsDueRow.holds Try.pinned (OpenSpec.ofChange fnExactItemsDueSpec)

/-- ITS FALSE NEIGHBOUR: 'it returns false'. Refute it at one input. -/
def fnExactItemsDueWrong : ChangeSpec := { name := "fnExactItemsDue", fn := fun _ => fun
  | [d1, d2, d3] => { results := [.lit (.bool false)], args := [d1, d2, d3] }
  | _ => none }
def FnExactItemsDueWrongFalsely : Prop := fnExactItemsDueRow.holds Try.pinned (OpenSpec.ofChange fnExactItemsDueWrong)

/-- 'laws.FnExactEqualWorlds': WHATEVER THE INPUT: true; the input reads as it did. -/
def fnExactEqualWorldsSpec : ChangeSpec := { name := "fnExactEqualWorlds", fn := fun _ => fun
  | [d1, d2] => { results := [.lit (.bool true)], args := [d1, d2] }
  | _ => none }
def fnExactEqualWorldsRow : OpenClaim := { program := "ytejeomggohkclaa", sum := "74c3cfa949defb1ec055874718632251817d6e4f2ec5d5009783ec24963fd001", func := "loop.example/g00597/laws.FnExactEqualWorlds", spec := "fnExactEqualWorlds", apart := false }
def FnExactEqualWorldsSaid : Prop := fnExactEqualWorldsRow.holds Try.pinned (OpenSpec.ofChange fnExactEqualWorldsSpec)

/-- ITS FALSE NEIGHBOUR: 'it returns false'. Refute it at one input. -/
def fnExactEqualWorldsWrong : ChangeSpec := { name := "fnExactEqualWorlds", fn := fun _ => fun
  | [d1, d2] => { results := [.lit (.bool false)], args := [d1, d2] }
  | _ => none }
def FnExactEqualWorldsWrongFalsely : Prop := fnExactEqualWorldsRow.holds Try.pinned (OpenSpec.ofChange fnExactEqualWorldsWrong)

/- THE SECOND FORM. 'bulk': how many values and letters a reading holds, each counted each time it is reached (what is shared counts as often as it is met; a slice's spare places count too). A statement '..UptoSaid' is the law's where the arguments, and the package variables that the reading takes, are together of bulk at most 1048576: NARROWER than '..Said'. Prove '..Said' where nothing that the law and all that it calls make is longer than what came in: it says more and counts as full. Else prove '..UptoSaid'. A law counts once. -/
mutual
def uptoBulk {H : Type} : DataW H → Nat
  | .lit (.string bytes) => bytes.length + 1
  | .lit _ => 1
  | .nil => 1
  | .ptr d => uptoBulk d + 1
  | .slice elems spare => uptoBulkAll elems + uptoBulkAll spare + 1
  | .agg parts => uptoBulkAll parts + 1
  | .iface _ d => uptoBulk d + 1
  | .map entries => uptoBulkEntries entries + 1
  | .held _ => 1
def uptoBulkAll {H : Type} : List (DataW H) → Nat
  | [] => 0
  | d :: r => uptoBulk d + uptoBulkAll r
def uptoBulkEntries {H : Type} : List (Lit × DataW H) → Nat
  | [] => 0
  | x :: r => uptoBulkEntry x + uptoBulkEntries r
def uptoBulkEntry {H : Type} : Lit × DataW H → Nat
  | (.string bytes, d) => bytes.length + uptoBulk d + 1
  | (_, d) => uptoBulk d + 1
 end
def uptoSmall : (H : Type) → List (DataW H) → Bool := fun _ ds => decide (uptoBulkAll ds ≤ 1048576)
def OpenSpec.upto (s : _root_.Go.ChangeSpec) : _root_.Go.OpenSpec := { _root_.Go.OpenSpec.ofChange s with cond := some uptoSmall }

/-- 'laws.FnExactIsHonest', WHERE WHAT IT READS IS OF BULK AT MOST 1048576: true; the input reads as it did. -/
def fnExactIsHonestUptoRow : OpenClaim := { program := "ytejeomggohkclaa", sum := "74c3cfa949defb1ec055874718632251817d6e4f2ec5d5009783ec24963fd001", func := "loop.example/g00597/laws.FnExactIsHonest", spec := "fnExactIsHonest", apart := false, narrowed := true }
def FnExactIsHonestUptoSaid : Prop := fnExactIsHonestUptoRow.holds Try.pinned (OpenSpec.upto fnExactIsHonestSpec)

/-- 'laws.FnExactFormatRedacted', WHERE WHAT IT READS IS OF BULK AT MOST 1048576: true; the input reads as it did. -/
def fnExactFormatRedactedUptoRow : OpenClaim := { program := "ytejeomggohkclaa", sum := "74c3cfa949defb1ec055874718632251817d6e4f2ec5d5009783ec24963fd001", func := "loop.example/g00597/laws.FnExactFormatRedacted", spec := "fnExactFormatRedacted", apart := false, narrowed := true }
def FnExactFormatRedactedUptoSaid : Prop := fnExactFormatRedactedUptoRow.holds Try.pinned (OpenSpec.upto fnExactFormatRedactedSpec)

/-- 'laws.FnExactIsStolen', WHERE WHAT IT READS IS OF BULK AT MOST 1048576: true; the input reads as it did. -/
def fnExactIsStolenUptoRow : OpenClaim := { program := "ytejeomggohkclaa", sum := "74c3cfa949defb1ec055874718632251817d6e4f2ec5d5009783ec24963fd001", func := "loop.example/g00597/laws.FnExactIsStolen", spec := "fnExactIsStolen", apart := false, narrowed := true }
def FnExactIsStolenUptoSaid : Prop := fnExactIsStolenUptoRow.holds Try.pinned (OpenSpec.upto fnExactIsStolenSpec)

/-- 'laws.FnExactStrandSize', WHERE WHAT IT READS IS OF BULK AT MOST 1048576: true; the input reads as it did. -/
def fnExactStrandSizeUptoRow : OpenClaim := { program := "ytejeomggohkclaa", sum := "74c3cfa949defb1ec055874718632251817d6e4f2ec5d5009783ec24963fd001", func := "loop.example/g00597/laws.FnExactStrandSize", spec := "fnExactStrandSize", apart := false, narrowed := true }
def FnExactStrandSizeUptoSaid : Prop := fnExactStrandSizeUptoRow.holds Try.pinned (OpenSpec.upto fnExactStrandSizeSpec)

/-- 'laws.FnExactLongestPath', WHERE WHAT IT READS IS OF BULK AT MOST 1048576: true; the input reads as it did. -/
def fnExactLongestPathUptoRow : OpenClaim := { program := "ytejeomggohkclaa", sum := "74c3cfa949defb1ec055874718632251817d6e4f2ec5d5009783ec24963fd001", func := "loop.example/g00597/laws.FnExactLongestPath", spec := "fnExactLongestPath", apart := false, narrowed := true }
def FnExactLongestPathUptoSaid : Prop := fnExactLongestPathUptoRow.holds Try.pinned (OpenSpec.upto fnExactLongestPathSpec)

/-- 'laws.FnExactArchiveSize', WHERE WHAT IT READS IS OF BULK AT MOST 1048576: true; the input reads as it did. -/
def fnExactArchiveSizeUptoRow : OpenClaim := { program := "ytejeomggohkclaa", sum := "74c3cfa949defb1ec055874718632251817d6e4f2ec5d5009783ec24963fd001", func := "loop.example/g00597/laws.FnExactArchiveSize", spec := "fnExactArchiveSize", apart := false, narrowed := true }
def FnExactArchiveSizeUptoSaid : Prop := fnExactArchiveSizeUptoRow.holds Try.pinned (OpenSpec.upto fnExactArchiveSizeSpec)

/-- 'laws.FnExactIsSafeNow', WHERE WHAT IT READS IS OF BULK AT MOST 1048576: true; the input reads as it did. -/
def fnExactIsSafeNowUptoRow : OpenClaim := { program := "ytejeomggohkclaa", sum := "74c3cfa949defb1ec055874718632251817d6e4f2ec5d5009783ec24963fd001", func := "loop.example/g00597/laws.FnExactIsSafeNow", spec := "fnExactIsSafeNow", apart := false, narrowed := true }
def FnExactIsSafeNowUptoSaid : Prop := fnExactIsSafeNowUptoRow.holds Try.pinned (OpenSpec.upto fnExactIsSafeNowSpec)

/-- 'laws.FnExactNeedsRenewal', WHERE WHAT IT READS IS OF BULK AT MOST 1048576: true; the input reads as it did. -/
def fnExactNeedsRenewalUptoRow : OpenClaim := { program := "ytejeomggohkclaa", sum := "74c3cfa949defb1ec055874718632251817d6e4f2ec5d5009783ec24963fd001", func := "loop.example/g00597/laws.FnExactNeedsRenewal", spec := "fnExactNeedsRenewal", apart := false, narrowed := true }
def FnExactNeedsRenewalUptoSaid : Prop := fnExactNeedsRenewalUptoRow.holds Try.pinned (OpenSpec.upto fnExactNeedsRenewalSpec)

/-- 'laws.FnExactNextDue', WHERE WHAT IT READS IS OF BULK AT MOST 1048576: true; the input reads as it did. -/
def fnExactNextDueUptoRow : OpenClaim := { program := "ytejeomggohkclaa", sum := "74c3cfa949defb1ec055874718632251817d6e4f2ec5d5009783ec24963fd001", func := "loop.example/g00597/laws.FnExactNextDue", spec := "fnExactNextDue", apart := false, narrowed := true }
def FnExactNextDueUptoSaid : Prop := fnExactNextDueUptoRow.holds Try.pinned (OpenSpec.upto fnExactNextDueSpec)

/-- 'laws.FnExactFindIn', WHERE WHAT IT READS IS OF BULK AT MOST 1048576: true; the input reads as it did. -/
def fnExactFindInUptoRow : OpenClaim := { program := "ytejeomggohkclaa", sum := "74c3cfa949defb1ec055874718632251817d6e4f2ec5d5009783ec24963fd001", func := "loop.example/g00597/laws.FnExactFindIn", spec := "fnExactFindIn", apart := false, narrowed := true }
def FnExactFindInUptoSaid : Prop := fnExactFindInUptoRow.holds Try.pinned (OpenSpec.upto fnExactFindInSpec)

/-- 'laws.FnExactItemsDue', WHERE WHAT IT READS IS OF BULK AT MOST 1048576: true; the input reads as it did. -/
def fnExactItemsDueUptoRow : OpenClaim := { program := "ytejeomggohkclaa", sum := "74c3cfa949defb1ec055874718632251817d6e4f2ec5d5009783ec24963fd001", func := "loop.example/g00597/laws.FnExactItemsDue", spec := "fnExactItemsDue", apart := false, narrowed := true }
def FnExactItemsDueUptoSaid : Prop := fnExactItemsDueUptoRow.holds Try.pinned (OpenSpec.upto fnExactItemsDueSpec)

/-- 'laws.FnExactEqualWorlds', WHERE WHAT IT READS IS OF BULK AT MOST 1048576: true; the input reads as it did. -/
def fnExactEqualWorldsUptoRow : OpenClaim := { program := "ytejeomggohkclaa", sum := "74c3cfa949defb1ec055874718632251817d6e4f2ec5d5009783ec24963fd001", func := "loop.example/g00597/laws.FnExactEqualWorlds", spec := "fnExactEqualWorlds", apart := false, narrowed := true }
def FnExactEqualWorldsUptoSaid : Prop := fnExactEqualWorldsUptoRow.holds Try.pinned (OpenSpec.upto fnExactEqualWorldsSpec)

end Rows
end Go.Proofs.Ytejeomggohkclaa
