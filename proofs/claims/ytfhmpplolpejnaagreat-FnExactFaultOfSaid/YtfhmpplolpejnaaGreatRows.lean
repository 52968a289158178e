/-
  No cell of these rows narrows 'for every input' (looked for: loops, veiled, ifaces, maps, wideKeys, modest, calm, conditions, laid).
  DERIVED. THE GIVEN ROWS OF THIS SEAT. 8 by the template 'for every input the law returns true; each argument reads behind the call as it read before'; 0 by the template 'total and deterministic' (their statements: YtfhmpplolpejnaaGreatTotals.lean).
  GIVEN WITH THE SEED: the statements are not yours to turn. If you find one false, say at which input.
  Laid BY PROGRAM, IN A SANDBOX (cutbox-rows.mjs): the forced cells as the released guide's own fill.sh prints them over the translation e2b879dd4ea7efd6… (all of the seat's roots in one cut). By AI agents, Wed Nov 11 2026. No macro, syntax, notation, axiom, sorry.
-/
import Derived.Test.YtfhmpplolpejnaaGreatChecked
import GoSem.Claim
import GoSem.ClaimJoined
import GoSem.ClaimMapViews
import Derived.JoinedTies
import Derived.KernelRfl
namespace Go.Proofs.YtfhmpplolpejnaaGreat
/- THE CELL 'sum', in the pinned program and in every row, IS THE sha256 OF THE DUMP (.gsa) THAT YtfhmpplolpejnaaGreatProg.lean LOADS. Nothing in Lean hashes anything: it is a label: what it is worth is what the hold of that sum in a sandbox is worth. -/
noncomputable def Tryz.pinned : Pinned := { name := "ytfhmpplolpejnaagreat", sum := "e2b879dd4ea7efd63bc89eb0c458e63f7c9c3ed682f8fa99c4954663f935564b", checked := Tryz.checked }
namespace Rows
def none {H : Type} : Left H := { results := [], args := [] }

/-- 'laws.FnExactFormatItem': WHATEVER THE INPUT: true; the input reads as it did. -/
def fnExactFormatItemSpec : ChangeSpec := { name := "fnExactFormatItem", fn := fun _ => fun
  | [d1, d2] => { results := [.lit (.bool true)], args := [d1, d2] }
  | _ => none }
def fnExactFormatItemRow : OpenClaim := { program := "ytfhmpplolpejnaagreat", sum := "e2b879dd4ea7efd63bc89eb0c458e63f7c9c3ed682f8fa99c4954663f935564b", func := "loop.example/g00597/laws.FnExactFormatItem", spec := "fnExactFormatItem", unfollowed := true, recurses := true, apart := false }
def FnExactFormatItemSaid : Prop := fnExactFormatItemRow.holds Tryz.pinned (OpenSpec.ofChange fnExactFormatItemSpec)

/-- ITS FALSE NEIGHBOUR: 'it returns false'. Refute it at one input. -/
def fnExactFormatItemWrong : ChangeSpec := { name := "fnExactFormatItem", fn := fun _ => fun
  | [d1, d2] => { results := [.lit (.bool false)], args := [d1, d2] }
  | _ => none }
def FnExactFormatItemWrongFalsely : Prop := fnExactFormatItemRow.holds Tryz.pinned (OpenSpec.ofChange fnExactFormatItemWrong)

/-- 'laws.FnExactFormatArchive': WHATEVER THE INPUT: true; the input reads as it did. -/
def fnExactFormatArchiveSpec : ChangeSpec := { name := "fnExactFormatArchive", fn := fun _ => fun
  | [d1, d2] => { results := [.lit (.bool true)], args := [d1, d2] }
  | _ => none }
def fnExactFormatArchiveRow : OpenClaim := { program := "ytfhmpplolpejnaagreat", sum := "e2b879dd4ea7efd63bc89eb0c458e63f7c9c3ed682f8fa99c4954663f935564b", func := "loop.example/g00597/laws.FnExactFormatArchive", spec := "fnExactFormatArchive", unfollowed := true, recurses := true, apart := false }
def FnExactFormatArchiveSaid : Prop := fnExactFormatArchiveRow.holds Tryz.pinned (OpenSpec.ofChange fnExactFormatArchiveSpec)

/-- ITS FALSE NEIGHBOUR: 'it returns false'. Refute it at one input. -/
def fnExactFormatArchiveWrong : ChangeSpec := { name := "fnExactFormatArchive", fn := fun _ => fun
  | [d1, d2] => { results := [.lit (.bool false)], args := [d1, d2] }
  | _ => none }
def FnExactFormatArchiveWrongFalsely : Prop := fnExactFormatArchiveRow.holds Tryz.pinned (OpenSpec.ofChange fnExactFormatArchiveWrong)

/-- 'laws.FnExactItemVerdict': WHATEVER THE INPUT: true; the input reads as it did. -/
def fnExactItemVerdictSpec : ChangeSpec := { name := "fnExactItemVerdict", fn := fun _ => fun
  | [d1, d2] => { results := [.lit (.bool true)], args := [d1, d2] }
  | _ => none }
def fnExactItemVerdictRow : OpenClaim := { program := "ytfhmpplolpejnaagreat", sum := "e2b879dd4ea7efd63bc89eb0c458e63f7c9c3ed682f8fa99c4954663f935564b", func := "loop.example/g00597/laws.FnExactItemVerdict", spec := "fnExactItemVerdict", unfollowed := true, recurses := true, apart := false }
def FnExactItemVerdictSaid : Prop := fnExactItemVerdictRow.holds Tryz.pinned (OpenSpec.ofChange fnExactItemVerdictSpec)

/-- ITS FALSE NEIGHBOUR: 'it returns false'. Refute it at one input. -/
def fnExactItemVerdictWrong : ChangeSpec := { name := "fnExactItemVerdict", fn := fun _ => fun
  | [d1, d2] => { results := [.lit (.bool false)], args := [d1, d2] }
  | _ => none }
def FnExactItemVerdictWrongFalsely : Prop := fnExactItemVerdictRow.holds Tryz.pinned (OpenSpec.ofChange fnExactItemVerdictWrong)

/-- 'laws.FnExactCountVerdicts': WHATEVER THE INPUT: true; the input reads as it did. -/
def fnExactCountVerdictsSpec : ChangeSpec := { name := "fnExactCountVerdicts", fn := fun _ => fun
  | [d1, d2] => { results := [.lit (.bool true)], args := [d1, d2] }
  | _ => none }
def fnExactCountVerdictsRow : OpenClaim := { program := "ytfhmpplolpejnaagreat", sum := "e2b879dd4ea7efd63bc89eb0c458e63f7c9c3ed682f8fa99c4954663f935564b", func := "loop.example/g00597/laws.FnExactCountVerdicts", spec := "fnExactCountVerdicts", unfollowed := true, recurses := true, apart := false }
def FnExactCountVerdictsSaid : Prop := fnExactCountVerdictsRow.holds Tryz.pinned (OpenSpec.ofChange fnExactCountVerdictsSpec)

/-- ITS FALSE NEIGHBOUR: 'it returns false'. Refute it at one input. -/
def fnExactCountVerdictsWrong : ChangeSpec := { name := "fnExactCountVerdicts", fn := fun _ => fun
  | [d1, d2] => { results := [.lit (.bool false)], args := [d1, d2] }
  | _ => none }
def FnExactCountVerdictsWrongFalsely : Prop := fnExactCountVerdictsRow.holds Tryz.pinned (OpenSpec.ofChange fnExactCountVerdictsWrong)

/-- 'laws.FnExactFormatWorld': WHATEVER THE INPUT: true; the input reads as it did. -/
def fnExactFormatWorldSpec : ChangeSpec := { name := "fnExactFormatWorld", fn := fun _ => fun
  | [d] => { results := [.lit (.bool true)], args := [d] }
  | _ => none }
def fnExactFormatWorldRow : OpenClaim := { program := "ytfhmpplolpejnaagreat", sum := "e2b879dd4ea7efd63bc89eb0c458e63f7c9c3ed682f8fa99c4954663f935564b", func := "loop.example/g00597/laws.FnExactFormatWorld", spec := "fnExactFormatWorld", unfollowed := true, recurses := true, apart := false }
def FnExactFormatWorldSaid : Prop := fnExactFormatWorldRow.holds Tryz.pinned (OpenSpec.ofChange fnExactFormatWorldSpec)

/-- ITS FALSE NEIGHBOUR: 'it returns false'. Refute it at one input. -/
def fnExactFormatWorldWrong : ChangeSpec := { name := "fnExactFormatWorld", fn := fun _ => fun
  | [d] => { results := [.lit (.bool false)], args := [d] }
  | _ => none }
def FnExactFormatWorldWrongFalsely : Prop := fnExactFormatWorldRow.holds Tryz.pinned (OpenSpec.ofChange fnExactFormatWorldWrong)

/-- 'laws.FnExactValidItems': WHATEVER THE INPUT: true; the input reads as it did. -/
def fnExactValidItemsSpec : ChangeSpec := { name := "fnExactValidItems", fn := fun _ => fun
  | [d] => { results := [.lit (.bool true)], args := [d] }
  | _ => none }
def fnExactValidItemsRow : OpenClaim := { program := "ytfhmpplolpejnaagreat", sum := "e2b879dd4ea7efd63bc89eb0c458e63f7c9c3ed682f8fa99c4954663f935564b", func := "loop.example/g00597/laws.FnExactValidItems", spec := "fnExactValidItems", unfollowed := true, recurses := true, apart := false }
def FnExactValidItemsSaid : Prop := fnExactValidItemsRow.holds Tryz.pinned (OpenSpec.ofChange fnExactValidItemsSpec)

/-- ITS FALSE NEIGHBOUR: 'it returns false'. Refute it at one input. -/
def fnExactValidItemsWrong : ChangeSpec := { name := "fnExactValidItems", fn := fun _ => fun
  | [d] => { results := [.lit (.bool false)], args := [d] }
  | _ => none }
def FnExactValidItemsWrongFalsely : Prop := fnExactValidItemsRow.holds Tryz.pinned (OpenSpec.ofChange fnExactValidItemsWrong)

/-- 'laws.FnExactFaultOf': WHATEVER THE INPUT: true; the input reads as it did. -/
def fnExactFaultOfSpec : ChangeSpec := { name := "fnExactFaultOf", fn := fun _ => fun
  | [d] => { results := [.lit (.bool true)], args := [d] }
  | _ => none }
def fnExactFaultOfRow : OpenClaim := { program := "ytfhmpplolpejnaagreat", sum := "e2b879dd4ea7efd63bc89eb0c458e63f7c9c3ed682f8fa99c4954663f935564b", func := "loop.example/g00597/laws.FnExactFaultOf", spec := "fnExactFaultOf", unfollowed := true, recurses := true, apart := false }
def FnExactFaultOfSaid : Prop := fnExactFaultOfRow.holds Tryz.pinned (OpenSpec.ofChange fnExactFaultOfSpec)

/-- ITS FALSE NEIGHBOUR: 'it returns false'. Refute it at one input. -/
def fnExactFaultOfWrong : ChangeSpec := { name := "fnExactFaultOf", fn := fun _ => fun
  | [d] => { results := [.lit (.bool false)], args := [d] }
  | _ => none }
def FnExactFaultOfWrongFalsely : Prop := fnExactFaultOfRow.holds Tryz.pinned (OpenSpec.ofChange fnExactFaultOfWrong)

/-- 'laws.FnExactForgedValid': WHATEVER THE INPUT: true; the input reads as it did. -/
def fnExactForgedValidSpec : ChangeSpec := { name := "fnExactForgedValid", fn := fun _ => fun
  | [d] => { results := [.lit (.bool true)], args := [d] }
  | _ => none }
def fnExactForgedValidRow : OpenClaim := { program := "ytfhmpplolpejnaagreat", sum := "e2b879dd4ea7efd63bc89eb0c458e63f7c9c3ed682f8fa99c4954663f935564b", func := "loop.example/g00597/laws.FnExactForgedValid", spec := "fnExactForgedValid", unfollowed := true, recurses := true, apart := false }
def FnExactForgedValidSaid : Prop := fnExactForgedValidRow.holds Tryz.pinned (OpenSpec.ofChange fnExactForgedValidSpec)

/-- ITS FALSE NEIGHBOUR: 'it returns false'. Refute it at one input. -/
def fnExactForgedValidWrong : ChangeSpec := { name := "fnExactForgedValid", fn := fun _ => fun
  | [d] => { results := [.lit (.bool false)], args := [d] }
  | _ => none }
def FnExactForgedValidWrongFalsely : Prop := fnExactForgedValidRow.holds Tryz.pinned (OpenSpec.ofChange fnExactForgedValidWrong)

/- THE SECOND FORM. 'bulk': how many values and letters a reading holds, each counted each time it is reached (what is shared counts as often as it is met; a slice's spare places count too). A statement '..UptoSaid' is the law's where the arguments, and the package variables that the reading takes, are together of bulk at most 1048576: NARROWER than '..Said'. Prove '..Said' where nothing that the law and all that it calls make is longer than what came in: it says more and counts as full. Else prove '..UptoSaid'. A law counts once. -/
mutual
def uptoBulk {H : Type} : DataW H → Nat
  | .lit (.string bytes) => bytes.length + 1
  | .lit _ => 1
  | .nil => 1
  | .ptr d => uptoBulk d + 1
  | .slice elems spare => uptoBulkAll elems + uptoBulkAll spare + 1
  | .agg parts => uptoBulkAll parts + 1
  | .iface _ d => uptoBulk d + 1
  | .map entries => uptoBulkEntries entries + 1
  | .held _ => 1
def uptoBulkAll {H : Type} : List (DataW H) → Nat
  | [] => 0
  | d :: r => uptoBulk d + uptoBulkAll r
def uptoBulkEntries {H : Type} : List (Lit × DataW H) → Nat
  | [] => 0
  | x :: r => uptoBulkEntry x + uptoBulkEntries r
def uptoBulkEntry {H : Type} : Lit × DataW H → Nat
  | (.string bytes, d) => bytes.length + uptoBulk d + 1
  | (_, d) => uptoBulk d + 1
 end
def uptoSmall : (H : Type) → List (DataW H) → Bool := fun _ ds => decide (uptoBulkAll ds ≤ 1048576)
def OpenSpec.upto (s : _root_.Go.ChangeSpec) : _root_.Go.OpenSpec := { _root_.Go.OpenSpec.ofChange s with cond := some uptoSmall }

/-- 'laws.FnExactFormatItem', WHERE WHAT IT READS IS OF BULK AT MOST 1048576: true; the input reads as it did. -/
def fnExactFormatItemUptoRow : OpenClaim := { program := "ytfhmpplolpejnaagreat", sum := "e2b879dd4ea7efd63bc89eb0c458e63f7c9c3ed682f8fa99c4954663f935564b", func := "loop.example/g00597/laws.FnExactFormatItem", spec := "fnExactFormatItem", unfollowed := true, recurses := true, apart := false, narrowed := true }
def FnExactFormatItemUptoSaid : Prop := fnExactFormatItemUptoRow.holds Tryz.pinned (OpenSpec.upto fnExactFormatItemSpec)

/-- 'laws.FnExactFormatArchive', WHERE WHAT IT READS IS OF BULK AT MOST 1048576: true; the input reads as it did. -/
def fnExactFormatArchiveUptoRow : OpenClaim := { program := "ytfhmpplolpejnaagreat", sum := "e2b879dd4ea7efd63bc89eb0c458e63f7c9c3ed682f8fa99c4954663f935564b", func := "loop.example/g00597/laws.FnExactFormatArchive", spec := "fnExactFormatArchive", unfollowed := true, recurses := true, apart := false, narrowed := true }
def FnExactFormatArchiveUptoSaid : Prop := fnExactFormatArchiveUptoRow.holds Tryz.pinned (OpenSpec.upto fnExactFormatArchiveSpec)

/-- 'laws.FnExactItemVerdict', WHERE WHAT IT READS IS OF BULK AT MOST 1048576: true; the input reads as it did. -/
def fnExactItemVerdictUptoRow : OpenClaim := { program := "ytfhmpplolpejnaagreat", sum := "e2b879dd4ea7efd63bc89eb0c458e63f7c9c3ed682f8fa99c4954663f935564b", func := "loop.example/g00597/laws.FnExactItemVerdict", spec := "fnExactItemVerdict", unfollowed := true, recurses := true, apart := false, narrowed := true }
def FnExactItemVerdictUptoSaid : Prop := fnExactItemVerdictUptoRow.holds Tryz.pinned (OpenSpec.upto fnExactItemVerdictSpec)

/-- 'laws.FnExactCountVerdicts', WHERE WHAT IT READS IS OF BULK AT MOST 1048576: true; the input reads as it did. -/
def fnExactCountVerdictsUptoRow : OpenClaim := { program := "ytfhmpplolpejnaagreat", sum := "e2b879dd4ea7efd63bc89eb0c458e63f7c9c3ed682f8fa99c4954663f935564b", func := "loop.example/g00597/laws.FnExactCountVerdicts", spec := "fnExactCountVerdicts", unfollowed := true, recurses := true, apart := false, narrowed := true }
def FnExactCountVerdictsUptoSaid : Prop := fnExactCountVerdictsUptoRow.holds Tryz.pinned (OpenSpec.upto fnExactCountVerdictsSpec)

/-- 'laws.FnExactFormatWorld', WHERE WHAT IT READS IS OF BULK AT MOST 1048576: true; the input reads as it did. -/
def fnExactFormatWorldUptoRow : OpenClaim := { program := "ytfhmpplolpejnaagreat", sum := "e2b879dd4ea7efd63bc89eb0c458e63f7c9c3ed682f8fa99c4954663f935564b", func := "loop.example/g00597/laws.FnExactFormatWorld", spec := "fnExactFormatWorld", unfollowed := true, recurses := true, apart := false, narrowed := true }
def FnExactFormatWorldUptoSaid : Prop := fnExactFormatWorldUptoRow.holds Tryz.pinned (OpenSpec.upto fnExactFormatWorldSpec)

/-- 'laws.FnExactValidItems', WHERE WHAT IT READS IS OF BULK AT MOST 1048576: true; the input reads as it did. -/
def fnExactValidItemsUptoRow : OpenClaim := { program := "ytfhmpplolpejnaagreat", sum := "e2b879dd4ea7efd63bc89eb0c458e63f7c9c3ed682f8fa99c4954663f935564b", func := "loop.example/g00597/laws.FnExactValidItems", spec := "fnExactValidItems", unfollowed := true, recurses := true, apart := false, narrowed := true }
def FnExactValidItemsUptoSaid : Prop := fnExactValidItemsUptoRow.holds Tryz.pinned (OpenSpec.upto fnExactValidItemsSpec)

/-- 'laws.FnExactFaultOf', WHERE WHAT IT READS IS OF BULK AT MOST 1048576: true; the input reads as it did. -/
def fnExactFaultOfUptoRow : OpenClaim := { program := "ytfhmpplolpejnaagreat", sum := "e2b879dd4ea7efd63bc89eb0c458e63f7c9c3ed682f8fa99c4954663f935564b", func := "loop.example/g00597/laws.FnExactFaultOf", spec := "fnExactFaultOf", unfollowed := true, recurses := true, apart := false, narrowed := true }
def FnExactFaultOfUptoSaid : Prop := fnExactFaultOfUptoRow.holds Tryz.pinned (OpenSpec.upto fnExactFaultOfSpec)

/-- 'laws.FnExactForgedValid', WHERE WHAT IT READS IS OF BULK AT MOST 1048576: true; the input reads as it did. -/
def fnExactForgedValidUptoRow : OpenClaim := { program := "ytfhmpplolpejnaagreat", sum := "e2b879dd4ea7efd63bc89eb0c458e63f7c9c3ed682f8fa99c4954663f935564b", func := "loop.example/g00597/laws.FnExactForgedValid", spec := "fnExactForgedValid", unfollowed := true, recurses := true, apart := false, narrowed := true }
def FnExactForgedValidUptoSaid : Prop := fnExactForgedValidUptoRow.holds Tryz.pinned (OpenSpec.upto fnExactForgedValidSpec)

end Rows
end Go.Proofs.YtfhmpplolpejnaaGreat
