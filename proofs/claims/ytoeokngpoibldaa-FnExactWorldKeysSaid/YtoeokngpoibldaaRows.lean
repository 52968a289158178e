/-
  No cell of these rows narrows 'for every input' (looked for: loops, veiled, ifaces, maps, wideKeys, modest, calm, conditions, laid).
  DERIVED. THE GIVEN ROWS OF THIS SEAT. 7 by the template 'for every input the law returns true; each argument reads behind the call as it read before'; 0 by the template 'total and deterministic' (their statements: YtoeokngpoibldaaTotals.lean).
  GIVEN WITH THE SEED: the statements are not yours to turn. If you find one false, say at which input.
  Laid BY PROGRAM, IN A SANDBOX (cutbox-rows.mjs): the forced cells as the released guide's own fill.sh prints them over the translation df56313dd7b321a0… (all of the seat's roots in one cut). By AI agents, Wed Nov 11 2026. No macro, syntax, notation, axiom, sorry.
-/
import Derived.Test.YtoeokngpoibldaaChecked
import GoSem.Claim
import GoSem.ClaimJoined
import GoSem.ClaimMapViews
import Derived.JoinedTies
import Derived.KernelRfl
namespace Go.Proofs.Ytoeokngpoibldaa
/- THE CELL 'sum', in the pinned program and in every row, IS THE sha256 OF THE DUMP (.gsa) THAT YtoeokngpoibldaaProg.lean LOADS. Nothing in Lean hashes anything: it is a label: what it is worth is what the hold of that sum in a sandbox is worth. -/
noncomputable def Try.pinned : Pinned := { name := "ytoeokngpoibldaa", sum := "df56313dd7b321a0ea56d3fca3ed2f304b8300121d85523804c7affa520b3d0c", checked := Try.checked }
namespace Rows
def none {H : Type} : Left H := { results := [], args := [] }

/-- 'laws.FnExactEventName': WHATEVER THE INPUT: true; the input reads as it did. -/
def fnExactEventNameSpec : ChangeSpec := { name := "fnExactEventName", fn := fun _ => fun
  | [d] => { results := [.lit (.bool true)], args := [d] }
  | _ => none }
def fnExactEventNameRow : OpenClaim := { program := "ytoeokngpoibldaa", sum := "df56313dd7b321a0ea56d3fca3ed2f304b8300121d85523804c7affa520b3d0c", func := "loop.example/g00597/laws.FnExactEventName", spec := "fnExactEventName", apart := false }
def FnExactEventNameSaid : Prop := fnExactEventNameRow.holds Try.pinned (OpenSpec.ofChange fnExactEventNameSpec)

/-- ITS FALSE NEIGHBOUR: 'it returns false'. Refute it at one input. -/
def fnExactEventNameWrong : ChangeSpec := { name := "fnExactEventName", fn := fun _ => fun
  | [d] => { results := [.lit (.bool false)], args := [d] }
  | _ => none }
def FnExactEventNameWrongFalsely : Prop := fnExactEventNameRow.holds Try.pinned (OpenSpec.ofChange fnExactEventNameWrong)

/-- 'laws.FnExactSizeLimit': WHATEVER THE INPUT: true; the input reads as it did. -/
def fnExactSizeLimitSpec : ChangeSpec := { name := "fnExactSizeLimit", fn := fun _ => fun
  | [d1, d2] => { results := [.lit (.bool true)], args := [d1, d2] }
  | _ => none }
def fnExactSizeLimitRow : OpenClaim := { program := "ytoeokngpoibldaa", sum := "df56313dd7b321a0ea56d3fca3ed2f304b8300121d85523804c7affa520b3d0c", func := "loop.example/g00597/laws.FnExactSizeLimit", spec := "fnExactSizeLimit", apart := false }
def FnExactSizeLimitSaid : Prop := fnExactSizeLimitRow.holds Try.pinned (OpenSpec.ofChange fnExactSizeLimitSpec)

/-- ITS FALSE NEIGHBOUR: 'it returns false'. Refute it at one input. -/
def fnExactSizeLimitWrong : ChangeSpec := { name := "fnExactSizeLimit", fn := fun _ => fun
  | [d1, d2] => { results := [.lit (.bool false)], args := [d1, d2] }
  | _ => none }
def FnExactSizeLimitWrongFalsely : Prop := fnExactSizeLimitRow.holds Try.pinned (OpenSpec.ofChange fnExactSizeLimitWrong)

/-- 'laws.FnExactFormatStamp': WHATEVER THE INPUT: true; the input reads as it did. -/
def fnExactFormatStampSpec : ChangeSpec := { name := "fnExactFormatStamp", fn := fun _ => fun
  | [d] => { results := [.lit (.bool true)], args := [d] }
  | _ => none }
def fnExactFormatStampRow : OpenClaim := { program := "ytoeokngpoibldaa", sum := "df56313dd7b321a0ea56d3fca3ed2f304b8300121d85523804c7affa520b3d0c", func := "loop.example/g00597/laws.FnExactFormatStamp", spec := "fnExactFormatStamp", apart := false }
def FnExactFormatStampSaid : Prop := fnExactFormatStampRow.holds Try.pinned (OpenSpec.ofChange fnExactFormatStampSpec)

/-- ITS FALSE NEIGHBOUR: 'it returns false'. Refute it at one input. -/
def fnExactFormatStampWrong : ChangeSpec := { name := "fnExactFormatStamp", fn := fun _ => fun
  | [d] => { results := [.lit (.bool false)], args := [d] }
  | _ => none }
def FnExactFormatStampWrongFalsely : Prop := fnExactFormatStampRow.holds Try.pinned (OpenSpec.ofChange fnExactFormatStampWrong)

/-- 'laws.FnExactWorldMethods': WHATEVER THE INPUT: true; the input reads as it did. -/
def fnExactWorldMethodsSpec : ChangeSpec := { name := "fnExactWorldMethods", fn := fun _ => fun
  | [] => { results := [.lit (.bool true)], args := [] }
  | _ => none }
def fnExactWorldMethodsRow : OpenClaim := { program := "ytoeokngpoibldaa", sum := "df56313dd7b321a0ea56d3fca3ed2f304b8300121d85523804c7affa520b3d0c", func := "loop.example/g00597/laws.FnExactWorldMethods", spec := "fnExactWorldMethods", apart := false }
def FnExactWorldMethodsSaid : Prop := fnExactWorldMethodsRow.holds Try.pinned (OpenSpec.ofChange fnExactWorldMethodsSpec)

/-- ITS FALSE NEIGHBOUR: 'it returns false'. Refute it at one input. -/
def fnExactWorldMethodsWrong : ChangeSpec := { name := "fnExactWorldMethods", fn := fun _ => fun
  | [] => { results := [.lit (.bool false)], args := [] }
  | _ => none }
def FnExactWorldMethodsWrongFalsely : Prop := fnExactWorldMethodsRow.holds Try.pinned (OpenSpec.ofChange fnExactWorldMethodsWrong)

/-- 'laws.FnExactWorldKeys': WHATEVER THE INPUT: true; the input reads as it did. -/
def fnExactWorldKeysSpec : ChangeSpec := { name := "fnExactWorldKeys", fn := fun _ => fun
  | [] => { results := [.lit (.bool true)], args := [] }
  | _ => none }
def fnExactWorldKeysRow : OpenClaim := { program := "ytoeokngpoibldaa", sum := "df56313dd7b321a0ea56d3fca3ed2f304b8300121d85523804c7affa520b3d0c", func := "loop.example/g00597/laws.FnExactWorldKeys", spec := "fnExactWorldKeys", apart := false }
def FnExactWorldKeysSaid : Prop := fnExactWorldKeysRow.holds Try.pinned (OpenSpec.ofChange fnExactWorldKeysSpec)

/-- ITS FALSE NEIGHBOUR: 'it returns false'. Refute it at one input. -/
def fnExactWorldKeysWrong : ChangeSpec := { name := "fnExactWorldKeys", fn := fun _ => fun
  | [] => { results := [.lit (.bool false)], args := [] }
  | _ => none }
def FnExactWorldKeysWrongFalsely : Prop := fnExactWorldKeysRow.holds Try.pinned (OpenSpec.ofChange fnExactWorldKeysWrong)

/-- 'laws.FnExactRenewalSize': WHATEVER THE INPUT: true; the input reads as it did. -/
def fnExactRenewalSizeSpec : ChangeSpec := { name := "fnExactRenewalSize", fn := fun _ => fun
  | [d] => { results := [.lit (.bool true)], args := [d] }
  | _ => none }
def fnExactRenewalSizeRow : OpenClaim := { program := "ytoeokngpoibldaa", sum := "df56313dd7b321a0ea56d3fca3ed2f304b8300121d85523804c7affa520b3d0c", func := "loop.example/g00597/laws.FnExactRenewalSize", spec := "fnExactRenewalSize", apart := false }
def FnExactRenewalSizeSaid : Prop := fnExactRenewalSizeRow.holds Try.pinned (OpenSpec.ofChange fnExactRenewalSizeSpec)

/-- ITS FALSE NEIGHBOUR: 'it returns false'. Refute it at one input. -/
def fnExactRenewalSizeWrong : ChangeSpec := { name := "fnExactRenewalSize", fn := fun _ => fun
  | [d] => { results := [.lit (.bool false)], args := [d] }
  | _ => none }
def FnExactRenewalSizeWrongFalsely : Prop := fnExactRenewalSizeRow.holds Try.pinned (OpenSpec.ofChange fnExactRenewalSizeWrong)

/-- 'laws.FnExactCountKind': WHATEVER THE INPUT: true; the input reads as it did. -/
def fnExactCountKindSpec : ChangeSpec := { name := "fnExactCountKind", fn := fun _ => fun
  | [d1, d2] => { results := [.lit (.bool true)], args := [d1, d2] }
  | _ => none }
def fnExactCountKindRow : OpenClaim := { program := "ytoeokngpoibldaa", sum := "df56313dd7b321a0ea56d3fca3ed2f304b8300121d85523804c7affa520b3d0c", func := "loop.example/g00597/laws.FnExactCountKind", spec := "fnExactCountKind", apart := false }
def FnExactCountKindSaid : Prop := fnExactCountKindRow.holds Try.pinned (OpenSpec.ofChange fnExactCountKindSpec)

/-- ITS FALSE NEIGHBOUR: 'it returns false'. Refute it at one input. -/
def fnExactCountKindWrong : ChangeSpec := { name := "fnExactCountKind", fn := fun _ => fun
  | [d1, d2] => { results := [.lit (.bool false)], args := [d1, d2] }
  | _ => none }
def FnExactCountKindWrongFalsely : Prop := fnExactCountKindRow.holds Try.pinned (OpenSpec.ofChange fnExactCountKindWrong)

/- THE SECOND FORM. 'bulk': how many values and letters a reading holds, each counted each time it is reached (what is shared counts as often as it is met; a slice's spare places count too). A statement '..UptoSaid' is the law's where the arguments, and the package variables that the reading takes, are together of bulk at most 1048576: NARROWER than '..Said'. Prove '..Said' where nothing that the law and all that it calls make is longer than what came in: it says more and counts as full. Else prove '..UptoSaid'. A law counts once. -/
mutual
def uptoBulk {H : Type} : DataW H → Nat
  | .lit (.string bytes) => bytes.length + 1
  | .lit _ => 1
  | .nil => 1
  | .ptr d => uptoBulk d + 1
  | .slice elems spare => uptoBulkAll elems + uptoBulkAll spare + 1
  | .agg parts => uptoBulkAll parts + 1
  | .iface _ d => uptoBulk d + 1
  | .map entries => uptoBulkEntries entries + 1
  | .held _ => 1
def uptoBulkAll {H : Type} : List (DataW H) → Nat
  | [] => 0
  | d :: r => uptoBulk d + uptoBulkAll r
def uptoBulkEntries {H : Type} : List (Lit × DataW H) → Nat
  | [] => 0
  | x :: r => uptoBulkEntry x + uptoBulkEntries r
def uptoBulkEntry {H : Type} : Lit × DataW H → Nat
  | (.string bytes, d) => bytes.length + uptoBulk d + 1
  | (_, d) => uptoBulk d + 1
 end
def uptoSmall : (H : Type) → List (DataW H) → Bool := fun _ ds => decide (uptoBulkAll ds ≤ 1048576)
def OpenSpec.upto (s : _root_.Go.ChangeSpec) : _root_.Go.OpenSpec := { _root_.Go.OpenSpec.ofChange s with cond := some uptoSmall }

/-- 'laws.FnExactEventName', WHERE WHAT IT READS IS OF BULK AT MOST 1048576: true; the input reads as it did. -/
def fnExactEventNameUptoRow : OpenClaim := { program := "ytoeokngpoibldaa", sum := "df56313dd7b321a0ea56d3fca3ed2f304b8300121d85523804c7affa520b3d0c", func := "loop.example/g00597/laws.FnExactEventName", spec := "fnExactEventName", apart := false, narrowed := true }
def FnExactEventNameUptoSaid : Prop := fnExactEventNameUptoRow.holds Try.pinned (OpenSpec.upto fnExactEventNameSpec)

/-- 'laws.FnExactSizeLimit', WHERE WHAT IT READS IS OF BULK AT MOST 1048576: true; the input reads as it did. -/
def fnExactSizeLimitUptoRow : OpenClaim := { program := "ytoeokngpoibldaa", sum := "df56313dd7b321a0ea56d3fca3ed2f304b8300121d85523804c7affa520b3d0c", func := "loop.example/g00597/laws.FnExactSizeLimit", spec := "fnExactSizeLimit", apart := false, narrowed := true }
def FnExactSizeLimitUptoSaid : Prop := fnExactSizeLimitUptoRow.holds Try.pinned (OpenSpec.upto fnExactSizeLimitSpec)

/-- 'laws.FnExactFormatStamp', WHERE WHAT IT READS IS OF BULK AT MOST 1048576: true; the input reads as it did. -/
def fnExactFormatStampUptoRow : OpenClaim := { program := "ytoeokngpoibldaa", sum := "df56313dd7b321a0ea56d3fca3ed2f304b8300121d85523804c7affa520b3d0c", func := "loop.example/g00597/laws.FnExactFormatStamp", spec := "fnExactFormatStamp", apart := false, narrowed := true }
def FnExactFormatStampUptoSaid : Prop := fnExactFormatStampUptoRow.holds Try.pinned (OpenSpec.upto fnExactFormatStampSpec)

/-- 'laws.FnExactWorldMethods', WHERE WHAT IT READS IS OF BULK AT MOST 1048576: true; the input reads as it did. -/
def fnExactWorldMethodsUptoRow : OpenClaim := { program := "ytoeokngpoibldaa", sum := "df56313dd7b321a0ea56d3fca3ed2f304b8300121d85523804c7affa520b3d0c", func := "loop.example/g00597/laws.FnExactWorldMethods", spec := "fnExactWorldMethods", apart := false, narrowed := true }
def FnExactWorldMethodsUptoSaid : Prop := fnExactWorldMethodsUptoRow.holds Try.pinned (OpenSpec.upto fnExactWorldMethodsSpec)

/-- 'laws.FnExactWorldKeys', WHERE WHAT IT READS IS OF BULK AT MOST 1048576: true; the input reads as it did. -/
def fnExactWorldKeysUptoRow : OpenClaim := { program := "ytoeokngpoibldaa", sum := "df56313dd7b321a0ea56d3fca3ed2f304b8300121d85523804c7affa520b3d0c", func := "loop.example/g00597/laws.FnExactWorldKeys", spec := "fnExactWorldKeys", apart := false, narrowed := true }
def FnExactWorldKeysUptoSaid : Prop := fnExactWorldKeysUptoRow.holds Try.pinned (OpenSpec.upto fnExactWorldKeysSpec)

/-- 'laws.FnExactRenewalSize', WHERE WHAT IT READS IS OF BULK AT MOST 1048576: true; the input reads as it did. -/
def fnExactRenewalSizeUptoRow : OpenClaim := { program := "ytoeokngpoibldaa", sum := "df56313dd7b321a0ea56d3fca3ed2f304b8300121d85523804c7affa520b3d0c", func := "loop.example/g00597/laws.FnExactRenewalSize", spec := "fnExactRenewalSize", apart := false, narrowed := true }
def FnExactRenewalSizeUptoSaid : Prop := fnExactRenewalSizeUptoRow.holds Try.pinned (OpenSpec.upto fnExactRenewalSizeSpec)

/-- 'laws.FnExactCountKind', WHERE WHAT IT READS IS OF BULK AT MOST 1048576: true; the input reads as it did. -/
def fnExactCountKindUptoRow : OpenClaim := { program := "ytoeokngpoibldaa", sum := "df56313dd7b321a0ea56d3fca3ed2f304b8300121d85523804c7affa520b3d0c", func := "loop.example/g00597/laws.FnExactCountKind", spec := "fnExactCountKind", apart := false, narrowed := true }
def FnExactCountKindUptoSaid : Prop := fnExactCountKindUptoRow.holds Try.pinned (OpenSpec.upto fnExactCountKindSpec)

end Rows
end Go.Proofs.Ytoeokngpoibldaa
