/-
  No cell of these rows narrows 'for every input' (looked for: loops, veiled, ifaces, maps, wideKeys, modest, calm, conditions, laid).
  DERIVED. THE GIVEN ROWS OF THIS SEAT. 10 by the template 'for every input the law returns true; each argument reads behind the call as it read before'; 0 by the template 'total and deterministic' (their statements: YtllfgbhplfhdkaaGreatTotals.lean).
  GIVEN WITH THE SEED: the statements are not yours to turn. If you find one false, say at which input.
  Laid BY PROGRAM, IN A SANDBOX (cutbox-rows.mjs): the forced cells as the released guide's own fill.sh prints them over the translation 1325db340f92e62c… (all of the seat's roots in one cut). By AI agents, Wed Nov 11 2026. No macro, syntax, notation, axiom, sorry.
-/
import Derived.Test.YtllfgbhplfhdkaaGreatChecked
import GoSem.Claim
import GoSem.ClaimJoined
import GoSem.ClaimMapViews
import Derived.JoinedTies
import Derived.KernelRfl
namespace Go.Proofs.YtllfgbhplfhdkaaGreat
/- THE CELL 'sum', in the pinned program and in every row, IS THE sha256 OF THE DUMP (.gsa) THAT YtllfgbhplfhdkaaGreatProg.lean LOADS. Nothing in Lean hashes anything: it is a label: what it is worth is what the hold of that sum in a sandbox is worth. -/
noncomputable def Tryz.pinned : Pinned := { name := "ytllfgbhplfhdkaagreat", sum := "1325db340f92e62cbcc3f362121deab5a3835b4cc44aa883627619c2febba98a", checked := Tryz.checked }
namespace Rows
def none {H : Type} : Left H := { results := [], args := [] }

/-- 'laws.FnExactFalseAuthorities': WHATEVER THE INPUT: true; the input reads as it did. -/
def fnExactFalseAuthoritiesSpec : ChangeSpec := { name := "fnExactFalseAuthorities", fn := fun _ => fun
  | [d] => { results := [.lit (.bool true)], args := [d] }
  | _ => none }
def fnExactFalseAuthoritiesRow : OpenClaim := { program := "ytllfgbhplfhdkaagreat", sum := "1325db340f92e62cbcc3f362121deab5a3835b4cc44aa883627619c2febba98a", func := "loop.example/g00597/laws.FnExactFalseAuthorities", spec := "fnExactFalseAuthorities", apart := false }
def FnExactFalseAuthoritiesSaid : Prop := fnExactFalseAuthoritiesRow.holds Tryz.pinned (OpenSpec.ofChange fnExactFalseAuthoritiesSpec)

/-- ITS FALSE NEIGHBOUR: 'it returns false'. Refute it at one input. -/
def fnExactFalseAuthoritiesWrong : ChangeSpec := { name := "fnExactFalseAuthorities", fn := fun _ => fun
  | [d] => { results := [.lit (.bool false)], args := [d] }
  | _ => none }
def FnExactFalseAuthoritiesWrongFalsely : Prop := fnExactFalseAuthoritiesRow.holds Tryz.pinned (OpenSpec.ofChange fnExactFalseAuthoritiesWrong)

/-- 'laws.FnExactStepRevoke': WHATEVER THE INPUT: true; the input reads as it did. -/
def fnExactStepRevokeSpec : ChangeSpec := { name := "fnExactStepRevoke", fn := fun _ => fun
  | [d1, d2] => { results := [.lit (.bool true)], args := [d1, d2] }
  | _ => none }
def fnExactStepRevokeRow : OpenClaim := { program := "ytllfgbhplfhdkaagreat", sum := "1325db340f92e62cbcc3f362121deab5a3835b4cc44aa883627619c2febba98a", func := "loop.example/g00597/laws.FnExactStepRevoke", spec := "fnExactStepRevoke", apart := false }
def FnExactStepRevokeSaid : Prop := fnExactStepRevokeRow.holds Tryz.pinned (OpenSpec.ofChange fnExactStepRevokeSpec)

/-- ITS FALSE NEIGHBOUR: 'it returns false'. Refute it at one input. -/
def fnExactStepRevokeWrong : ChangeSpec := { name := "fnExactStepRevoke", fn := fun _ => fun
  | [d1, d2] => { results := [.lit (.bool false)], args := [d1, d2] }
  | _ => none }
def FnExactStepRevokeWrongFalsely : Prop := fnExactStepRevokeRow.holds Tryz.pinned (OpenSpec.ofChange fnExactStepRevokeWrong)

/-- 'laws.FnExactStepTick': WHATEVER THE INPUT: true; the input reads as it did. -/
def fnExactStepTickSpec : ChangeSpec := { name := "fnExactStepTick", fn := fun _ => fun
  | [d1, d2] => { results := [.lit (.bool true)], args := [d1, d2] }
  | _ => none }
def fnExactStepTickRow : OpenClaim := { program := "ytllfgbhplfhdkaagreat", sum := "1325db340f92e62cbcc3f362121deab5a3835b4cc44aa883627619c2febba98a", func := "loop.example/g00597/laws.FnExactStepTick", spec := "fnExactStepTick", apart := false }
def FnExactStepTickSaid : Prop := fnExactStepTickRow.holds Tryz.pinned (OpenSpec.ofChange fnExactStepTickSpec)

/-- ITS FALSE NEIGHBOUR: 'it returns false'. Refute it at one input. -/
def fnExactStepTickWrong : ChangeSpec := { name := "fnExactStepTick", fn := fun _ => fun
  | [d1, d2] => { results := [.lit (.bool false)], args := [d1, d2] }
  | _ => none }
def FnExactStepTickWrongFalsely : Prop := fnExactStepTickRow.holds Tryz.pinned (OpenSpec.ofChange fnExactStepTickWrong)

/-- 'laws.FnExactStepForget': WHATEVER THE INPUT: true; the input reads as it did. -/
def fnExactStepForgetSpec : ChangeSpec := { name := "fnExactStepForget", fn := fun _ => fun
  | [d1, d2] => { results := [.lit (.bool true)], args := [d1, d2] }
  | _ => none }
def fnExactStepForgetRow : OpenClaim := { program := "ytllfgbhplfhdkaagreat", sum := "1325db340f92e62cbcc3f362121deab5a3835b4cc44aa883627619c2febba98a", func := "loop.example/g00597/laws.FnExactStepForget", spec := "fnExactStepForget", apart := false }
def FnExactStepForgetSaid : Prop := fnExactStepForgetRow.holds Tryz.pinned (OpenSpec.ofChange fnExactStepForgetSpec)

/-- ITS FALSE NEIGHBOUR: 'it returns false'. Refute it at one input. -/
def fnExactStepForgetWrong : ChangeSpec := { name := "fnExactStepForget", fn := fun _ => fun
  | [d1, d2] => { results := [.lit (.bool false)], args := [d1, d2] }
  | _ => none }
def FnExactStepForgetWrongFalsely : Prop := fnExactStepForgetRow.holds Tryz.pinned (OpenSpec.ofChange fnExactStepForgetWrong)

/-- 'laws.FnExactStepAnswer': WHATEVER THE INPUT: true; the input reads as it did. -/
def fnExactStepAnswerSpec : ChangeSpec := { name := "fnExactStepAnswer", fn := fun _ => fun
  | [d1, d2] => { results := [.lit (.bool true)], args := [d1, d2] }
  | _ => none }
def fnExactStepAnswerRow : OpenClaim := { program := "ytllfgbhplfhdkaagreat", sum := "1325db340f92e62cbcc3f362121deab5a3835b4cc44aa883627619c2febba98a", func := "loop.example/g00597/laws.FnExactStepAnswer", spec := "fnExactStepAnswer", apart := false }
def FnExactStepAnswerSaid : Prop := fnExactStepAnswerRow.holds Tryz.pinned (OpenSpec.ofChange fnExactStepAnswerSpec)

/-- ITS FALSE NEIGHBOUR: 'it returns false'. Refute it at one input. -/
def fnExactStepAnswerWrong : ChangeSpec := { name := "fnExactStepAnswer", fn := fun _ => fun
  | [d1, d2] => { results := [.lit (.bool false)], args := [d1, d2] }
  | _ => none }
def FnExactStepAnswerWrongFalsely : Prop := fnExactStepAnswerRow.holds Tryz.pinned (OpenSpec.ofChange fnExactStepAnswerWrong)

/-- 'laws.FnExactStepFake': WHATEVER THE INPUT: true; the input reads as it did. -/
def fnExactStepFakeSpec : ChangeSpec := { name := "fnExactStepFake", fn := fun _ => fun
  | [d1, d2, d3] => { results := [.lit (.bool true)], args := [d1, d2, d3] }
  | _ => none }
def fnExactStepFakeRow : OpenClaim := { program := "ytllfgbhplfhdkaagreat", sum := "1325db340f92e62cbcc3f362121deab5a3835b4cc44aa883627619c2febba98a", func := "loop.example/g00597/laws.FnExactStepFake", spec := "fnExactStepFake", apart := false }
def FnExactStepFakeSaid : Prop := fnExactStepFakeRow.holds Tryz.pinned (OpenSpec.ofChange fnExactStepFakeSpec)

/-- ITS FALSE NEIGHBOUR: 'it returns false'. Refute it at one input. -/
def fnExactStepFakeWrong : ChangeSpec := { name := "fnExactStepFake", fn := fun _ => fun
  | [d1, d2, d3] => { results := [.lit (.bool false)], args := [d1, d2, d3] }
  | _ => none }
def FnExactStepFakeWrongFalsely : Prop := fnExactStepFakeRow.holds Tryz.pinned (OpenSpec.ofChange fnExactStepFakeWrong)

/-- 'laws.FnExactStepSign': WHATEVER THE INPUT: true; the input reads as it did. -/
def fnExactStepSignSpec : ChangeSpec := { name := "fnExactStepSign", fn := fun _ => fun
  | [d1, d2, d3, d4, d5, d6] => { results := [.lit (.bool true)], args := [d1, d2, d3, d4, d5, d6] }
  | _ => none }
def fnExactStepSignRow : OpenClaim := { program := "ytllfgbhplfhdkaagreat", sum := "1325db340f92e62cbcc3f362121deab5a3835b4cc44aa883627619c2febba98a", func := "loop.example/g00597/laws.FnExactStepSign", spec := "fnExactStepSign", apart := false }
def FnExactStepSignSaid : Prop := fnExactStepSignRow.holds Tryz.pinned (OpenSpec.ofChange fnExactStepSignSpec)

/-- ITS FALSE NEIGHBOUR: 'it returns false'. Refute it at one input. -/
def fnExactStepSignWrong : ChangeSpec := { name := "fnExactStepSign", fn := fun _ => fun
  | [d1, d2, d3, d4, d5, d6] => { results := [.lit (.bool false)], args := [d1, d2, d3, d4, d5, d6] }
  | _ => none }
def FnExactStepSignWrongFalsely : Prop := fnExactStepSignRow.holds Tryz.pinned (OpenSpec.ofChange fnExactStepSignWrong)

/-- 'laws.FnExactStepForge': WHATEVER THE INPUT: true; the input reads as it did. -/
def fnExactStepForgeSpec : ChangeSpec := { name := "fnExactStepForge", fn := fun _ => fun
  | [d1, d2, d3, d4] => { results := [.lit (.bool true)], args := [d1, d2, d3, d4] }
  | _ => none }
def fnExactStepForgeRow : OpenClaim := { program := "ytllfgbhplfhdkaagreat", sum := "1325db340f92e62cbcc3f362121deab5a3835b4cc44aa883627619c2febba98a", func := "loop.example/g00597/laws.FnExactStepForge", spec := "fnExactStepForge", apart := false }
def FnExactStepForgeSaid : Prop := fnExactStepForgeRow.holds Tryz.pinned (OpenSpec.ofChange fnExactStepForgeSpec)

/-- ITS FALSE NEIGHBOUR: 'it returns false'. Refute it at one input. -/
def fnExactStepForgeWrong : ChangeSpec := { name := "fnExactStepForge", fn := fun _ => fun
  | [d1, d2, d3, d4] => { results := [.lit (.bool false)], args := [d1, d2, d3, d4] }
  | _ => none }
def FnExactStepForgeWrongFalsely : Prop := fnExactStepForgeRow.holds Tryz.pinned (OpenSpec.ofChange fnExactStepForgeWrong)

/-- 'laws.FnExactStepMove': WHATEVER THE INPUT: true; the input reads as it did. -/
def fnExactStepMoveSpec : ChangeSpec := { name := "fnExactStepMove", fn := fun _ => fun
  | [d1, d2, d3, d4] => { results := [.lit (.bool true)], args := [d1, d2, d3, d4] }
  | _ => none }
def fnExactStepMoveRow : OpenClaim := { program := "ytllfgbhplfhdkaagreat", sum := "1325db340f92e62cbcc3f362121deab5a3835b4cc44aa883627619c2febba98a", func := "loop.example/g00597/laws.FnExactStepMove", spec := "fnExactStepMove", apart := false }
def FnExactStepMoveSaid : Prop := fnExactStepMoveRow.holds Tryz.pinned (OpenSpec.ofChange fnExactStepMoveSpec)

/-- ITS FALSE NEIGHBOUR: 'it returns false'. Refute it at one input. -/
def fnExactStepMoveWrong : ChangeSpec := { name := "fnExactStepMove", fn := fun _ => fun
  | [d1, d2, d3, d4] => { results := [.lit (.bool false)], args := [d1, d2, d3, d4] }
  | _ => none }
def FnExactStepMoveWrongFalsely : Prop := fnExactStepMoveRow.holds Tryz.pinned (OpenSpec.ofChange fnExactStepMoveWrong)

/-- 'laws.FnExactStepRenew': WHATEVER THE INPUT: true; the input reads as it did. -/
def fnExactStepRenewSpec : ChangeSpec := { name := "fnExactStepRenew", fn := fun _ => fun
  | [d1, d2, d3, d4] => { results := [.lit (.bool true)], args := [d1, d2, d3, d4] }
  | _ => none }
def fnExactStepRenewRow : OpenClaim := { program := "ytllfgbhplfhdkaagreat", sum := "1325db340f92e62cbcc3f362121deab5a3835b4cc44aa883627619c2febba98a", func := "loop.example/g00597/laws.FnExactStepRenew", spec := "fnExactStepRenew", apart := false }
def FnExactStepRenewSaid : Prop := fnExactStepRenewRow.holds Tryz.pinned (OpenSpec.ofChange fnExactStepRenewSpec)

/-- ITS FALSE NEIGHBOUR: 'it returns false'. Refute it at one input. -/
def fnExactStepRenewWrong : ChangeSpec := { name := "fnExactStepRenew", fn := fun _ => fun
  | [d1, d2, d3, d4] => { results := [.lit (.bool false)], args := [d1, d2, d3, d4] }
  | _ => none }
def FnExactStepRenewWrongFalsely : Prop := fnExactStepRenewRow.holds Tryz.pinned (OpenSpec.ofChange fnExactStepRenewWrong)

/- THE SECOND FORM. 'bulk': how many values and letters a reading holds, each counted each time it is reached (what is shared counts as often as it is met; a slice's spare places count too). A statement '..UptoSaid' is the law's where the arguments, and the package variables that the reading takes, are together of bulk at most 1048576: NARROWER than '..Said'. Prove '..Said' where nothing that the law and all that it calls make is longer than what came in: it says more and counts as full. Else prove '..UptoSaid'. A law counts once. -/
mutual
def uptoBulk {H : Type} : DataW H → Nat
  | .lit (.string bytes) => bytes.length + 1
  | .lit _ => 1
  | .nil => 1
  | .ptr d => uptoBulk d + 1
  | .slice elems spare => uptoBulkAll elems + uptoBulkAll spare + 1
  | .agg parts => uptoBulkAll parts + 1
  | .iface _ d => uptoBulk d + 1
  | .map entries => uptoBulkEntries entries + 1
  | .held _ => 1
def uptoBulkAll {H : Type} : List (DataW H) → Nat
  | [] => 0
  | d :: r => uptoBulk d + uptoBulkAll r
def uptoBulkEntries {H : Type} : List (Lit × DataW H) → Nat
  | [] => 0
  | x :: r => uptoBulkEntry x + uptoBulkEntries r
def uptoBulkEntry {H : Type} : Lit × DataW H → Nat
  | (.string bytes, d) => bytes.length + uptoBulk d + 1
  | (_, d) => uptoBulk d + 1
 end
def uptoSmall : (H : Type) → List (DataW H) → Bool := fun _ ds => decide (uptoBulkAll ds ≤ 1048576)
def OpenSpec.upto (s : _root_.Go.ChangeSpec) : _root_.Go.OpenSpec := { _root_.Go.OpenSpec.ofChange s with cond := some uptoSmall }

/-- 'laws.FnExactFalseAuthorities', WHERE WHAT IT READS IS OF BULK AT MOST 1048576: true; the input reads as it did. -/
def fnExactFalseAuthoritiesUptoRow : OpenClaim := { program := "ytllfgbhplfhdkaagreat", sum := "1325db340f92e62cbcc3f362121deab5a3835b4cc44aa883627619c2febba98a", func := "loop.example/g00597/laws.FnExactFalseAuthorities", spec := "fnExactFalseAuthorities", apart := false, narrowed := true }
def FnExactFalseAuthoritiesUptoSaid : Prop := fnExactFalseAuthoritiesUptoRow.holds Tryz.pinned (OpenSpec.upto fnExactFalseAuthoritiesSpec)

/-- 'laws.FnExactStepRevoke', WHERE WHAT IT READS IS OF BULK AT MOST 1048576: true; the input reads as it did. -/
def fnExactStepRevokeUptoRow : OpenClaim := { program := "ytllfgbhplfhdkaagreat", sum := "1325db340f92e62cbcc3f362121deab5a3835b4cc44aa883627619c2febba98a", func := "loop.example/g00597/laws.FnExactStepRevoke", spec := "fnExactStepRevoke", apart := false, narrowed := true }
def FnExactStepRevokeUptoSaid : Prop := fnExactStepRevokeUptoRow.holds Tryz.pinned (OpenSpec.upto fnExactStepRevokeSpec)

/-- 'laws.FnExactStepTick', WHERE WHAT IT READS IS OF BULK AT MOST 1048576: true; the input reads as it did. -/
def fnExactStepTickUptoRow : OpenClaim := { program := "ytllfgbhplfhdkaagreat", sum := "1325db340f92e62cbcc3f362121deab5a3835b4cc44aa883627619c2febba98a", func := "loop.example/g00597/laws.FnExactStepTick", spec := "fnExactStepTick", apart := false, narrowed := true }
def FnExactStepTickUptoSaid : Prop := fnExactStepTickUptoRow.holds Tryz.pinned (OpenSpec.upto fnExactStepTickSpec)

/-- 'laws.FnExactStepForget', WHERE WHAT IT READS IS OF BULK AT MOST 1048576: true; the input reads as it did. -/
def fnExactStepForgetUptoRow : OpenClaim := { program := "ytllfgbhplfhdkaagreat", sum := "1325db340f92e62cbcc3f362121deab5a3835b4cc44aa883627619c2febba98a", func := "loop.example/g00597/laws.FnExactStepForget", spec := "fnExactStepForget", apart := false, narrowed := true }
def FnExactStepForgetUptoSaid : Prop := fnExactStepForgetUptoRow.holds Tryz.pinned (OpenSpec.upto fnExactStepForgetSpec)

/-- 'laws.FnExactStepAnswer', WHERE WHAT IT READS IS OF BULK AT MOST 1048576: true; the input reads as it did. -/
def fnExactStepAnswerUptoRow : OpenClaim := { program := "ytllfgbhplfhdkaagreat", sum := "1325db340f92e62cbcc3f362121deab5a3835b4cc44aa883627619c2febba98a", func := "loop.example/g00597/laws.FnExactStepAnswer", spec := "fnExactStepAnswer", apart := false, narrowed := true }
def FnExactStepAnswerUptoSaid : Prop := fnExactStepAnswerUptoRow.holds Tryz.pinned (OpenSpec.upto fnExactStepAnswerSpec)

/-- 'laws.FnExactStepFake', WHERE WHAT IT READS IS OF BULK AT MOST 1048576: true; the input reads as it did. -/
def fnExactStepFakeUptoRow : OpenClaim := { program := "ytllfgbhplfhdkaagreat", sum := "1325db340f92e62cbcc3f362121deab5a3835b4cc44aa883627619c2febba98a", func := "loop.example/g00597/laws.FnExactStepFake", spec := "fnExactStepFake", apart := false, narrowed := true }
def FnExactStepFakeUptoSaid : Prop := fnExactStepFakeUptoRow.holds Tryz.pinned (OpenSpec.upto fnExactStepFakeSpec)

/-- 'laws.FnExactStepSign', WHERE WHAT IT READS IS OF BULK AT MOST 1048576: true; the input reads as it did. -/
def fnExactStepSignUptoRow : OpenClaim := { program := "ytllfgbhplfhdkaagreat", sum := "1325db340f92e62cbcc3f362121deab5a3835b4cc44aa883627619c2febba98a", func := "loop.example/g00597/laws.FnExactStepSign", spec := "fnExactStepSign", apart := false, narrowed := true }
def FnExactStepSignUptoSaid : Prop := fnExactStepSignUptoRow.holds Tryz.pinned (OpenSpec.upto fnExactStepSignSpec)

/-- 'laws.FnExactStepForge', WHERE WHAT IT READS IS OF BULK AT MOST 1048576: true; the input reads as it did. -/
def fnExactStepForgeUptoRow : OpenClaim := { program := "ytllfgbhplfhdkaagreat", sum := "1325db340f92e62cbcc3f362121deab5a3835b4cc44aa883627619c2febba98a", func := "loop.example/g00597/laws.FnExactStepForge", spec := "fnExactStepForge", apart := false, narrowed := true }
def FnExactStepForgeUptoSaid : Prop := fnExactStepForgeUptoRow.holds Tryz.pinned (OpenSpec.upto fnExactStepForgeSpec)

/-- 'laws.FnExactStepMove', WHERE WHAT IT READS IS OF BULK AT MOST 1048576: true; the input reads as it did. -/
def fnExactStepMoveUptoRow : OpenClaim := { program := "ytllfgbhplfhdkaagreat", sum := "1325db340f92e62cbcc3f362121deab5a3835b4cc44aa883627619c2febba98a", func := "loop.example/g00597/laws.FnExactStepMove", spec := "fnExactStepMove", apart := false, narrowed := true }
def FnExactStepMoveUptoSaid : Prop := fnExactStepMoveUptoRow.holds Tryz.pinned (OpenSpec.upto fnExactStepMoveSpec)

/-- 'laws.FnExactStepRenew', WHERE WHAT IT READS IS OF BULK AT MOST 1048576: true; the input reads as it did. -/
def fnExactStepRenewUptoRow : OpenClaim := { program := "ytllfgbhplfhdkaagreat", sum := "1325db340f92e62cbcc3f362121deab5a3835b4cc44aa883627619c2febba98a", func := "loop.example/g00597/laws.FnExactStepRenew", spec := "fnExactStepRenew", apart := false, narrowed := true }
def FnExactStepRenewUptoSaid : Prop := fnExactStepRenewUptoRow.holds Tryz.pinned (OpenSpec.upto fnExactStepRenewSpec)

end Rows
end Go.Proofs.YtllfgbhplfhdkaaGreat
