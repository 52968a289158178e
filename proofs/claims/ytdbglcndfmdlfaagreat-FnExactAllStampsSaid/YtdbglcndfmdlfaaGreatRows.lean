/-
  No cell of these rows narrows 'for every input' (looked for: loops, veiled, ifaces, maps, wideKeys, modest, calm, conditions, laid).
  DERIVED. THE GIVEN ROWS OF THIS SEAT. 3 by the template 'for every input the law returns true; each argument reads behind the call as it read before'; 0 by the template 'total and deterministic' (their statements: YtdbglcndfmdlfaaGreatTotals.lean).
  GIVEN WITH THE SEED: the statements are not yours to turn. If you find one false, say at which input.
  Laid BY PROGRAM, IN A SANDBOX (cutbox-rows.mjs): the forced cells as the released guide's own fill.sh prints them over the translation 97c7f3670869e8b4… (all of the seat's roots in one cut). By AI agents, Wed Nov 11 2026. No macro, syntax, notation, axiom, sorry.
-/
import Derived.Test.YtdbglcndfmdlfaaGreatChecked
import GoSem.Claim
import GoSem.ClaimJoined
import GoSem.ClaimMapViews
import Derived.JoinedTies
import Derived.KernelRfl
namespace Go.Proofs.YtdbglcndfmdlfaaGreat
/- THE CELL 'sum', in the pinned program and in every row, IS THE sha256 OF THE DUMP (.gsa) THAT YtdbglcndfmdlfaaGreatProg.lean LOADS. Nothing in Lean hashes anything: it is a label: what it is worth is what the hold of that sum in a sandbox is worth. -/
noncomputable def Tryz.pinned : Pinned := { name := "ytdbglcndfmdlfaagreat", sum := "97c7f3670869e8b4df872e833ba890924f46e7234dd75ef5a01c2f38da5f89d9", checked := Tryz.checked }
namespace Rows
def none {H : Type} : Left H := { results := [], args := [] }

/-- 'laws.FnExactAllStamps': WHATEVER THE INPUT: true; the input reads as it did. -/
def fnExactAllStampsSpec : ChangeSpec := { name := "fnExactAllStamps", fn := fun _ => fun
  | [d] => { results := [.lit (.bool true)], args := [d] }
  | _ => none }
def fnExactAllStampsRow : OpenClaim := { program := "ytdbglcndfmdlfaagreat", sum := "97c7f3670869e8b4df872e833ba890924f46e7234dd75ef5a01c2f38da5f89d9", func := "loop.example/g00597/laws.FnExactAllStamps", spec := "fnExactAllStamps", unfollowed := true, recurses := true, apart := false }
def FnExactAllStampsSaid : Prop := fnExactAllStampsRow.holds Tryz.pinned (OpenSpec.ofChange fnExactAllStampsSpec)

/-- ITS FALSE NEIGHBOUR: 'it returns false'. Refute it at one input. -/
def fnExactAllStampsWrong : ChangeSpec := { name := "fnExactAllStamps", fn := fun _ => fun
  | [d] => { results := [.lit (.bool false)], args := [d] }
  | _ => none }
def FnExactAllStampsWrongFalsely : Prop := fnExactAllStampsRow.holds Tryz.pinned (OpenSpec.ofChange fnExactAllStampsWrong)

/-- 'laws.FnExactIsUnbrokenItem': WHATEVER THE INPUT: true; the input reads as it did. -/
def fnExactIsUnbrokenItemSpec : ChangeSpec := { name := "fnExactIsUnbrokenItem", fn := fun _ => fun
  | [d1, d2] => { results := [.lit (.bool true)], args := [d1, d2] }
  | _ => none }
def fnExactIsUnbrokenItemRow : OpenClaim := { program := "ytdbglcndfmdlfaagreat", sum := "97c7f3670869e8b4df872e833ba890924f46e7234dd75ef5a01c2f38da5f89d9", func := "loop.example/g00597/laws.FnExactIsUnbrokenItem", spec := "fnExactIsUnbrokenItem", apart := false }
def FnExactIsUnbrokenItemSaid : Prop := fnExactIsUnbrokenItemRow.holds Tryz.pinned (OpenSpec.ofChange fnExactIsUnbrokenItemSpec)

/-- ITS FALSE NEIGHBOUR: 'it returns false'. Refute it at one input. -/
def fnExactIsUnbrokenItemWrong : ChangeSpec := { name := "fnExactIsUnbrokenItem", fn := fun _ => fun
  | [d1, d2] => { results := [.lit (.bool false)], args := [d1, d2] }
  | _ => none }
def FnExactIsUnbrokenItemWrongFalsely : Prop := fnExactIsUnbrokenItemRow.holds Tryz.pinned (OpenSpec.ofChange fnExactIsUnbrokenItemWrong)

/-- 'laws.FnExactStepBackdate': WHATEVER THE INPUT: true; the input reads as it did. -/
def fnExactStepBackdateSpec : ChangeSpec := { name := "fnExactStepBackdate", fn := fun _ => fun
  | [d1, d2, d3] => { results := [.lit (.bool true)], args := [d1, d2, d3] }
  | _ => none }
def fnExactStepBackdateRow : OpenClaim := { program := "ytdbglcndfmdlfaagreat", sum := "97c7f3670869e8b4df872e833ba890924f46e7234dd75ef5a01c2f38da5f89d9", func := "loop.example/g00597/laws.FnExactStepBackdate", spec := "fnExactStepBackdate", apart := false }
def FnExactStepBackdateSaid : Prop := fnExactStepBackdateRow.holds Tryz.pinned (OpenSpec.ofChange fnExactStepBackdateSpec)

/-- ITS FALSE NEIGHBOUR: 'it returns false'. Refute it at one input. -/
def fnExactStepBackdateWrong : ChangeSpec := { name := "fnExactStepBackdate", fn := fun _ => fun
  | [d1, d2, d3] => { results := [.lit (.bool false)], args := [d1, d2, d3] }
  | _ => none }
def FnExactStepBackdateWrongFalsely : Prop := fnExactStepBackdateRow.holds Tryz.pinned (OpenSpec.ofChange fnExactStepBackdateWrong)

/- THE SECOND FORM. 'bulk': how many values and letters a reading holds, each counted each time it is reached (what is shared counts as often as it is met; a slice's spare places count too). A statement '..UptoSaid' is the law's where the arguments, and the package variables that the reading takes, are together of bulk at most 1048576: NARROWER than '..Said'. Prove '..Said' where nothing that the law and all that it calls make is longer than what came in: it says more and counts as full. Else prove '..UptoSaid'. A law counts once. -/
mutual
def uptoBulk {H : Type} : DataW H → Nat
  | .lit (.string bytes) => bytes.length + 1
  | .lit _ => 1
  | .nil => 1
  | .ptr d => uptoBulk d + 1
  | .slice elems spare => uptoBulkAll elems + uptoBulkAll spare + 1
  | .agg parts => uptoBulkAll parts + 1
  | .iface _ d => uptoBulk d + 1
  | .map entries => uptoBulkEntries entries + 1
  | .held _ => 1
def uptoBulkAll {H : Type} : List (DataW H) → Nat
  | [] => 0
  | d :: r => uptoBulk d + uptoBulkAll r
def uptoBulkEntries {H : Type} : List (Lit × DataW H) → Nat
  | [] => 0
  | x :: r => uptoBulkEntry x + uptoBulkEntries r
def uptoBulkEntry {H : Type} : Lit × DataW H → Nat
  | (.string bytes, d) => bytes.length + uptoBulk d + 1
  | (_, d) => uptoBulk d + 1
 end
def uptoSmall : (H : Type) → List (DataW H) → Bool := fun _ ds => decide (uptoBulkAll ds ≤ 1048576)
def OpenSpec.upto (s : _root_.Go.ChangeSpec) : _root_.Go.OpenSpec := { _root_.Go.OpenSpec.ofChange s with cond := some uptoSmall }

/-- 'laws.FnExactAllStamps', WHERE WHAT IT READS IS OF BULK AT MOST 1048576: true; the input reads as it did. -/
def fnExactAllStampsUptoRow : OpenClaim := { program := "ytdbglcndfmdlfaagreat", sum := "97c7f3670869e8b4df872e833ba890924f46e7234dd75ef5a01c2f38da5f89d9", func := "loop.example/g00597/laws.FnExactAllStamps", spec := "fnExactAllStamps", unfollowed := true, recurses := true, apart := false, narrowed := true }
def FnExactAllStampsUptoSaid : Prop := fnExactAllStampsUptoRow.holds Tryz.pinned (OpenSpec.upto fnExactAllStampsSpec)

/-- 'laws.FnExactIsUnbrokenItem', WHERE WHAT IT READS IS OF BULK AT MOST 1048576: true; the input reads as it did. -/
def fnExactIsUnbrokenItemUptoRow : OpenClaim := { program := "ytdbglcndfmdlfaagreat", sum := "97c7f3670869e8b4df872e833ba890924f46e7234dd75ef5a01c2f38da5f89d9", func := "loop.example/g00597/laws.FnExactIsUnbrokenItem", spec := "fnExactIsUnbrokenItem", apart := false, narrowed := true }
def FnExactIsUnbrokenItemUptoSaid : Prop := fnExactIsUnbrokenItemUptoRow.holds Tryz.pinned (OpenSpec.upto fnExactIsUnbrokenItemSpec)

/-- 'laws.FnExactStepBackdate', WHERE WHAT IT READS IS OF BULK AT MOST 1048576: true; the input reads as it did. -/
def fnExactStepBackdateUptoRow : OpenClaim := { program := "ytdbglcndfmdlfaagreat", sum := "97c7f3670869e8b4df872e833ba890924f46e7234dd75ef5a01c2f38da5f89d9", func := "loop.example/g00597/laws.FnExactStepBackdate", spec := "fnExactStepBackdate", apart := false, narrowed := true }
def FnExactStepBackdateUptoSaid : Prop := fnExactStepBackdateUptoRow.holds Tryz.pinned (OpenSpec.upto fnExactStepBackdateSpec)

end Rows
end Go.Proofs.YtdbglcndfmdlfaaGreat
