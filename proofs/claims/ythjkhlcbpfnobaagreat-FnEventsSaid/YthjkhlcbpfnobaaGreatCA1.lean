/- Contracts of the functions NL the abstract machine, part A1. No condition. -/
import Derived.Test.YthjkhlcbpfnobaaGreatL
import Derived.Test.YthjkhlcbpfnobaaGreatTy
namespace Go.Proofs.YthjkhlcbpfnobaaGreat
open Tryz
open Go.Vm Go.Mo
set_option maxHeartbeats 1000000
set_option maxRecDepth 100000
set_option linter.unusedSimpArgs false
set_option linter.unusedVariables false
theorem CH (a0 : List UInt8) : Sa 11 [rL 1 bR a0] [rB (E7 a0)] := by
 have f := me (E7.eq_1 a0)
 refine so func11 ntmps11 ?_
 exact rt [.tmp 2] f
theorem Bm {a b : Prop} (h : b) (k : a := by (intros; first | omega | with_unfolding_all (first | omega) | ((try simp only [XL, show ∀ x, IntKind.i64.wrap x = W x from fun _ => rfl] at *); omega))) : a /\ b := ⟨k, h⟩
theorem B1 (a0 : List UInt8) (a1 : Int) (u0 : 0 <= a1) : Sa 14 [rL 1 bR a0, rI a1] [rI (PN a0 a1)] := by
 have f := me (PN.eq_1 a0 a1)
 refine so func14 ntmps14 ?_
 refine cFf f ?_ ?_ <;> intro k1 h1 f
 ·have i1 : a1.toNat < a0.length := by (have z := h1; simp at z; omega)
  simp [i1, ZD]
  repeat with_reducible refine Bm ?_
  exact rt [.tmp 4] f
 exact rt [.tmp 4] f
end Go.Proofs.YthjkhlcbpfnobaaGreat
