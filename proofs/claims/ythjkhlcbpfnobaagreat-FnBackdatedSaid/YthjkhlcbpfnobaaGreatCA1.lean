/- Contracts of the functions Oe the abstract machine, part A1. No condition. -/
import Derived.Test.YthjkhlcbpfnobaaGreatL
import Derived.Test.YthjkhlcbpfnobaaGreatTy
namespace Go.Proofs.YthjkhlcbpfnobaaGreat
open Tryz
open Go.Vm Go.Mo
set_option maxHeartbeats 1000000
set_option maxRecDepth 100000
set_option linter.unusedSimpArgs false
set_option linter.unusedVariables false
theorem CQ (a0 : List UInt8) : Sa 11 [rL 1 bR a0] [rB (Gz a0)] := by
 have f := me (Gz.eq_1 a0)
 refine so func11 ntmps11 ?_
 exact rt [.tmp 2] f
theorem H0 (a0 : List Int) (a1 : Int) : Sa 29 [rL 1 iR a0, rI a1] [rB (VS a0 a1)] := by
 have f := me (VS.eq_1 a0 a1)
 refine so func29 ntmps29 ?_
 refine lp1 (Wt.eq_2 a0 a1) (fun J => Y5 18 [eL 0 1 a0 iR, eI 1 a1, eI 5 (J : Int)]) (fun n1 J => a0.length < n1 + J /\ J <= a0.length) (a0.length + 1) 0 (fun p1 J e1 j1 => ?_)
 refine cFf e1 ?_ ?_ <;> intro k2 h1 e1
 ·have i1 := ix h1
  have m2 := ml a0 (k2 0 _ rfl)
  have w1 := wr J
  simp [i1, ZI]
  refine rpS ?_
  refine cF e1 ?_ ?_ <;> intro k3 h2 e1
  ·have f := ms f e1
   exact rt _ f
  exact ny1 w1 e1
 have f := ms f e1
 exact rt _ f
end Go.Proofs.YthjkhlcbpfnobaaGreat
