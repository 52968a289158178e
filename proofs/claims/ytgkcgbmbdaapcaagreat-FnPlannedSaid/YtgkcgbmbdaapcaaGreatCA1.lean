/- Contracts of the functions U3 the abstract machine, part A1. No condition. -/
import Derived.Test.YtgkcgbmbdaapcaaGreatL
import Derived.Test.YtgkcgbmbdaapcaaGreatTy
namespace Go.Proofs.YtgkcgbmbdaapcaaGreat
open Tryz
open Go.Vm Go.Mo
set_option maxHeartbeats 1000000
set_option maxRecDepth 100000
set_option linter.unusedSimpArgs false
set_option linter.unusedVariables false
theorem Na (a0 : List UInt8) : Sa 5 [rL 1 bR a0] [rB (Ti a0)] := by
 have f := me (Ti.eq_1 a0)
 refine so func5 ntmps5 ?_
 exact rt [.tmp 2] f
theorem Rs (a0 : List Int) (a1 : Int) : Sa 9 [rL 1 iR a0, rI a1] [rB (Ki a0 a1)] := by
 have f := me (Ki.eq_1 a0 a1)
 refine so func9 ntmps9 ?_
 refine lp1 (yq.eq_2 a0 a1) (fun J => Yd 18 [eL 0 1 a0 iR, eI 1 a1, eI 5 (J : Int)]) (fun n1 J => a0.length < n1 + J /\ J <= a0.length) (a0.length + 1) 0 (fun p1 J e1 j1 => ?_)
 refine cFf e1 ?_ ?_ <;> intro k2 h1 e1
 ·have i1 := ix h1
  have m2 := ml a0 (k2 0 _ rfl)
  have w1 := wr J
  simp [i1, ZC]
  refine rpS ?_
  refine cF e1 ?_ ?_ <;> intro k3 h2 e1
  ·have f := ms f e1
   exact rt [.tmp 4] f
  exact ny1 w1 e1
 have f := ms f e1
 exact rt [.tmp 4] f
end Go.Proofs.YtgkcgbmbdaapcaaGreat
