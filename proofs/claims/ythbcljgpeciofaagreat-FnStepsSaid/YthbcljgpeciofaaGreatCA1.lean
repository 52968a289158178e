/- Contracts of the functions NW the abstract machine, part A1. No condition. -/
import Derived.Test.YthbcljgpeciofaaGreatL
import Derived.Test.YthbcljgpeciofaaGreatTy
namespace Go.Proofs.YthbcljgpeciofaaGreat
open Tryz
open Go.Vm Go.Mo
set_option maxHeartbeats 1000000
set_option maxRecDepth 100000
set_option linter.unusedSimpArgs false
set_option linter.unusedVariables false
theorem D7 (a0 : List UInt8) : Sa 10 [rL 1 bR a0] [rB (F4 a0)] := by
 have f := me (F4.eq_1 a0)
 refine so func10 ntmps10 ?_
 exact rt [.tmp 2] f
end Go.Proofs.YthbcljgpeciofaaGreat
