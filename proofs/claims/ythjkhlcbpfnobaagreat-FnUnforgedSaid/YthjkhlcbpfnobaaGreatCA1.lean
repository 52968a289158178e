/- Contracts of the functions Mj the abstract machine, part A1. No condition. -/
import Derived.Test.YthjkhlcbpfnobaaGreatL
import Derived.Test.YthjkhlcbpfnobaaGreatTy
namespace Go.Proofs.YthjkhlcbpfnobaaGreat
open Tryz
open Go.Vm Go.Mo
set_option maxHeartbeats 1000000
set_option maxRecDepth 100000
set_option linter.unusedSimpArgs false
set_option linter.unusedVariables false
theorem tn (a0 : List UInt8) : Sa 11 [rL 1 bR a0] [rB (w7 a0)] := by
 have f := me (w7.eq_1 a0)
 refine so func11 ntmps11 ?_
 exact rt [.tmp 2] f
end Go.Proofs.YthjkhlcbpfnobaaGreat
