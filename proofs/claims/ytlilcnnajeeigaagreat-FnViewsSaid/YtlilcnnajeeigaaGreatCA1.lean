/- Contracts of the functions ON the abstract machine, part A1. No condition. -/
import Derived.Test.YtlilcnnajeeigaaGreatL
import Derived.Test.YtlilcnnajeeigaaGreatTy
namespace Go.Proofs.YtlilcnnajeeigaaGreat
open Tryz
open Go.Vm Go.Mo
set_option maxHeartbeats 1000000
set_option maxRecDepth 100000
set_option linter.unusedSimpArgs false
set_option linter.unusedVariables false
theorem Gh (a0 : List UInt8) : Sa 4 [rL 1 bR a0] [rB (Le a0)] := by
 have f := me (Le.eq_1 a0)
 refine so func4 ntmps4 ?_
 exact rt [.tmp 2] f
end Go.Proofs.YtlilcnnajeeigaaGreat
