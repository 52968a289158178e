/- Contracts of the functions OB the abstract machine, part A1. No condition. -/
import Derived.Test.YtnldgbpopofnoaaGreatL
import Derived.Test.YtnldgbpopofnoaaGreatTy
namespace Go.Proofs.YtnldgbpopofnoaaGreat
open Tryz
open Go.Vm Go.Mo
set_option maxHeartbeats 1000000
set_option maxRecDepth 100000
set_option linter.unusedSimpArgs false
set_option linter.unusedVariables false
theorem EW (a0 : List UInt8) : Sa 4 [rL 1 bR a0] [rB (H5 a0)] := by
 have f := me (H5.eq_1 a0)
 refine so func4 ntmps4 ?_
 exact rt [.tmp 2] f
end Go.Proofs.YtnldgbpopofnoaaGreat
