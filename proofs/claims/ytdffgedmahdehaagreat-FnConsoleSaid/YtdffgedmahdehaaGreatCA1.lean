/- Contracts of the functions Gi the abstract machine, part A1. No condition. -/
import Derived.Test.YtdffgedmahdehaaGreatL
import Derived.Test.YtdffgedmahdehaaGreatTy
namespace Go.Proofs.YtdffgedmahdehaaGreat
open Tryz
open Go.Vm Go.Mo
set_option maxHeartbeats 1000000
set_option maxRecDepth 100000
set_option linter.unusedSimpArgs false
set_option linter.unusedVariables false
theorem pP(a0:List UInt8):Sa 5 [rL 1 bR a0] [rB (tk a0)]:=by have f:=me (tk.eq_1 a0);refine so func5 ntmps5 ?_;exact rt [.tmp 2] f
end Go.Proofs.YtdffgedmahdehaaGreat
