/- Contracts of the functions La the abstract machine, part A1. No condition. -/
import Derived.Test.YthecodaabaaaoaaGreatL
import Derived.Test.YthecodaabaaaoaaGreatTy
namespace Go.Proofs.YthecodaabaaaoaaGreat
open Tryz
open Go.Vm Go.Mo
set_option maxHeartbeats 1000000
set_option maxRecDepth 100000
set_option linter.unusedSimpArgs false
set_option linter.unusedVariables false
theorem sV(a0:List UInt8):Sa 5 [rL 1 bR a0] [rB (vi a0)]:=by
 have f:=me (vi.eq_1 a0);refine so func5 ntmps5 ?_;exact rt [.tmp 2] f
end Go.Proofs.YthecodaabaaaoaaGreat
