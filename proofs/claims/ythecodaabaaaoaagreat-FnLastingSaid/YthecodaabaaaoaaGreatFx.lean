/- Closed facts of the program. No condition. -/
import Derived.Test.YthecodaabaaaoaaGreatRows
import Derived.JoinedOf
namespace Go.Proofs.YthecodaabaaaoaaGreat
set_option maxRecDepth 100000
theorem rF:laidOutB Tryz.prog=true:=by kernel_rfl
theorem rq:mapsRowed Tryz.prog=true:=by kernel_rfl
end Go.Proofs.YthecodaabaaaoaaGreat
