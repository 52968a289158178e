/- Closed facts of the program. No condition. -/
import Derived.Test.YthecodaabaaaoaaGreatRows
import Derived.JoinedOf
namespace Go.Proofs.YthecodaabaaaoaaGreat
set_option maxRecDepth 100000
theorem oT:laidOutB Tryz.prog=true:=by kernel_rfl
theorem ow:mapsRowed Tryz.prog=true:=by kernel_rfl
end Go.Proofs.YthecodaabaaaoaaGreat
