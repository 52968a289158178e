/- Closed facts of the program. No condition. -/
import Derived.Test.YtdffgedmahdehaaGreatRows
import Derived.JoinedOf
namespace Go.Proofs.YtdffgedmahdehaaGreat
set_option maxRecDepth 100000
theorem nL:laidOutB Tryz.prog=true:=by kernel_rfl
theorem nX:mapsRowed Tryz.prog=true:=by kernel_rfl
end Go.Proofs.YtdffgedmahdehaaGreat
