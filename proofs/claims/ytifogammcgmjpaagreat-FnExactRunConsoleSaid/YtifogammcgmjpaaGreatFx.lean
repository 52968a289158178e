/- Closed facts of the program. No condition. -/
import Derived.Test.YtifogammcgmjpaaGreatRows
import Derived.JoinedOf
namespace Go.Proofs.YtifogammcgmjpaaGreat
set_option maxRecDepth 100000
theorem iJ:laidOutB Tryz.prog=true:=by kernel_rfl
theorem o1:mapsRowed Tryz.prog=true:=by kernel_rfl
end Go.Proofs.YtifogammcgmjpaaGreat
