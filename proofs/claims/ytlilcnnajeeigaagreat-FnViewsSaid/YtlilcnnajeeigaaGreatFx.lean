/- Closed facts of the program. No condition. -/
import Derived.Test.YtlilcnnajeeigaaGreatRows
import Derived.JoinedOf
namespace Go.Proofs.YtlilcnnajeeigaaGreat
set_option maxRecDepth 100000
theorem EV : laidOutB Tryz.prog = true := by kernel_rfl
theorem Ei : mapsRowed Tryz.prog = true := by kernel_rfl
end Go.Proofs.YtlilcnnajeeigaaGreat
