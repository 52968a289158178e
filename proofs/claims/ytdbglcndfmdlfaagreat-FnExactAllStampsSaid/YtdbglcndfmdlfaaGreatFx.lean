/- Closed facts of the program. No condition. -/
import Derived.Test.YtdbglcndfmdlfaaGreatRows
import Derived.JoinedOf
namespace Go.Proofs.YtdbglcndfmdlfaaGreat
set_option maxRecDepth 100000
theorem laidF : laidOutB Tryz.prog = true := by kernel_rfl
theorem rowedF : mapsRowed Tryz.prog = true := by kernel_rfl
end Go.Proofs.YtdbglcndfmdlfaaGreat
