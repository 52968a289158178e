/- Closed facts of the program. No condition. -/
import Derived.Test.YtgkcgbmbdaapcaaGreatRows
import Derived.JoinedOf
namespace Go.Proofs.YtgkcgbmbdaapcaaGreat
set_option maxRecDepth 100000
theorem Lq : laidOutB Tryz.prog = true := by kernel_rfl
theorem HE : mapsRowed Tryz.prog = true := by kernel_rfl
end Go.Proofs.YtgkcgbmbdaapcaaGreat
