/- Closed facts of the program. No condition. -/
import Derived.Test.YtdkobknehoecjaaGreatRows
import Derived.JoinedOf
namespace Go.Proofs.YtdkobknehoecjaaGreat
set_option maxRecDepth 100000
theorem pI : laidOutB Tryz.prog = true := by kernel_rfl
theorem pv : mapsRowed Tryz.prog = true := by kernel_rfl
end Go.Proofs.YtdkobknehoecjaaGreat
