/- Closed facts of the program. No condition. -/
import Derived.Test.YthbcljgpeciofaaGreatRows
import Derived.JoinedOf
namespace Go.Proofs.YthbcljgpeciofaaGreat
set_option maxRecDepth 100000
theorem B6 : laidOutB Tryz.prog = true := by kernel_rfl
theorem AN : mapsRowed Tryz.prog = true := by kernel_rfl
end Go.Proofs.YthbcljgpeciofaaGreat
