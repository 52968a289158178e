/- Closed facts of the program. No condition. -/
import Derived.Test.YtjflhdkeibijaaaGreatRows
import Derived.JoinedOf
namespace Go.Proofs.YtjflhdkeibijaaaGreat
set_option maxRecDepth 100000
theorem CP : laidOutB Tryz.prog = true := by kernel_rfl
theorem Cs : mapsRowed Tryz.prog = true := by kernel_rfl
end Go.Proofs.YtjflhdkeibijaaaGreat
