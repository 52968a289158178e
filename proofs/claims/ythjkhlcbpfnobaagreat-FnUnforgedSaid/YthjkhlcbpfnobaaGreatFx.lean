/- Closed facts of the program. No condition. -/
import Derived.Test.YthjkhlcbpfnobaaGreatRows
import Derived.JoinedOf
namespace Go.Proofs.YthjkhlcbpfnobaaGreat
set_option maxRecDepth 100000
theorem pH : laidOutB Tryz.prog = true := by kernel_rfl
theorem pj : mapsRowed Tryz.prog = true := by kernel_rfl
end Go.Proofs.YthjkhlcbpfnobaaGreat
