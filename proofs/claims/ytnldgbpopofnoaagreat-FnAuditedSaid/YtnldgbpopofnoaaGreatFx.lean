/- Closed facts of the program. No condition. -/
import Derived.Test.YtnldgbpopofnoaaGreatRows
import Derived.JoinedOf
namespace Go.Proofs.YtnldgbpopofnoaaGreat
set_option maxRecDepth 100000
theorem D5 : laidOutB Tryz.prog = true := by kernel_rfl
theorem CD : mapsRowed Tryz.prog = true := by kernel_rfl
end Go.Proofs.YtnldgbpopofnoaaGreat
