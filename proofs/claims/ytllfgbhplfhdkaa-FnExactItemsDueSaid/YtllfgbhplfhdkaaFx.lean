/- Closed facts of the program. No condition. -/
import Derived.Test.YtllfgbhplfhdkaaRows
import Derived.JoinedOf
namespace Go.Proofs.Ytllfgbhplfhdkaa
set_option maxRecDepth 100000
theorem laidF : laidOutB Try.prog = true := by kernel_rfl
theorem rowedF : mapsRowed Try.prog = true := by kernel_rfl
end Go.Proofs.Ytllfgbhplfhdkaa
