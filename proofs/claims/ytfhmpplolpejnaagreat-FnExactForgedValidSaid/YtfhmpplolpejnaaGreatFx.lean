/- Closed facts of the program. No condition. -/
import Derived.Test.YtfhmpplolpejnaaGreatRows
import Derived.JoinedOf
namespace Go.Proofs.YtfhmpplolpejnaaGreat
set_option maxRecDepth 100000
theorem vi : laidOutB Tryz.prog = true := by kernel_rfl
theorem sQ : mapsRowed Tryz.prog = true := by kernel_rfl
end Go.Proofs.YtfhmpplolpejnaaGreat
