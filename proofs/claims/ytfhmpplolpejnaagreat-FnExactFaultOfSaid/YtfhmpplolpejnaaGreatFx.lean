/- Closed facts of the program. No condition. -/
import Derived.Test.YtfhmpplolpejnaaGreatRows
import Derived.JoinedOf
namespace Go.Proofs.YtfhmpplolpejnaaGreat
set_option maxRecDepth 100000
theorem sO : laidOutB Tryz.prog = true := by kernel_rfl
theorem sn : mapsRowed Tryz.prog = true := by kernel_rfl
end Go.Proofs.YtfhmpplolpejnaaGreat
