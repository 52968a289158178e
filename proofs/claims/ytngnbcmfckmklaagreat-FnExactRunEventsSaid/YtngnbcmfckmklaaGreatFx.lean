/- Closed facts of the program. No condition. -/
import Derived.Test.YtngnbcmfckmklaaGreatRows
import Derived.JoinedOf
namespace Go.Proofs.YtngnbcmfckmklaaGreat
set_option maxRecDepth 100000
theorem oT : laidOutB Tryz.prog = true := by kernel_rfl
theorem nA : mapsRowed Tryz.prog = true := by kernel_rfl
end Go.Proofs.YtngnbcmfckmklaaGreat
