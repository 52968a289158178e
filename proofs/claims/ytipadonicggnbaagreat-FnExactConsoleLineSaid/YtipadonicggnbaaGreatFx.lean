/- Closed facts of the program. No condition. -/
import Derived.Test.YtipadonicggnbaaGreatRows
import Derived.JoinedOf
namespace Go.Proofs.YtipadonicggnbaaGreat
set_option maxRecDepth 100000
theorem g7:laidOutB Tryz.prog=true:=by kernel_rfl
theorem lv:mapsRowed Tryz.prog=true:=by kernel_rfl
end Go.Proofs.YtipadonicggnbaaGreat
