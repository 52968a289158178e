/- Rows of the parameters' types are the rows of typed data. No condition. -/
import Derived.Test.YtifogammcgmjpaaGreatMo
import Derived.Test.YtifogammcgmjpaaGreatTy
namespace Go.Proofs.YtifogammcgmjpaaGreat
open Tryz
open Go.Vm Go.Mo
set_option maxRecDepth 100000
set_option linter.unusedSimpArgs false
set_option linter.unusedVariables false
theorem md{n:Nat}{L:List D}(h:bF prog (n+1) 9 L):∃x:ByteArray,L=N x/\R maxLen x:=by rw[bF,underlying9]at h;dsimp only at h;obtain⟨s,rfl,U⟩:=h;exact⟨s,rfl,U⟩
end Go.Proofs.YtifogammcgmjpaaGreat
