/- Rows of the parameters' types are the rows of typed data. No condition. -/
import Derived.Test.YtdffgedmahdehaaGreatMo
import Derived.Test.YtdffgedmahdehaaGreatTy
namespace Go.Proofs.YtdffgedmahdehaaGreat
open Tryz
open Go.Vm Go.Mo
set_option maxRecDepth 100000
set_option linter.unusedSimpArgs false
set_option linter.unusedVariables false
variable{n:Nat}
theorem m0{row:List D}(h:TyR prog (n+1) 5 row):∃x:UInt8,row=bR x/\Sm maxLen x:=by
  rw[TyR,underlying5]at h;dsimp only at h;obtain⟨m,rfl,h1,h2⟩:=h;have e1:IntKind.u8.min=0:=zAF
  have e2:IntKind.u8.max=255:=zAF;rw[e1]at h1;rw[e2]at h2;refine⟨UInt8.ofNat m.toNat,?_,trivial⟩;have:((UInt8.ofNat m.toNat).toNat:Int)=m:=by simp[UInt8.toNat_ofNat];omega
  simp only[bR,this]
theorem mQ{row:List D}(h:TyR prog (n+2) 22 row):∃x:List UInt8,row=(slR 1 bR) x/\Sm maxLen x:=by rw[TyR,underlying22]at h;dsimp only at h;obtain⟨rows,rfl,hl,hr⟩:=h;obtain⟨l,rfl,hs⟩:=vV (f:=bR) (n:=maxLen) (fun r fG=>m0 (n:=n+0) (hr r fG).1);exact⟨l,zAE,⟨by simpa using hl,hs⟩⟩
end Go.Proofs.YtdffgedmahdehaaGreat
