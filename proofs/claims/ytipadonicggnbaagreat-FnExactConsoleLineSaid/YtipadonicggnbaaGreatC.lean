/- Contracts of the functions Hb the abstract machine, part 1. No condition. -/
import Derived.Test.YtipadonicggnbaaGreatCA1
import Derived.Test.YtipadonicggnbaaGreatCI2
import Derived.Test.YtipadonicggnbaaGreatCS3
import Derived.Test.YtipadonicggnbaaGreatE
namespace Go.Proofs.YtipadonicggnbaaGreat
open Tryz
open Go.Vm Go.Mo
set_option maxHeartbeats 1000000
set_option maxRecDepth 100000
set_option linter.unusedSimpArgs false
set_option linter.unusedVariables false
theorem NT(A:ZF)(E:ByteArray)(t0:R maxLen A)(t1:R maxLen E):Sa 3 [A.row,rS E] [rB true]:=by
 refine(so func3 ntmps3)<|(cS ((E.size:Int)>1048576)) (fun m h=>?_) (fun h=>?_)
 ·exact rt _ e
 refine(aa (mw A 1048576))<|(cS (Rp A 1048576<0)) (fun m g=>?_) (fun g=>?_)
 ·exact rt _ e
 obtain⟨u,_⟩:=Cs.1 A 1048576 t0 Y Y g;obtain⟨c,_⟩:=Cs.2 A 1048576 t0 Y Y g;have T:=w0 A (sg u)
 have n:=zv t0 Y Y g;have t:=wS A;have S:=Dk A E u (show E.size<=_ by omega) n Y;have I:=Db A E u (show E.size<=_ by omega) n Y;have C:=DH A E Y;rw[FO A E u Y]at S;generalize yq A E=r at S I C;obtain⟨g,o⟩:=r;simp only[ZF.XI,ZP.XI,Tb]at c C;exact aa T.rd∘aa S∘ah [] T∘ah [] I∘aa (Rg g)∘ei∘av P∘aa T.rd∘aa (Rg A)∘ei∘bV (wA 32 A) (IQ A 1)∘aj (fun _=>Rg g)∘ei∘bV (wA 36 g) (IQ g 1)∘cH e (Is g 1)∘aa T.rd∘aa I.rd∘aa (Rg g)∘ei∘cH e (Is g 1)<|rt _ e
end Go.Proofs.YtipadonicggnbaaGreat
