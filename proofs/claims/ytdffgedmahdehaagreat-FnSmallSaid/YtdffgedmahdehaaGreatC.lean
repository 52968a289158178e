/- Contracts of the functions Uw the abstract machine, part 1. No condition. -/
import Derived.Test.YtdffgedmahdehaaGreatCA1
import Derived.Test.YtdffgedmahdehaaGreatCI1
import Derived.Test.YtdffgedmahdehaaGreatCS1
namespace Go.Proofs.YtdffgedmahdehaaGreat
open Tryz
open Go.Vm Go.Mo
set_option maxHeartbeats 1000000
set_option maxRecDepth 4000
set_option linter.unusedSimpArgs false
set_option linter.unusedVariables false
theorem PH(a0:List UInt8)(t0:Sm maxLen a0):Sa 4 [rL 1 bR a0] [rB (xn a0)]:=by
 have f:=me (xn.eq_1 a0);refine so func4 ntmps4 ?_;refine cRs (LK a0) ?_;refine cFo f ?_ ?_<;>intro k1 h1 f
 ·have q1:=h1;try simp at q1
  simp;exact rt [.tmp 2] f
 have q1:=h1;try simp at q1
 have u0:Sm 1048576 a0:=(by have z:=h1;simp[OX]at z;simp[Z9];omega);simp;refine cRs (Zp.rd (q8 a0 (ZN (n:=1048576) fO (xs u0)))) ?_;refine cRs (Zp.rd (Wy (ZB a0).1 (ZB a0).2.1 (ZB a0).2.2 fN fN)) ?_;refine cRs (Zp.rd (W7 (ZB a0).1 (ZB a0).2.1 (ZB a0).2.2 fN fN)) ?_;refine cFo f ?_ ?_<;>intro k2 h2 f
 ·have q2:=h2;try simp at q2
  simp;exact rt [.tmp 2] f
 have q2:=h2;try simp at q2
 simp;refine cFo f ?_ ?_<;>intro k3 h3 f
 ·have q3:=h3;try simp at q3
  simp;exact rt [.tmp 2] f
 have q3:=h3;try simp at q3
 simp;refine cRs (Tw ((ZB a0).1.ZC.length:Int) ((ZB a0).2.2.length:Int)) ?_;refine lp1 (ze.eq_2 a0) (fun J=>Ys 92 [eX 3 ((ZB a0).1.row.map .d),eX 6 ((ZS (ZB a0).1 (ZB a0).2.1 (ZB a0).2.2).1.row.map .d),eI 10 (Xv ((ZB a0).1.ZC.length:Int) ((ZB a0).2.2.length:Int)),eI 11 (J:Int)]) (fun n1 J=>(ZS (ZB a0).1 (ZB a0).2.1 (ZB a0).2.2).1.ZC.length<n1+J/\J<=(ZS (ZB a0).1 (ZB a0).2.1 (ZB a0).2.2).1.ZC.length) ((ZS (ZB a0).1 (ZB a0).2.1 (ZB a0).2.2).1.ZC.length+1) 0 (fun p1 J e1 j1=>?_);try dsimp only at j1
 refine cFo e1 ?_ ?_<;>intro k5 h4 e1
 ·have q4:=h4;try simp at q4
  have i1:=ix h4;have m2:=ml (ZS (ZB a0).1 (ZB a0).2.1 (ZB a0).2.2).1.ZC (k5 47 _ rfl);have w1:=wr J;simp;refine dIo mixed ?_;simp[i1,ZI];refine rpS ?_;have i2:J<(ZB a0).1.ZC.length:=by first|omega|(have z:=WS (ZB a0).1 (ZB a0).2.1 (ZB a0).2.2;omega)
  refine cRf i2 (zw (nth (ZS (ZB a0).1 (ZB a0).2.1 (ZB a0).2.2).1.ZC J).ZJ) ?_;refine cRs (zw (nth (ZB a0).1.ZC J).ZJ) ?_;refine cFo e1 ?_ ?_<;>intro k7 h5 e1
  ·have q5:=h5;try simp at q5
   have f:=ms f e1;simp;exact rt [.tmp 2] f
  have q5:=h5;try simp at q5
  simp;exact ny1 w1 e1
 have q4:=h4;try simp at q4
 have f:=ms f e1;simp;refine dIs mixed ?_;refine cRs (xu (ZS (ZB a0).1 (ZB a0).2.1 (ZB a0).2.2).1) ?_;refine cRs (xu (ZB a0).1) ?_;refine cGs (fun gg=>xg (ZS (ZB a0).1 (ZB a0).2.1 (ZB a0).2.2).1) ?_;refine cGs (fun gg=>xg (ZB a0).1) ?_;refine cGs (fun gg=>j8 ((ZB a0).1.ZC.length:Int)) ?_;refine cGs (fun gg=>L9 (YO (ZB a0).1) (X2 ((ZB a0).1.ZC.length:Int))) ?_;exact rt [.tmp 2] f
end Go.Proofs.YtdffgedmahdehaaGreat
