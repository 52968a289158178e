/- Contracts of the functions Gi the abstract machine, part 1. No condition. -/
import Derived.Test.YtdffgedmahdehaaGreatCA1
import Derived.Test.YtdffgedmahdehaaGreatCI2
import Derived.Test.YtdffgedmahdehaaGreatCS2
namespace Go.Proofs.YtdffgedmahdehaaGreat
open Tryz
open Go.Vm Go.Mo
set_option maxHeartbeats 1000000
set_option maxRecDepth 4000
set_option linter.unusedSimpArgs false
set_option linter.unusedVariables false
theorem qD{a b:Prop}(h:b)(k:a:=by(intros;first|omega|with_unfolding_all (first|first|omega|(rename_i h;exact(Classical.em _).elim (fun p=>.inr (h p)) (fun n=>.inl (not_or.1 n)))|grind)|((try simp only[Yd,show ∀x,IntKind.i64.wrap x=W x from fun _=>rfl]at*);omega))):a/\b:=⟨k,h⟩
theorem DS(a0:List UInt8)(t0:Sm maxLen a0):Sa 3 [rL 1 bR a0] [rB (US a0)]:=by
 have f:=me (US.eq_1 a0);refine so func3 ntmps3 ?_;refine cRs (pP a0) ?_;refine cFo f ?_ ?_<;>intro k1 h1 f
 ·have q1:=h1;try simp at q1
  simp;exact rt [.tmp 2] f
 have q1:=h1;try simp at q1
 have u0:Sm 1048576 a0:=(by have z:=h1;simp[tk]at z;simp[Y9];omega);simp;refine cRs (N0 a0) ?_;refine cR (YN.rd (jX (ZQ a0).1 (ZQ a0).2 zAH zAH zAH zAH)) ?_;simp;repeat with_reducible refine qD ?_
 refine cG (fun gg=>PS (Zm (ZQ a0).1 (ZQ a0).2).1 (ZQ a0).1) ?_;simp;repeat with_reducible refine qD ?_
 refine cFo f ?_ ?_<;>intro k2 h2 f
 ·have q2:=h2;try simp at q2
  simp;exact rt [.tmp 2] f
 have q2:=h2;try simp at q2
 simp;refine lp1 (js.eq_2 a0) (fun J=>YM 101 [eL 0 1 a0 bR,eX 5 ((Zm (ZQ a0).1 (ZQ a0).2).1.row.map .d),(45,.one (.sref 45 0 0 10),[.arr false 1 (([(⟨#[119,111,114,108,100]⟩:ByteArray),(⟨#[97,117,100,105,116]⟩:ByteArray),(⟨#[112,108,97,110]⟩:ByteArray),(⟨#[108,105,97,114,115]⟩:ByteArray),(⟨#[115,104,111,119,32,48]⟩:ByteArray),(⟨#[106,117,100,103,101,32,49]⟩:ByteArray),(⟨#[104,105,100,101,32,49,32,48]⟩:ByteArray),(⟨#[100,117,101,32,48,32,53]⟩:ByteArray),(⟨#[115,105,122,101,32,49]⟩:ByteArray),(⟨#[]⟩:ByteArray)]:List ByteArray).map sR)]),eI 46 10,eI 47 (J:Int)]) (fun n1 J=>10<n1+J) 11 0 (fun p1 J e1 j1=>?_);try dsimp only at j1
 refine cFo e1 ?_ ?_<;>intro k4 h3 e1
 ·have q3:=h3;try simp at q3
  have w1:=wr J;have i2:=ik J ([(⟨#[119,111,114,108,100]⟩:ByteArray),(⟨#[97,117,100,105,116]⟩:ByteArray),(⟨#[112,108,97,110]⟩:ByteArray),(⟨#[108,105,97,114,115]⟩:ByteArray),(⟨#[115,104,111,119,32,48]⟩:ByteArray),(⟨#[106,117,100,103,101,32,49]⟩:ByteArray),(⟨#[104,105,100,101,32,49,32,48]⟩:ByteArray),(⟨#[100,117,101,32,48,32,53]⟩:ByteArray),(⟨#[115,105,122,101,32,49]⟩:ByteArray),(⟨#[]⟩:ByteArray)]:List ByteArray);have r1:=ZB (f:=sR) i2;try simp at r1
  simp[i2,r1,ZB];repeat with_reducible refine qD ?_
  refine cRs (YN.rd (jX (Zm (ZQ a0).1 (ZQ a0).2).1 (nth ([(⟨#[119,111,114,108,100]⟩:ByteArray),(⟨#[97,117,100,105,116]⟩:ByteArray),(⟨#[112,108,97,110]⟩:ByteArray),(⟨#[108,105,97,114,115]⟩:ByteArray),(⟨#[115,104,111,119,32,48]⟩:ByteArray),(⟨#[106,117,100,103,101,32,49]⟩:ByteArray),(⟨#[104,105,100,101,32,49,32,48]⟩:ByteArray),(⟨#[100,117,101,32,48,32,53]⟩:ByteArray),(⟨#[115,105,122,101,32,49]⟩:ByteArray),(⟨#[]⟩:ByteArray)]:List ByteArray) J) zAH zAH zAH zAH)) ?_;refine cRs (PS (Zm (ZQ a0).1 (ZQ a0).2).1 (Zm (Zm (ZQ a0).1 (ZQ a0).2).1 (nth ([(⟨#[119,111,114,108,100]⟩:ByteArray),(⟨#[97,117,100,105,116]⟩:ByteArray),(⟨#[112,108,97,110]⟩:ByteArray),(⟨#[108,105,97,114,115]⟩:ByteArray),(⟨#[115,104,111,119,32,48]⟩:ByteArray),(⟨#[106,117,100,103,101,32,49]⟩:ByteArray),(⟨#[104,105,100,101,32,49,32,48]⟩:ByteArray),(⟨#[100,117,101,32,48,32,53]⟩:ByteArray),(⟨#[115,105,122,101,32,49]⟩:ByteArray),(⟨#[]⟩:ByteArray)]:List ByteArray) J)).1) ?_;refine cFo e1 ?_ ?_<;>intro k5 h4 e1
  ·have q4:=h4;try simp at q4
   have f:=ms f e1;simp;exact rt [.tmp 2] f
  have q4:=h4;try simp at q4
  simp;exact ny1 w1 e1
 have q3:=h3;try simp at q3
 have f:=ms f e1;simp;refine cRs (Mp a0 (ZK (n:=1048576) zAF (xs u0))) ?_;refine cRs (YN.rd (EU (Zw a0) (by exact Nat.le_trans (xi a0) zAF))) ?_;refine lp2 (Jo.eq_2 a0) (fun ia iZ=>YM 101 [(11,.one (.d (.str (Zw a0))),[]),eL 12 1 (Xf (Zw a0)).1 sR,eB 13 (Xf (Zw a0)).2,eI 14 ia,eI 15 (iZ:Int)]) (fun n2 ia iZ=>(Zw a0).size<n2+iZ/\iZ<=(Zw a0).size/\(Zw a0).size<=1048576) ((Zw a0).size+1) 0 0 (fun p2 ia iZ e2 j2=>?_) (hI:=by exact⟨zAC,zAC,by have z:=xi a0;omega⟩);try dsimp only at j2
 refine cFo e2 ?_ ?_<;>intro k7 h5 e2
 ·have q5:=h5;try simp at q5
  have w2:=wr iZ;simp;repeat with_reducible refine qD ?_
  refine cFo e2 ?_ ?_<;>intro k8 h6 e2
  ·have q6:=h6;try simp at q6
   simp;exact ny2 w2 e2
  have q6:=h6;try simp at q6
  simp;exact ny2 w2 e2
 have q5:=h5;try simp at q5
 have f:=ms f e2;simp;repeat with_reducible refine qD ?_
 exact rt [.tmp 2] f
end Go.Proofs.YtdffgedmahdehaaGreat
