/- Contracts of the functions Gi the abstract machine, part I1. No condition. -/
import Derived.Test.YtdffgedmahdehaaGreatL
import Derived.Test.YtdffgedmahdehaaGreatTy
namespace Go.Proofs.YtdffgedmahdehaaGreat
open Tryz
open Go.Vm Go.Mo
set_option maxHeartbeats 1000000
set_option maxRecDepth 100000
set_option linter.unusedSimpArgs false
set_option linter.unusedVariables false
variable{a b:Prop}
theorem jA(h:b)(k:a:=by(intros;first|omega|with_unfolding_all (first|first|omega|(simp only[Bool.or_eq_true,beq_iff_eq]at*;omega)|(simp at*;omega))|(simp_all;done)|(simp_all;omega)|grind|((try simp only[Yd,show ∀x,IntKind.i64.wrap x=W x from fun _=>rfl]at*);omega))):a/\b:=⟨k,h⟩
theorem HI(a0:ByteArray)(a1:Int)(u0:Sm 2342912 a0):Sd 30 [rS a0,[.int .u8 a1]] [rL 1 sR (Zb a0 a1)]:=by
 have f:=me (Zb.eq_1 a0 a1);refine soD func30 ntmps30 ?_;refine lp3 (Qg.eq_2 a0 a1) (fun J U ib=>YM 35 [(0,.one (.d (.str a0)),[]),(1,.one (.d (.int .u8 a1)),[]),(5,.one (.sref 5 0 0 J.length),[.arr false 1 (J.map sR)]),eI 6 U,eI 7 (ib:Int)]) (fun n1 J U ib=>a0.size+1<n1+ib/\J.length<=ib/\0<=U/\U<=ib/\ib<=a0.size+1) (a0.size+2) ([]:List ByteArray) 0 0 (fun p1 J U ib e1 j1=>?_) (h0:=wkS [((5,0),none)] []);try dsimp only at j1
 refine cF e1 ?_ ?_<;>intro k2 h1 e1
 ·have c1:a0.size<=2342912:=Qh (xs u0);have w1:=wr ib;refine gIo ?_ ?_<;>intro G
  ·have fk:=G;have g1:=G;try simp at g1
   simp[G];repeat with_reducible refine jA ?_
   refine cKo e1 ?_ ?_<;>intro k3 h2 e1
   ·try(simp[G]at h2;done)
    all_goals
     simp[G];repeat with_reducible refine jA ?_
     exact nx3 e1 (hI:=by(have hh:=of_decide_eq_true h1;(try dsimp only);(try simp only[Yd]);(try simp only[List.length_append,List.length_singleton]);omega)) (hw:=Yk [((5,0),some (31,0))] [] rfl zCK)
   ·try(simp[G]at h2;done)
    all_goals
     simp[G];repeat with_reducible refine jA ?_
     exact ny3 (an w1 G) e1 (hI:=by(have hh:=of_decide_eq_true h1;(try dsimp only);(try simp only[Yd]);(try simp only[List.length_append,List.length_singleton]);omega))
  ·have fk:=G;simp[G];repeat with_reducible refine jA ?_
   refine cKo e1 ?_ ?_<;>intro k4 h3 e1
   ·try(simp[G]at h3;done)
    all_goals
     simp[G];repeat with_reducible refine jA ?_
     exact nx3 e1 (hI:=by(have hh:=of_decide_eq_true h1;(try dsimp only);(try simp only[Yd]);(try simp only[List.length_append,List.length_singleton]);omega)) (hw:=Yk [((5,0),some (31,0))] [] rfl zCK)
   ·try(simp[G]at h3;done)
    all_goals
     simp[G];repeat with_reducible refine jA ?_
     exact ny3 (an w1 G) e1 (hI:=by(have hh:=of_decide_eq_true h1;(try dsimp only);(try simp only[Yd]);(try simp only[List.length_append,List.length_singleton]);omega))
 have c2:a0.size<=2342912:=Qh (xs u0);exact rtD [.tmp 4] (ms f e1)
theorem IY(h:b)(k:a:=by(intros;first|omega|with_unfolding_all (first|first|omega|(have z:=YA (OX (n:=2338816+1) (a0:=a0) (a1:=32) (by have:=Qh u0;omega));omega))|((try simp only[Yd,show ∀x,IntKind.i64.wrap x=W x from fun _=>rfl]at*);omega))):a/\b:=⟨k,h⟩
theorem wj(a0:ByteArray)(u0:Sm 2338816 a0):Sd 56 [rS a0] [rL 1 sR (Zq a0)]:=by
 have f:=me (Zq.eq_1 a0);refine soD func56 ntmps56 ?_;refine cRs (YN.rd (HI a0 32 (sg u0))) ?_;refine lp2 (zY.eq_2 a0) (fun J U=>YM 21 [(3,.one (.sref 3 0 0 J.length),[.arr false 1 (J.map sR)]),eL 7 1 (Zb a0 32) sR,eI 8 ((Zb a0 32).length:Int),eI 9 (U:Int)]) (fun n1 J U=>(Zb a0 32).length<n1+U/\U<=(Zb a0 32).length/\J.length<=0+1*U) ((Zb a0 32).length+1) ([]:List ByteArray) 0 (fun p1 J U e1 j1=>?_) (h0:=wkS [((3,0),none)] []);try dsimp only at j1
 refine cFf e1 ?_ ?_<;>intro k2 h1 e1
 ·have i1:=ix h1;have m2:=ml (Zb a0 32) (k2 7 _ rfl);have w1:=wr U;simp[i1,ZB];repeat with_reducible refine IY ?_
  refine cFf e1 ?_ ?_<;>intro k3 h2 e1
  ·simp;repeat with_reducible refine IY ?_
   exact nx2 e1 (hw:=Yk [((3,0),some (18,0))] [] rfl zAe)
  exact ny2 w1 e1
 exact rtD [.tmp 2] (ms f e1)
theorem XG(a0:Int):Sa 60 [rI a0] [rS (Z8 a0)]:=by
 have f:=me (Z8.eq_1 a0);refine so func60 ntmps60 ?_;refine lp2 (QS.eq_2) (fun J U=>YM 30 [eI 0 J,(3,.one (.sref 3 0 0 U.length),[.arr false 1 (U.map bR)]),eB 4 (decide (a0<0))]) (fun n1 J U=>(n1=21\/J.natAbs<10^n1)/\U.length+n1=21) 21 a0 ([]:List UInt8) (fun p1 J U e1 j1=>?_) (hI:=by exact⟨zAC,.inl rfl,rfl⟩) (h0:=wkS [((3,0),none)] []);try dsimp only at j1
 refine cF e1 ?_ ?_<;>intro k2 h1 e1
 ·refine cF e1 ?_ ?_<;>intro k3 h2 e1
  ·have f:=ms f e1;refine cF f ?_ ?_<;>intro k4 h3 f
   ·refine toStr (l:=([UInt8.ofInt (W (48+W (-Int.tmod J 10)))]:List UInt8)++U) rfl rfl rfl zAE zAE zAE (by simp[yF,sO]) ?_;simp;refine rpS ?_;exact rt [.tmp 2] f
   refine toStr (l:=([UInt8.ofInt (W (48+W (-Int.tmod J 10)))]:List UInt8)++U) rfl rfl rfl zAE zAE zAE (by simp[yF,sO]) ?_;simp;exact rt [.tmp 2] f
  exact nx2 e1 (hI:=by(try dsimp only);obtain⟨s1,s2⟩:=sP j1.2.1 h2;refine⟨s1,s2,?_⟩;have:=j1.2.2;simp;omega) (hw:=wkS [((3,0),some (19,0))] [])
 refine cF e1 ?_ ?_<;>intro k5 h4 e1
 ·have f:=ms f e1;refine cF f ?_ ?_<;>intro k6 h5 f
  ·refine toStr (l:=([UInt8.ofInt (W (48+Int.tmod J 10))]:List UInt8)++U) rfl rfl rfl zAE zAE zAE (by simp[yF,sO]) ?_;simp;refine rpS ?_;exact rt [.tmp 2] f
  refine toStr (l:=([UInt8.ofInt (W (48+Int.tmod J 10))]:List UInt8)++U) rfl rfl rfl zAE zAE zAE (by simp[yF,sO]) ?_;simp;exact rt [.tmp 2] f
 exact nx2 e1 (hI:=by(try dsimp only);obtain⟨s1,s2⟩:=sP j1.2.1 h4;refine⟨s1,s2,?_⟩;have:=j1.2.2;simp;omega) (hw:=wkS [((3,0),some (19,0))] [])
theorem BC(h:b)(k:a:=by(intros;first|omega|with_unfolding_all (first|first|omega|(simp at h2;omega))|((try simp only[Yd,show ∀x,IntKind.i64.wrap x=W x from fun _=>rfl]at*);omega))):a/\b:=⟨k,h⟩
theorem xT(h:b)(k:a:=by(intros;first|omega|with_unfolding_all (first|first|omega|(simp at h2;omega))|(simp_all;done)|(simp_all;omega)|grind|((try simp only[Yd,show ∀x,IntKind.i64.wrap x=W x from fun _=>rfl]at*);omega))):a/\b:=⟨k,h⟩
theorem jr(a0:ByteArray)(u0:Sm 2338816 a0):Sa 99 [rS a0] [rI (Xo a0).1,rB (Xo a0).2]:=by
 have f:=me (Xo.eq_1 a0);refine so func99 ntmps99 ?_;refine cF f ?_ ?_<;>intro k1 h1 f
 ·exact rt [.tmp 2,.tmp 3] f
 refine lp2 (OK.eq_2 a0) (fun J U=>YM 46 [(0,.one (.d (.str a0)),[]),eI 4 J,eI 5 (U:Int)]) (fun n1 J U=>a0.size<n1+U/\U<=a0.size) (a0.size+1) 0 0 (fun p1 J U e1 j1=>?_);try dsimp only at j1
 refine cFf e1 ?_ ?_<;>intro k3 h2 e1
 ·have c1:a0.size<=2338816:=Qh (xs u0);have w1:=wr U;simp;repeat with_reducible refine BC ?_
  refine gIo ?_ ?_<;>intro G
  ·have fk:=G;have g1:=G;try simp at g1
   simp[G];repeat with_reducible refine xT ?_
   refine cKo e1 ?_ ?_<;>intro k4 h3 e1
   ·try(simp[G]at h3;done)
    all_goals
     have f:=ms f e1;simp[G];repeat with_reducible refine xT ?_
     exact rtg [.tmp 2,.tmp 3] f
   ·try(simp[G]at h3;done)
    all_goals
     simp[G];repeat with_reducible refine xT ?_
     exact ny2 (an w1 G) e1
  ·have fk:=G;simp[G];repeat with_reducible refine xT ?_
   refine cKo e1 ?_ ?_<;>intro k5 h4 e1
   ·try(simp[G]at h4;done)
    all_goals
     have f:=ms f e1;simp[G];repeat with_reducible refine xT ?_
     exact rtg [.tmp 2,.tmp 3] f
   ·try(simp[G]at h4;done)
    all_goals
     simp[G];repeat with_reducible refine xT ?_
     exact ny2 (an w1 G) e1
 have c2:a0.size<=2338816:=Qh (xs u0);have f:=ms f e1;refine cGs (fun gg=>XG J) ?_;refine cF f ?_ ?_<;>intro k6 h5 f
 ·exact rt [.tmp 2,.tmp 3] f
 exact rt [.tmp 2,.tmp 3] f
theorem TQ(a0:List ByteArray)(u0:Sm 2334720 a0):Sd 59 [rL 1 sR a0] [rL 1 iR (Ze a0).1,rB (Ze a0).2]:=by
 have f:=me (Ze.eq_1 a0);refine soD func59 ntmps59 ?_;refine lp2 (J3.eq_2 a0) (fun J U=>YM 28 [(4,.one (.sref 4 0 0 J.length),[.arr false 1 (J.map iR)]),eL 9 1 a0 sR,eI 10 (a0.length:Int),eI 11 (U:Int)]) (fun n1 J U=>a0.length<n1+U/\U<=a0.length/\J.length<=0+1*U) (a0.length+1) ([]:List Int) 0 (fun p1 J U e1 j1=>?_) (h0:=wkS [((4,0),none)] []);refine cFf e1 ?_ ?_<;>intro k2 h1 e1
 ·have i1:=ix h1;have m2:=ml a0 (k2 9 _ rfl);have c1:=sl 2334720 a0 u0;have w1:=wr U;simp[i1,ZB];refine rpS ?_;refine cRs (jr (nth a0 U) (sg (Zi u0))) ?_;refine cF e1 ?_ ?_<;>intro k3 h2 e1
  ·exact rtD [.tmp 2,.tmp 3] (ms f e1)
  exact nx2 e1 (hw:=Yk [((4,0),some (25,0))] [] rfl zAe)
 have c2:=sl 2334720 a0 u0;exact rtD [.tmp 2,.tmp 3] (ms f e1)
theorem Zu(a0 a1 a2:Int):Sa 50 [rI a0,rI a1,rI a2] [rB (ZP a0 a1 a2)]:=by have f:=me (ZP.eq_1 a0 a1 a2);refine so func50 ntmps50 ?_;exact rt [.tmp 6] f
theorem Ov(a0:Int):Sa 163 [rI a0] [rB (TE a0)]:=by have f:=me (TE.eq_1 a0);refine so func163 ntmps163 ?_;refine cRs (Zu a0 1 2147483646) ?_;exact rt [.tmp 2] f
theorem rh(a0 a1:Int):Sa 280 [rI a0,rI a1] [rI (pr a0 a1)]:=by
 have f:=me (pr.eq_1 a0 a1);refine so func280 ntmps280 ?_;refine cRs (Zu a1 1 1000000000000) ?_;refine cFo f ?_ ?_<;>intro k1 h1 f
 ·have q1:=h1;try simp[ZP]at q1
  simp;exact rt _ f
 have q1:=h1;try simp[ZP]at q1
 simp;refine rpS ?_;exact rt _ f
theorem AS(a0:List Int):Sa 234 [rL 1 iR a0] [rI (wO a0)]:=by
 have f:=me (wO.eq_1 a0);refine so func234 ntmps234 ?_;refine lp2 (Dq.eq_2 a0) (fun J U=>YM 21 [eI 3 J,eL 6 1 a0 iR,eI 7 (a0.length:Int),eI 8 (U:Int)]) (fun n1 J U=>a0.length<n1+U/\U<=a0.length) (a0.length+1) 11 0 (fun p1 J U e1 j1=>?_);refine cFf e1 ?_ ?_<;>intro k2 h1 e1
 ·have i1:=ix h1;have m2:=ml a0 (k2 6 _ rfl);have w1:=wr U;simp[i1,ZB];refine rpS ?_;refine cRs (rh (nth a0 U) 2147483647) ?_;exact ny2 w1 e1
 exact rt _ (ms f e1)
theorem NK(a0:Int)(a1:List Int)(u0:Sm 2330624 a1):Sa 164 [rI a0,rL 1 iR a1] [rI (ko a0 a1)]:=by have f:=me (ko.eq_1 a0 a1);have c1:=sl 2330624 a1 u0;refine so func164 ntmps164 ?_;refine cRs (AS ((([a0]:List Int)++a1)++([a0]:List Int))) ?_;exact rt _ f
theorem vH(a0 a1:Int):Sa 18 [rI a0,rI a1] [rI (uM a0 a1)]:=by have f:=me (uM.eq_1 a0 a1);refine so func18 ntmps18 ?_;exact rt [.tmp 4] f
theorem xM(a0:ZL):Sa 127 [a0.row] [rB (JU a0)]:=by
 have f:=me (JU.eq_1 a0);refine so func127 ntmps127 ?_;refine cRs (Zu a0.KK 0 999) ?_;refine cGs (fun gg=>Zu (a0.Yf.length:Int) 1 6) ?_;refine cFo f ?_ ?_<;>intro k1 h1 f
 ·have q1:=h1;try simp[ZP]at q1
  simp;exact rt _ f
 have q1:=h1;try simp[ZP]at q1
 simp;refine lp1 (SB.eq_2 a0) (fun J=>YM 46 [eX 1 (a0.row.map .d),eL 26 1 a0.Yf sR,eI 27 (a0.Yf.length:Int),eI 28 (J:Int)]) (fun n1 J=>a0.Yf.length<n1+J/\J<=a0.Yf.length) (a0.Yf.length+1) 0 (fun p1 J e1 j1=>?_);refine cFf e1 ?_ ?_<;>intro k3 h2 e1
 ·have i1:=ix h2;have w1:=wr J;simp[i1,ZB];refine rpS ?_;refine gIf ?_ ?_<;>intro G
  ·have i2:=ik J a0.Xl;simp[i2,ZB,G];refine rpG ?_;refine cGg (fun gg=>Zu (nth a0.Xl J) 1 1000000000000) ?_;refine cKo e1 ?_ ?_<;>intro k4 h3 e1
   ·have q3:=h3;try simp[ZP]at q3
    have f:=ms f e1;simp;refine rpG ?_;exact rtg _ f
   ·have q3:=h3;try simp[ZP]at q3
    simp;refine rpG ?_;exact ny1 (an w1 G) e1
  ·refine sGo ?_;simp;refine rpG ?_;refine cKo e1 ?_ ?_<;>intro k5 h4 e1
   ·have q4:=h4;try simp[ZP]at q4
    have f:=ms f e1;simp;refine rpG ?_;exact rtg _ f
   ·simp[G]at h4
 exact rt _ (ms f e1)
theorem HQ(a0:Int)(a1:List ByteArray)(a2:Int)(u0:Sm 2326528 a1):Sd 97 [rI a0,rL 1 sR a1,rI a2] [(X5 a0 a1 a2).1.row,rB (X5 a0 a1 a2).2]:=by
 have f:=me (X5.eq_1 a0 a1 a2);have c1:=sl 2326528 a1 u0;refine soD func97 ntmps97 ?_;refine cRs (Ov a2) ?_;refine cF f ?_ ?_<;>intro k1 h1 f
 ·exact rtD [.cell 6 53,.tmp 7] f
 refine okL fun k2=>?_;refine lp2 (yK.eq_2 a0 a1 a2) (fun J U=>YM 46 [eI 0 a0,eI 2 a2,(6,.one (.bptr 6 0),[.box [.d (.int .i64 0),.nil 1,.nil 1]]),(8,.one (.bptr 8 0),[.box [.d (.int .i64 a0),.sref 13 0 0 a1.length,.sref 8 3 0 U.length],.none,.none,.arr false 1 (U.map iR)]),(13,.any,[.arr false 1 (a1.map sR)]),eI 25 (a1.length:Int),eI 26 (J:Int)]) (fun n1 J U=>a1.length<n1+J/\J<=a1.length/\U.length<=0+1*J) (a1.length+1) 0 ([]:List Int) (fun p1 J U e1 j1=>?_) (h0:=wkS [((8,3),none)] []);refine cF e1 ?_ ?_<;>intro k3 h2 e1
 ·have i1:=ix h2;have m2:=ml a1 (k2 1 _ rfl);have w1:=wr J;refine dIs mixed ?_;refine cRs (NK a2 ([a0,(J:Int)]:List Int) zBp) ?_;refine cRs (vH 1 (ko a2 ([a0,(J:Int)]:List Int))) ?_;exact nx2 e1 (hw:=Yk [((8,3),some (38,0))] [] rfl zAe)
 have f:=ms f e1;refine cRs (xM (ZL.mk a0 a1 U)) ?_;refine cF f ?_ ?_<;>intro k5 h3 f
 ·exact rtD [.cell 6 53,.tmp 7] f
 exact rtD [.cell 6 53,.tmp 7] f
theorem CW(a0:ZT)(u0:Sm 2342912 a0):Sd 63 [a0.row] [(MD a0).row]:=by have f:=me (MD.eq_1 a0);have c1:=sl 2342912 a0.Zz u0;have c2:=sl 2342912 a0.ZC u0;have c3:=sl 2342912 a0.Methods u0;refine soD func63 ntmps63 ?_;exact rtD _ f
theorem EW(a0:ZT)(u0:Sm 2342912 a0):Sd 63 [a0.row] [a0.row]:=by have h:=CW a0 u0;rwa[D3]at h
theorem BP(a0:List Int)(u0:Sm 2342912 a0):Sd 64 [rL 1 iR a0] [rL 1 iR (IA a0)]:=by have f:=me (IA.eq_1 a0);have c1:=sl 2342912 a0 u0;refine soD func64 ntmps64 ?_;exact rtD [.tmp 2] f
theorem QN(a0:List Int)(u0:Sm 2342912 a0):Sd 64 [rL 1 iR a0] [rL 1 iR a0]:=by have h:=BP a0 u0;rwa[C0]at h
theorem HD(a0:ZL)(u0:Sm 2338816 a0):Sd 130 [a0.row] [(SZ a0).row]:=by have f:=me (SZ.eq_1 a0);refine soD func130 ntmps130 ?_;refine DB [2,3,4,5,0,1,6,7,8,9,10] mixed zAZ zAZ zAZ ?_;have c1:=sl 2338816 a0.Yf u0;simp;refine rpS ?_;refine cDs [false] (QN a0.Xl (sg (ZL.vd u0))) ?_;exact rtD [.cell 2 53] f
theorem L9(a0:ZL)(u0:Sm 2338816 a0):Sd 130 [a0.row] [a0.row]:=by have h:=HD a0 u0;rwa[HC]at h
theorem CN(a0:ZV)(u0:Sm 2338816 a0):Sd 208 [a0.row] [(MQ a0).row]:=by have f:=me (MQ.eq_1 a0);refine soD func208 ntmps208 ?_;refine cDs [false] (QN a0.YS (sg (ZV.Of u0))) ?_;exact rtD [.cell 2 98] f
theorem kF(a0:ZV)(u0:Sm 2338816 a0):Sd 208 [a0.row] [a0.row]:=by have h:=CN a0 u0;rwa[DE]at h
theorem F3(a0:List ZV)(u0:Sm 2334720 a0):Sd 134 [rL 3 ZV.row a0] [rL 3 ZV.row (U7 a0)]:=by
 have f:=me (U7.eq_1 a0);refine soD func134 ntmps134 ?_;refine lp2 (VA.eq_2 a0) (fun J U=>YM 19 [(3,.one (.sref 3 0 0 J.length),[.arr true 3 (J.map ZV.row)]),eL 6 3 a0 ZV.row,eI 7 (a0.length:Int),eI 8 (U:Int)]) (fun n1 J U=>a0.length<n1+U/\U<=a0.length/\J.length<=0+1*U) (a0.length+1) ([]:List ZV) 0 (fun p1 J U e1 j1=>?_) (h0:=wkS [((3,0),none)] []);refine cFf e1 ?_ ?_<;>intro k2 h1 e1
 ·have i1:=ix h1;have m2:=ml a0 (k2 6 _ rfl);have c1:=sl 2334720 a0 u0;have w1:=wr U;simp[i1,ZB];refine rpS ?_;refine cDs [true,false] (kF (nth a0 U) (sg (Zi u0))) ?_;refine qv ?_;simp;refine W9 (im:=J.map ZV.row) (news:=([nth a0 U]:List ZV).map ZV.row) (l1:=[(3,0)]) (l2:=[(14,1)]) (size:=3) ?_;simp;exact nx2 e1 (hw:=Yk [((3,0),some (16,0))] [] rfl zAe)
 exact rtD [.tmp 2] (ms f e1)
theorem Gg(a0:List ZV)(u0:Sm 2334720 a0):Sd 134 [rL 3 ZV.row a0] [rL 3 ZV.row a0]:=by have h:=F3 a0 u0;rwa[FW]at h
theorem Eh(a0:List ZX)(u0:Sm 2342912 a0):Sd 135 [rL 5 ZX.row a0] [rL 5 ZX.row (Oi a0)]:=by have f:=me (Oi.eq_1 a0);have c1:=sl 2342912 a0 u0;refine soD func135 ntmps135 ?_;exact rtD [.tmp 2] f
theorem GM(a0:List ZX)(u0:Sm 2342912 a0):Sd 135 [rL 5 ZX.row a0] [rL 5 ZX.row a0]:=by have h:=Eh a0 u0;rwa[EN]at h
theorem GO(a0:ZZ)(u0:Sm 2338816 a0):Sd 76 [a0.row] [(Rr a0).row]:=by have f:=me (Rr.eq_1 a0);have c1:=sl 2338816 a0.Path u0;refine soD func76 ntmps76 ?_;refine cDs [false] (GM a0.YK (sg (ZZ.Mc u0))) ?_;exact rtD [.cell 2 87] f
theorem RS(a0:ZZ)(u0:Sm 2338816 a0):Sd 76 [a0.row] [a0.row]:=by have h:=GO a0 u0;rwa[H7]at h
theorem EA(a0:ZU)(u0:Sm 2330624 a0):Sd 75 [a0.row] [(TG a0).row]:=by
 have f:=me (TG.eq_1 a0);refine soD func75 ntmps75 ?_;refine cDs [] (Gg a0.ZM (sg (ZU.XV u0))) ?_;refine lp2 (WS.eq_2 a0) (fun J U=>YM 26 [(2,.one (.bptr 2 0),[.box [.nil 3,.nil 5]]),(3,.one (.bptr 3 0),[.box [.sref 8 0 0 a0.ZM.length,.sref 3 2 0 U.length],.none,.arr true 5 (U.map ZZ.row)]),(8,.any,[.arr true 3 (a0.ZM.map ZV.row)]),eL 11 5 a0.ZR ZZ.row,eI 12 (a0.ZR.length:Int),eI 13 (J:Int)]) (fun n1 J U=>a0.ZR.length<n1+J/\J<=a0.ZR.length/\U.length<=0+1*J) (a0.ZR.length+1) 0 ([]:List ZZ) (fun p1 J U e1 j1=>?_) (h0:=wkS [((3,2),none)] []);refine cFf e1 ?_ ?_<;>intro k2 h1 e1
 ·have i1:=ix h1;have m2:=ml a0.ZR (k2 11 _ rfl);have c1:=sl 2330624 a0.ZR u0;have w1:=wr J;simp[i1,ZB];refine rpS ?_;refine drJ [22] mixed ?_;simp;refine cDs [true,true,true,false,false] (RS (nth a0.ZR J) (sg (Zi (ZU.KE u0)))) ?_;refine qv ?_;simp;refine W9 (im:=U.map ZZ.row) (news:=([nth a0.ZR J]:List ZZ).map ZZ.row) (l1:=[(3,2)]) (l2:=[(20,3),(20,4)]) (size:=5) ?_;simp;exact nx2 e1 (hw:=Yk [((3,2),some (22,0))] [] rfl zAe)
 have c2:=sl 2330624 a0.ZR u0;exact rtD [.cell 2 59] (ms f e1)
theorem Kx(a0:ZU)(u0:Sm 2330624 a0):Sd 75 [a0.row] [a0.row]:=by have h:=EA a0 u0;rwa[EM]at h
theorem Cu(a0:ZO)(u0:Sm 2326528 a0):Sd 73 [a0.row] [(Lq a0).row]:=by have f:=me (Lq.eq_1 a0);refine soD func73 ntmps73 ?_;refine cDs [true,false,false] (L9 a0.Doc (sg (ZO.KU u0))) ?_;refine cDs [] (Kx a0.ZN (sg (ZO.Yz u0))) ?_;exact rtD [.cell 2 61] f
theorem qQ(a0:ZO)(u0:Sm 2326528 a0):Sd 73 [a0.row] [a0.row]:=by have h:=Cu a0 u0;rwa[Bk]at h
theorem Hp(a0:ZD)(u0:Sm 2322432 a0):Sd 39 [a0.row] [(UB a0).row]:=by
 have f:=me (UB.eq_1 a0);refine soD func39 ntmps39 ?_;refine lp2 (kJ.eq_2 a0) (fun J U=>YM 25 [(2,.one (.bptr 2 0),[.box [.d (.int .i64 0),.nil 16]]),(3,.one (.bptr 3 0),[.box [.d (.int .i64 a0.Id),.sref 3 2 0 U.length],.none,.arr true 16 (U.map ZO.row)]),eL 10 16 a0.ZE ZO.row,eI 11 (a0.ZE.length:Int),eI 12 (J:Int)]) (fun n1 J U=>a0.ZE.length<n1+J/\J<=a0.ZE.length/\U.length<=0+1*J) (a0.ZE.length+1) 0 ([]:List ZO) (fun p1 J U e1 j1=>?_) (h0:=wkS [((3,2),none)] []);refine cFf e1 ?_ ?_<;>intro k2 h1 e1
 ·have i1:=ix h1;have m2:=ml a0.ZE (k2 10 _ rfl);have c1:=sl 2322432 a0.ZE u0;have w1:=wr J;simp[i1,ZB];refine rpS ?_;refine drJ [21] mixed ?_;simp;refine cDs [true,true,true,false,false] (qQ (nth a0.ZE J) (sg (Zi (ZD.YD u0)))) ?_;refine qv ?_;simp;refine W9 (im:=U.map ZO.row) (news:=([nth a0.ZE J]:List ZO).map ZO.row) (l1:=[(3,2)]) (l2:=[(19,3),(19,4),(19,14),(19,15)]) (size:=16) ?_;simp;exact nx2 e1 (hw:=Yk [((3,2),some (21,0))] [] rfl zAe)
 have c2:=sl 2322432 a0.ZE u0;exact rtD [.cell 2 44] (ms f e1)
theorem Yo(a0:ZD)(u0:Sm 2322432 a0):Sd 39 [a0.row] [a0.row]:=by have h:=Hp a0 u0;rwa[Gn]at h
theorem D4(a0:ZF)(u0:Sm 2318336 a0):Sd 24 [a0.row] [(Sp a0).row]:=by
 have f:=me (Sp.eq_1 a0);refine soD func24 ntmps24 ?_;refine dIs mixed ?_;have c1:=sl 2318336 a0.Zd u0;refine cDs [false,false,false] (EW a0.Frame (sg (ZF.Yx u0))) ?_;refine cDs [false] (QN a0.YW (sg (ZF.p9 u0))) ?_;refine cDs [false] (QN a0.XW (sg (ZF.wg u0))) ?_;refine cDs [false] (QN a0.XA (sg (ZF.rV u0))) ?_;refine cDs [false] (QN a0.Ym (sg (ZF.Mg u0))) ?_;refine lp2 (V1.eq_2 a0) (fun J U=>YM 44 [(2,.one (.bptr 2 0),[.box [.nil 5,.nil 3,.nil 4,.d (.int .i64 0),.d (.int .i64 0),.nil 7,.nil 1,.nil 2,.nil 1,.nil 1,.d (.int .i64 0),.nil 1]]),(3,.one (.bptr 3 0),[.box [.sref 8 0 0 a0.Frame.Zz.length,.sref 8 1 0 a0.Frame.ZC.length,.sref 8 2 0 a0.Frame.Methods.length,.d (.int .i64 a0.Frame.Jb),.d (.int .i64 a0.Frame.Now),.sref 12 0 0 a0.Zd.length,.sref 15 0 0 a0.YW.length,.sref 3 8 0 U.length,.sref 18 0 0 a0.XW.length,.sref 21 0 0 a0.XA.length,.d (.int .i64 a0.Next),.sref 26 0 0 a0.Ym.length],.none,.none,.none,.none,.none,.none,.none,.arr true 2 (U.map ZD.row)]),(8,.any,[.arr false 5 (a0.Frame.Zz.map Yg.row),.arr false 3 (a0.Frame.ZC.map Za.row),.arr false 4 (a0.Frame.Methods.map Z9.row)]),(12,.any,[.arr false 7 (a0.Zd.map YL.row)]),(15,.any,[.arr false 1 (a0.YW.map iR)]),(18,.any,[.arr false 1 (a0.XW.map iR)]),(21,.any,[.arr false 1 (a0.XA.map iR)]),(26,.any,[.arr false 1 (a0.Ym.map iR)]),eL 29 2 a0.ZA ZD.row,eI 30 (a0.ZA.length:Int),eI 31 (J:Int)]) (fun n1 J U=>a0.ZA.length<n1+J/\J<=a0.ZA.length/\U.length<=0+1*J) (a0.ZA.length+1) 0 ([]:List ZD) (fun p1 J U e1 j1=>?_) (h0:=wkS [((3,8),none)] []);refine cFf e1 ?_ ?_<;>intro k3 h1 e1
 ·have i1:=ix h1;have m2:=ml a0.ZA (k3 29 _ rfl);have c2:=sl 2318336 a0.ZA u0;have w1:=wr J;simp[i1,ZB];refine rpS ?_;refine drJ [40] mixed ?_;simp;refine cDs [] (Yo (nth a0.ZA J) (sg (Zi (ZF.Z6 u0)))) ?_;refine qv ?_;simp;refine W9 (im:=U.map ZD.row) (news:=([nth a0.ZA J]:List ZD).map ZD.row) (l1:=[(3,8)]) (l2:=[(38,1)]) (size:=2) ?_;simp;exact nx2 e1 (hw:=Yk [((3,8),some (40,0))] [] rfl zAe)
 exact rtD [.cell 2 33] (ms f e1)
theorem YT(a0:ZF)(u0:Sm 2318336 a0):Sd 24 [a0.row] [a0.row]:=by have h:=D4 a0 u0;rwa[CH]at h
theorem BN(a0:ZF)(a1:Int)(u0:Sm 2314240 a0):Sd 165 [a0.row,rI a1] [(ka a0 a1).1.row,rB (ka a0 a1).2]:=by
 have f:=me (ka.eq_1 a0 a1);refine soD func165 ntmps165 ?_;refine cDs [false,false,false,true,true,false,false,true,false,false,true,false] (YT a0 (sg u0)) ?_;refine cRs (Zu a1 0 100) ?_;refine cFo f ?_ ?_<;>intro k1 h1 f
 ·have q1:=h1;try simp[ZP]at q1
  simp;exact rtD _ f
 have q1:=h1;try simp[ZP]at q1
 simp;exact rtD _ f
theorem QJ(a0:List Yg)(a1:Int):Sa 118 [rL 5 Yg.row a0,rI a1] [rI (YU a0 a1)]:=by
 have f:=me (YU.eq_1 a0 a1);refine so func118 ntmps118 ?_;refine lp1 (Sw.eq_2 a0 a1) (fun J=>YM 20 [eI 1 a1,eL 7 5 a0 Yg.row,eI 8 (a0.length:Int),eI 9 (J:Int)]) (fun n1 J=>a0.length<n1+J/\J<=a0.length) (a0.length+1) 0 (fun p1 J e1 j1=>?_);refine cFf e1 ?_ ?_<;>intro k2 h1 e1
 ·have i1:=ix h1;have m2:=ml a0 (k2 7 _ rfl);have w1:=wr J;simp[i1,ZB];refine rpS ?_;refine cF e1 ?_ ?_<;>intro k3 h2 e1
  ·exact rt _ (ms f e1)
  exact ny1 w1 e1
 exact rt _ (ms f e1)
theorem kM(a0:List Z9)(a1:Int):Sa 238 [rL 4 Z9.row a0,rI a1] [rI (Zc a0 a1)]:=by
 have f:=me (Zc.eq_1 a0 a1);refine so func238 ntmps238 ?_;refine lp2 (Wj.eq_2 a0 a1) (fun J U=>YM 48 [eL 0 4 a0 Z9.row,eI 1 a1,eI 5 J,eL 8 4 a0 Z9.row,eI 9 (a0.length:Int),eI 10 (U:Int)]) (fun n1 J U=>a0.length<n1+U/\U<=a0.length/\-1<=J/\J<(a0.length:Int)) (a0.length+1) (-1) 0 (fun p1 J U e1 j1=>?_);refine cFf e1 ?_ ?_<;>intro k2 h1 e1
 ·have i1:=ix h1;have m2:=ml a0 (k2 0 _ rfl);have w1:=wr U;simp[i1,ZB];refine rpS ?_;refine dIs mixed ?_;refine gIf ?_ ?_<;>intro G
  ·have i2:=ik J.toNat a0;simp[i2,ZB,G];refine rpG ?_;refine cK e1 ?_ ?_<;>intro k4 h2 e1
   ·exact ny2 (an w1 G) e1
   ·exact ny2 (an w1 G) e1
  ·refine cK e1 ?_ ?_<;>intro k5 h3 e1
   ·exact ny2 (an w1 G) e1
   ·exact ny2 (an w1 G) e1
 have f:=ms f e1;refine cFt f ?_ ?_<;>intro k6 h4 f
 ·exact rt _ f
 have i4:=ik J.toNat a0;simp[i4,ZB];refine rpS ?_;exact rt _ f
theorem JC(a0:ZF)(a1:Int):Sa 100 [a0.row,rI a1] [rB (YH a0 a1)]:=by have f:=me (YH.eq_1 a0 a1);refine so func100 ntmps100 ?_;refine cRs (Zu a1 0 (W ((a0.ZA.length:Int)-1))) ?_;exact rt [.tmp 4] f
theorem wG(a0:List UInt8)(u0:Sm 2342912 a0):Sd 265 [rL 1 bR a0] [rL 1 iR (TY a0)]:=by
 have f:=me (TY.eq_1 a0);refine soD func265 ntmps265 ?_;refine lp2 (UN.eq_2 a0) (fun J U=>YM 19 [(3,.one (.sref 3 0 0 J.length),[.arr false 1 (J.map iR)]),eL 6 1 a0 bR,eI 7 (a0.length:Int),eI 8 (U:Int)]) (fun n1 J U=>a0.length<n1+U/\U<=a0.length/\J.length<=0+1*U) (a0.length+1) ([]:List Int) 0 (fun p1 J U e1 j1=>?_) (h0:=wkS [((3,0),none)] []);refine cFf e1 ?_ ?_<;>intro k2 h1 e1
 ·have i1:=ix h1;have m2:=ml a0 (k2 6 _ rfl);have c1:=sl 2342912 a0 u0;have w1:=wr U;simp[i1,ZB];refine rpS ?_;exact nx2 e1 (hw:=Yk [((3,0),some (16,0))] [] rfl zAe)
 exact rtD [.tmp 2] (ms f e1)
theorem JI(a0:Int)(a1:List Int)(u0:Sm 68719476736 a1):Sa 205 [rI a0,rL 1 iR a1] [rI (Je a0 a1)]:=by have f:=me (Je.eq_1 a0 a1);have c1:=sl 68719476736 a1 u0;refine so func205 ntmps205 ?_;refine cRs (AS (([7,a0]:List Int)++a1)) ?_;exact rt _ f
theorem Ut(a0:Int)(a1:ByteArray)(a2:Int)(u0:Sm 2326528 a1):Sa 207 [rI a0,rS a1,rI a2] [rI (je a0 a1 a2)]:=by have f:=me (je.eq_1 a0 a1 a2);refine so func207 ntmps207 ?_;have c1:a1.size<=2326528:=Qh (xs u0);refine ov (s:=a1) rfl rfl rfl zAE zAE zAE zAE zAC ?_;simp;refine cRs (YN.rd (wG a1.data.toList (by simp[Y9];first|omega|(simp[ByteArray.size]at*;omega)))) ?_;refine cRs (JI a0 (([a2]:List Int)++TY a1.data.toList) zAr) ?_;exact rt _ f
theorem yQ(a0:Int)(a1:ZL)(u0:Sm 2322432 a1):Sa 133 [rI a0,a1.row] [rI (Y5 a0 a1)]:=by
 have f:=me (Y5.eq_1 a0 a1);refine so func133 ntmps133 ?_;refine cRs (xM a1) ?_;refine cF f ?_ ?_<;>intro k1 h1 f
 ·exact rt [.tmp 4] f
 refine lp2 (PF.eq_2 a0 a1) (fun J U=>YM 37 [eI 0 a0,eX 3 (a1.row.map .d),(5,.one (.sref 5 0 0 J.length),[.arr false 1 (J.map iR)]),eL 15 1 a1.Yf sR,eI 16 (a1.Yf.length:Int),eI 17 (U:Int)]) (fun n1 J U=>a1.Yf.length<n1+U/\U<=a1.Yf.length/\J.length<=1+1*U) (a1.Yf.length+1) ([a1.KK]:List Int) 0 (fun p1 J U e1 j1=>?_) (h0:=wkS [((5,0),some (13,0))] []);refine cFf e1 ?_ ?_<;>intro k3 h2 e1
 ·have i1:=ix h2;have m2:=ml a1.Yf (k3 15 _ rfl);have c1:=sl 2322432 a1.Yf u0;have w1:=wr U;have i2:U<a1.Xl.length:=by(have:=Gk (a:=a1);first|(simp_all;done)|(simp_all;omega))
  simp[i1,ZB,i2];refine rpS ?_;refine cRs (Ut a0 (nth a1.Yf U) (nth a1.Xl U) (sg (Zi (ZL.UG u0)))) ?_;exact nx2 e1 (hw:=Yk [((5,0),some (32,0))] [] rfl zAe)
 have c2:=sl 2322432 a1.Yf u0;have f:=ms f e1;refine cRs (JI a0 J zAN) ?_;exact rt [.tmp 4] f
theorem kZ(a0:Zs):Sd 203 [a0.row] [rL 1 iR (X9 a0)]:=by have f:=me (X9.eq_1 a0);refine soD func203 ntmps203 ?_;exact rtD [.tmp 2] f
theorem Bs(a0:Yg)(a1:List Int)(u0:Sm 2326528 a1):Sa 197 [a0.row,rL 1 iR a1] [rI (L1 a0 a1)]:=by have f:=me (L1.eq_1 a0 a1);refine so func197 ntmps197 ?_;refine DB [2,3,4,5,6,0,1,7,8] mixed zAZ zAZ zAZ ?_;have c1:=sl 2326528 a1 u0;simp;refine rpS ?_;refine cRs (NK a0.Um (([a0.Method]:List Int)++a1) zAr) ?_;exact rt _ f
theorem UT(a0:List Yg)(a1:Int)(a2:List Int)(u0:Sm 2322432 a0)(u1:Sm 2322432 a2):Sa 115 [rL 5 Yg.row a0,rI a1,rL 1 iR a2] [rI (yN a0 a1 a2).1,rB (yN a0 a1 a2).2]:=by
 have f:=me (yN.eq_1 a0 a1 a2);refine so func115 ntmps115 ?_;refine cRs (QJ a0 a1) ?_;refine cFt f ?_ ?_<;>intro k1 h1 f
 ·exact rt _ f
 have i1:(YU a0 a1).toNat<a0.length:=by have:=Js a0 a1;exact il
 simp[i1,ZB];refine rpS ?_;refine cRs (Bs (nth a0 (YU a0 a1).toNat) a2 (sg u1)) ?_;exact rt _ f
theorem Vl(a0:Zs):Sa 313 [a0.row] [rB (j6 a0)]:=by have f:=me (j6.eq_1 a0);refine so func313 ntmps313 ?_;refine cRs (Zu a0.Key 1 99) ?_;refine cGs (fun gg=>Zu a0.Zk 1 999) ?_;refine cGs (fun gg=>Zu a0.Method 0 99) ?_;refine cGs (fun gg=>Zu a0.Org 0 99) ?_;refine cGs (fun gg=>Zu a0.kl 1 3) ?_;refine cGs (fun gg=>Zu a0.Y6 0 1000000000000) ?_;refine cGs (fun gg=>Zu a0.kj 0 1000000000000) ?_;refine cGs (fun gg=>Zu a0.Wl 0 1000000000000) ?_;exact rt _ f
theorem ES(a0:List Yg)(a1:Zs)(u0:Sm 2318336 a0):Sa 281 [rL 5 Yg.row a0,a1.row] [(Xe a0 a1).1.row,rB (Xe a0 a1).2]:=by
 have f:=me (Xe.eq_1 a0 a1);refine so func281 ntmps281 ?_;refine dIs mixed ?_;refine cRs (YN.rd (kZ a1)) ?_;refine cRs (UT a0 a1.Key (X9 a1) (sg u0) (by simp(maxDischargeDepth:=12) [kc,ZK (m:=2322432) zAF u0];try omega)) ?_;refine cRs (Vl a1) ?_;refine cF f ?_ ?_<;>intro k2 h1 f
 ·exact rt [.cell 4 55,.tmp 5] f
 exact rt [.cell 4 55,.tmp 5] f
theorem Sf(a0:Zs):Sd 129 [a0.row] [(XE a0).row]:=by have f:=me (XE.eq_1 a0);refine soD func129 ntmps129 ?_;refine dIs mixed ?_;refine cDs [false] (kZ a0) ?_;exact rtD [.cell 2 98] f
theorem PJ(a0:YL):Sd 116 [a0.row] [rL 1 iR (zE a0)]:=by have f:=me (zE.eq_1 a0);refine soD func116 ntmps116 ?_;exact rtD [.tmp 2] f
theorem Dz(a0:YL):Sd 282 [a0.row] [(zl a0).row]:=by have f:=me (zl.eq_1 a0);refine soD func282 ntmps282 ?_;refine dIs mixed ?_;refine cDs [false] (PJ a0) ?_;exact rtD [.cell 2 98] f
theorem jz(a0:ZD)(a1:Int):Sa 175 [a0.row,rI a1] [rI (Z1 a0 a1)]:=by
 have f:=me (Z1.eq_1 a0 a1);refine so func175 ntmps175 ?_;refine lp1 (TI.eq_2 a0 a1) (fun J=>YM 21 [eI 1 a1,eL 8 16 a0.ZE ZO.row,eI 9 (a0.ZE.length:Int),eI 10 (J:Int)]) (fun n1 J=>a0.ZE.length<n1+J/\J<=a0.ZE.length) (a0.ZE.length+1) 0 (fun p1 J e1 j1=>?_);refine cFf e1 ?_ ?_<;>intro k2 h1 e1
 ·have i1:=ix h1;have m2:=ml a0.ZE (k2 8 _ rfl);have w1:=wr J;simp[i1,ZB];refine rpS ?_;refine cF e1 ?_ ?_<;>intro k3 h2 e1
  ·exact rt _ (ms f e1)
  exact ny1 w1 e1
 exact rt _ (ms f e1)
theorem Km(a0:Int):Sa 126 [rI a0] [rB (qT a0)]:=by have f:=me (qT.eq_1 a0);refine so func126 ntmps126 ?_;refine cRs (Zu a0 0 10000) ?_;exact rt [.tmp 2] f
theorem yP(a0 a1:List Int):Sa 26 [rL 1 iR a0,rL 1 iR a1] [rB (zm a0 a1)]:=by
 have f:=me (zm.eq_1 a0 a1);refine so func26 ntmps26 ?_;refine cF f ?_ ?_<;>intro k1 h1 f
 ·exact rt _ f
 refine lp1 (V3.eq_2 a0 a1) (fun J=>YM 26 [eL 0 1 a0 iR,eL 1 1 a1 iR,eI 12 (a0.length:Int),eI 13 (J:Int)]) (fun n1 J=>a0.length<n1+J/\J<=a0.length) (a0.length+1) 0 (fun p1 J e1 j1=>?_);refine cF e1 ?_ ?_<;>intro k3 h2 e1
 ·have i1:=ix h2;have m2:=ml a0 (k3 0 _ rfl);have w1:=wr J;refine dIo mixed ?_;have i2:=ik J a1;simp[i1,ZB,i2];refine rpS ?_;refine cF e1 ?_ ?_<;>intro k5 h3 e1
  ·exact rt _ (ms f e1)
  exact ny1 w1 e1
 exact rt _ (ms f e1)
theorem jS(a0 a1:ZV):Sa 128 [a0.row,a1.row] [rB (Jz a0 a1)]:=by have f:=me (Jz.eq_1 a0 a1);refine so func128 ntmps128 ?_;refine cGs (fun gg=>yP a0.YS a1.YS) ?_;exact rt [.tmp 4] f
theorem V4(a0:List ZV)(a1:ZV):Sa 136 [rL 3 ZV.row a0,a1.row] [rB (VU a0 a1)]:=by
 have f:=me (VU.eq_1 a0 a1);refine so func136 ntmps136 ?_;refine lp1 (OU.eq_2 a0 a1) (fun J=>YM 17 [eX 3 (a1.row.map .d),eL 7 3 a0 ZV.row,eI 8 (a0.length:Int),eI 9 (J:Int)]) (fun n1 J=>a0.length<n1+J/\J<=a0.length) (a0.length+1) 0 (fun p1 J e1 j1=>?_);refine cFf e1 ?_ ?_<;>intro k2 h1 e1
 ·have i1:=ix h1;have m2:=ml a0 (k2 7 _ rfl);have w1:=wr J;simp[i1,ZB];refine rpS ?_;refine cRs (jS (nth a0 J) a1) ?_;refine cF e1 ?_ ?_<;>intro k3 h2 e1
  ·exact rt _ (ms f e1)
  exact ny1 w1 e1
 exact rt _ (ms f e1)
theorem R0(a0:ZU):Sa 77 [a0.row] [rB (kW a0)]:=by
 have f:=me (kW.eq_1 a0);refine so func77 ntmps77 ?_;refine cRs (Zu (a0.ZM.length:Int) 1 12) ?_;refine cFo f ?_ ?_<;>intro k1 h1 f
 ·have q1:=h1;try simp[ZP]at q1
  simp;exact rt _ f
 have q1:=h1;try simp[ZP]at q1
 simp;refine lp1 (TL.eq_2 a0) (fun J=>YM 65 [eX 1 (a0.row.map .d),eL 19 3 a0.ZM ZV.row,eI 20 (a0.ZM.length:Int),eI 21 (J:Int)]) (fun n1 J=>a0.ZM.length<n1+J/\J<=a0.ZM.length) (a0.ZM.length+1) 0 (fun p1 J e1 j1=>?_);refine cFf e1 ?_ ?_<;>intro k3 h2 e1
 ·have i1:=ix h2;have w1:=wr J;simp[i1,ZB];refine rpS ?_;refine dIs mixed ?_;refine cRs (V4 (a0.ZM.take J) (nth a0.ZM J)) ?_;refine cF e1 ?_ ?_<;>intro k5 h3 e1
  ·exact rt _ (ms f e1)
  exact ny1 w1 e1
 have f:=ms f e1;refine lp1 (U4.eq_2 a0) (fun ia=>YM 65 [eX 1 (a0.row.map .d),eL 34 5 a0.ZR ZZ.row,eI 35 (a0.ZR.length:Int),eI 36 (ia:Int)]) (fun n2 ia=>a0.ZR.length<n2+ia/\ia<=a0.ZR.length) (a0.ZR.length+1) 0 (fun p2 ia e2 j2=>?_);refine cFf e2 ?_ ?_<;>intro k7 h4 e2
 ·have i2:=ix h4;have w2:=wr ia;simp[i2,ZB];refine rpS ?_;refine dIs mixed ?_;refine cRs (Zu (nth a0.ZR ia).Count 1 (a0.ZM.length:Int)) ?_;refine gIf ?_ ?_<;>intro G
  ·have i3:=ik (ia-1) a0.ZR;have w3:IntKind.i64.wrap ((ia:Int)-1)=(ia:Int)-1:=YQ zAC zAC;simp[i3,ZB,w3,G];refine rpG ?_;refine cKo e2 ?_ ?_<;>intro k9 h5 e2
   ·have q5:=h5;try simp[ZP]at q5
    have f:=ms f e2;simp;refine rpG ?_;exact rtg _ f
   ·have q5:=h5;try simp[ZP]at q5
    simp;refine rpG ?_;exact ny1 (an w2 (an w3 G)) e2
  ·refine cKo e2 ?_ ?_<;>intro cv h6 e2
   ·have q6:=h6;try simp[ZP]at q6
    have f:=ms f e2;simp;refine rpG ?_;exact rtg _ f
   ·have q6:=h6;try simp[ZP]at q6
    simp;refine rpG ?_;exact ny1 (an w2 G) e2
 exact rt _ (ms f e2)
theorem FB(a0:ZO):Sa 72 [a0.row] [rB (I8 a0)]:=by
 have f:=me (I8.eq_1 a0);refine so func72 ntmps72 ?_;refine dIs mixed ?_;refine cRs (Zu a0.Id 1 999) ?_;refine cGs (fun gg=>Km a0.XL) ?_;refine cGs (fun gg=>xM a0.Doc) ?_;refine cGs (fun gg=>R0 a0.ZN) ?_;refine gIf ?_ ?_<;>intro G
 ·have g1:=G;try simp[ZP]at g1
  have i1:0<a0.ZN.ZM.length:=by have:=Dy (a:=a0.ZN);simp_all
  simp[i1,ZB,G];refine rpG ?_;refine cGg (fun gg=>YN.rd (Sf a0.Sig)) ?_;refine cGg (fun gg=>jS (nth a0.ZN.ZM 0) (XE a0.Sig)) ?_;exact rtg _ f
 ·refine sGo ?_;simp;refine rpG ?_;refine sGo ?_;simp;refine rpG ?_;exact rtg _ f
theorem yY(a0:ZD):Sa 38 [a0.row] [rB (zg a0)]:=by
 have f:=me (zg.eq_1 a0);refine so func38 ntmps38 ?_;refine lp1 (R4.eq_2 a0) (fun J=>YM 42 [eX 1 (a0.row.map .d),eL 6 16 a0.ZE ZO.row,eI 7 (a0.ZE.length:Int),eI 8 (J:Int)]) (fun n1 J=>a0.ZE.length<n1+J/\J<=a0.ZE.length) (a0.ZE.length+1) 0 (fun p1 J e1 j1=>?_);refine cFf e1 ?_ ?_<;>intro k2 h1 e1
 ·have i1:=ix h1;have m2:=ml a0.ZE (k2 6 _ rfl);have w1:=wr J;simp[i1,ZB];refine rpS ?_;refine dIs mixed ?_;refine cRs (FB (nth a0.ZE J)) ?_;refine gIf ?_ ?_<;>intro G
  ·have i2:=ik (J-1) a0.ZE;have w2:IntKind.i64.wrap ((J:Int)-1)=(J:Int)-1:=YQ zAC zAC;simp[i2,ZB,w2,G];refine rpG ?_;refine cK e1 ?_ ?_<;>intro k4 h2 e1
   ·exact rtg _ (ms f e1)
   ·exact ny1 (an w1 (an w2 G)) e1
  ·refine cK e1 ?_ ?_<;>intro k5 h3 e1
   ·exact rtg _ (ms f e1)
   ·exact ny1 (an w1 G) e1
 have f:=ms f e1;refine cRs (Zu a0.Id 0 99) ?_;exact rt _ f
theorem I5(a0:ZD)(a1:ZO)(u0:Sm 2318336 a0)(u1:Sm 2318336 a1):Sd 283 [a0.row,a1.row] [(K0 a0 a1).1.row,rB (K0 a0 a1).2]:=by
 have f:=me (K0.eq_1 a0 a1);refine soD func283 ntmps283 ?_;refine cRs (jz a0 a1.Id) ?_;refine cGs (fun gg=>yY a0) ?_;refine cF f ?_ ?_<;>intro k1 h1 f
 ·refine cDs [] (Yo a0 (sg u0)) ?_;exact rtD [.cell 4 44,.tmp 5] f
 refine cDs [] (Yo a0 (sg u0)) ?_;refine lp1 (RA.eq_2 a0 a1) (fun J=>YM 62 [eX 2 (a0.row.map .d),eX 3 (a1.row.map .d),(4,.one (.bptr 4 0),[.box [.d (.int .i64 0),.nil 16]]),(6,.one (.bptr 6 0),[.box [.d (.int .i64 a0.Id),.sref 21 1 0 a0.ZE.length]]),eI 7 (J:Int),(21,.any,[.none,.arr true 16 (a0.ZE.map ZO.row)])]) (fun n1 J=>a0.ZE.length<n1+J/\J<=a0.ZE.length) (a0.ZE.length+1) 0 (fun p1 J e1 j1=>?_);refine dIs mixed ?_;refine gIf ?_ ?_<;>intro G
 ·have i1:=ik J a0.ZE;simp[i1,ZB,G];refine rpG ?_;refine cK e1 ?_ ?_<;>intro k4 h2 e1
  ·try(simp[G]at h2;done)
   all_goals
    have i2:J<a0.ZE.length:=by(simp at h2;omega)
    have m2:=ml a0.ZE (k4 24 _ rfl);have c1:=sl 2318336 a0.ZE (an u0 u1);have w1:=wr J;exact ny1 (an w1 G) e1
  ·try(simp[G]at h2;done)
   all_goals
    have c2:=sl 2318336 a0.ZE (an u0 u1);have f:=ms f e1;refine sL [(3,3),(6,6),(41,6),(50,6),(55,6)] [] [45,49,54] mixed zAZ zAZ zAZ zAZ zAZ zAZ zAZ ?_;simp[G];refine rpG ?_;refine qv ?_;simp[G];refine rpG ?_;refine og (im:=([]:List ZO).map ZO.row) (rows:=a0.ZE.map ZO.row) (news:=(a0.ZE.take J).map ZO.row) (l1:=[(40,0)]) (size:=16) (u:=21) (j:=1) (lo:=0) (n:=J) rfl rfl rfl rfl zAE zAE zAE zAE zAE zAE zA8 (by simp[cut]) zAE zA8 ?_;simp[G];refine rpG ?_;refine cDg [true,true,true,false,false] (qQ a1 (sg u1)) ?_;refine qv ?_;have c3:=sl 2318336 (a0.ZE.take J) (an u0 u1);simp[G];refine rpG ?_;refine W9 (im:=(a0.ZE.take J).map ZO.row) (news:=([a1]:List ZO).map ZO.row) (l1:=[(45,0)]) (l2:=[(47,3),(47,4),(47,14),(47,15)]) (size:=16) ?_;simp[G];refine rpG ?_;refine og (im:=(a0.ZE.take J++([a1]:List ZO)).map ZO.row) (rows:=JL (a0.ZE.map ZO.row) 0 J) (news:=(a0.ZE.drop J).map ZO.row) (l1:=[(49,0)]) (size:=16) (u:=21) (j:=1) (lo:=J) (n:=a0.ZE.length-J) rfl rfl rfl rfl zAE zAE zAE zAE zAE zAE zB2 ((G7 zA8 zA8).trans (NQ _ _ _)) zAE zA8 ?_;simp[G];refine rpG ?_;refine cRg (yY (ZD.mk a0.Id ((a0.ZE.take J++([a1]:List ZO))++a0.ZE.drop J))) ?_;refine cK f ?_ ?_<;>intro k6 h3 f
    ·try(simp[G]at h3;done)
     all_goals
      refine cDg [] (Yo a0 (sg u0)) ?_;exact yA [.cell 4 44,.tmp 5] f
    ·try(simp[G]at h3;done)
     all_goals
      exact yA [.cell 4 44,.tmp 5] f
 ·refine cK e1 ?_ ?_<;>intro k7 h4 e1
  ·try(simp[G]at h4;done)
   all_goals
    have i4:J<a0.ZE.length:=by(simp at h4;omega)
    have m4:=ml a0.ZE (k7 24 _ rfl);have c4:=sl 2318336 a0.ZE (an u0 u1);have w2:=wr J;exact ny1 (an w2 G) e1
  ·try(simp[G]at h4;done)
   all_goals
    have c5:=sl 2318336 a0.ZE (an u0 u1);have f:=ms f e1;refine sL [(3,3),(6,6),(41,6),(50,6),(55,6)] [] [45,49,54] mixed zAZ zAZ zAZ zAZ zAZ zAZ zAZ ?_;simp[G];refine rpG ?_;refine qv ?_;simp[G];refine rpG ?_;refine og (im:=([]:List ZO).map ZO.row) (rows:=a0.ZE.map ZO.row) (news:=(a0.ZE.take J).map ZO.row) (l1:=[(40,0)]) (size:=16) (u:=21) (j:=1) (lo:=0) (n:=J) rfl rfl rfl rfl zAE zAE zAE zAE zAE zAE zA8 (by simp[cut]) zAE zA8 ?_;simp[G];refine rpG ?_;refine cDg [true,true,true,false,false] (qQ a1 (sg u1)) ?_;refine qv ?_;have c6:=sl 2318336 (a0.ZE.take J) (an u0 u1);simp[G];refine rpG ?_;refine W9 (im:=(a0.ZE.take J).map ZO.row) (news:=([a1]:List ZO).map ZO.row) (l1:=[(45,0)]) (l2:=[(47,3),(47,4),(47,14),(47,15)]) (size:=16) ?_;simp[G];refine rpG ?_;refine og (im:=(a0.ZE.take J++([a1]:List ZO)).map ZO.row) (rows:=JL (a0.ZE.map ZO.row) 0 J) (news:=(a0.ZE.drop J).map ZO.row) (l1:=[(49,0)]) (size:=16) (u:=21) (j:=1) (lo:=J) (n:=a0.ZE.length-J) rfl rfl rfl rfl zAE zAE zAE zAE zAE zAE zB2 ((G7 zA8 zA8).trans (NQ _ _ _)) zAE zA8 ?_;simp[G];refine rpG ?_;refine cRg (yY (ZD.mk a0.Id ((a0.ZE.take J++([a1]:List ZO))++a0.ZE.drop J))) ?_;refine cK f ?_ ?_<;>intro k9 h5 f
    ·try(simp[G]at h5;done)
     all_goals
      refine cDg [] (Yo a0 (sg u0)) ?_;exact yA [.cell 4 44,.tmp 5] f
    ·try(simp[G]at h5;done)
     all_goals
      exact yA [.cell 4 44,.tmp 5] f
theorem LK(a0:ZF)(a1 a2:Int)(a3:ZL)(a4 a5:Int)(u0:Sm 2314240 a0)(u1:Sm 2314240 a3):Sa 235 [a0.row,rI a1,rI a2,a3.row,rI a4,rI a5] [(XP a0 a1 a2 a3 a4 a5).1.row,rB (XP a0 a1 a2 a3 a4 a5).2]:=by
 have f:=me (XP.eq_1 a0 a1 a2 a3 a4 a5);refine so func235 ntmps235 ?_;refine cRs (kM a0.Frame.Methods a0.Frame.Now) ?_;refine cRs (JC a0 a1) ?_;refine cGs (fun gg=>QJ a0.Frame.Zz a2) ?_;have c1:=sl 2314240 a0.ZA (an u0 u1);have w1:IntKind.i64.wrap ((a0.ZA.length:Int)-1)=(a0.ZA.length:Int)-1:=YQ zAC zAC;refine cFo f ?_ ?_<;>intro k1 h1 f
 ·have q1:=h1;try simp[w1,YH,ZP]at q1
  simp;exact rt [.cell 12 33,.tmp 13] f
 have q1:=h1;try simp[w1,YH,ZP]at q1
 simp;refine lp1 (Jr.eq_2 a0 a1 a2 a3 a4 a5) (fun J=>YM 116 [eI 1 a1,eI 2 a2,eI 4 a4,eI 5 a5,eX 6 (a0.row.map .d),eX 9 (a3.row.map .d),(12,.one (.bptr 12 0),[.box [.nil 5,.nil 3,.nil 4,.d (.int .i64 0),.d (.int .i64 0),.nil 7,.nil 1,.nil 2,.nil 1,.nil 1,.d (.int .i64 0),.nil 1]]),eX 14 (a0.Frame.row.map .d),eI 15 (Zc a0.Frame.Methods a0.Frame.Now),eL 48 7 a0.Zd YL.row,eI 49 (a0.Zd.length:Int),eI 50 (J:Int)]) (fun n1 J=>a0.Zd.length<n1+J/\J<=a0.Zd.length) (a0.Zd.length+1) 0 (fun p1 J e1 j1=>?_);refine cFf e1 ?_ ?_<;>intro k3 h2 e1
 ·have i1:=ix h2;have m2:=ml a0.Zd (k3 48 _ rfl);have c2:=sl 2314240 a0.Zd (an u0 u1);have w2:=wr J;simp[i1,ZB];refine rpS ?_;refine cF e1 ?_ ?_<;>intro k4 h3 e1
  ·exact ny1 (an w1 w2) e1
  refine dIs mixed ?_;refine cRs (yQ (Zc a0.Frame.Methods a0.Frame.Now) a3 (sg u1)) ?_;refine cRs (ES a0.Frame.Zz (Zs.mk a2 (nth a0.Zd J).Zk (Zc a0.Frame.Methods a0.Frame.Now) (Y5 (Zc a0.Frame.Methods a0.Frame.Now) a3) 1 a4 0 0 0) (sg (ZT.XD (ZF.Yx u0)))) ?_;refine dIs mixed ?_;refine cRs (YN.rd (Sf (Xe a0.Frame.Zz (Zs.mk a2 (nth a0.Zd J).Zk (Zc a0.Frame.Methods a0.Frame.Now) (Y5 (Zc a0.Frame.Methods a0.Frame.Now) a3) 1 a4 0 0 0)).1)) ?_;refine cRs (YN.rd (Dz (nth a0.Zd J))) ?_;refine eIs ?_;refine dIo mixed ?_;have i2:=ik a1.toNat a0.ZA
  simp[i2,ZB];refine rpS ?_;refine cDs [] (I5 (nth a0.ZA a1.toNat) (ZO.mk a0.Next a5 a3 (Xe a0.Frame.Zz (Zs.mk a2 (nth a0.Zd J).Zk (Zc a0.Frame.Methods a0.Frame.Now) (Y5 (Zc a0.Frame.Methods a0.Frame.Now) a3) 1 a4 0 0 0)).1 (ZU.mk ([XE (Xe a0.Frame.Zz (Zs.mk a2 (nth a0.Zd J).Zk (Zc a0.Frame.Methods a0.Frame.Now) (Y5 (Zc a0.Frame.Methods a0.Frame.Now) a3) 1 a4 0 0 0)).1,zl (nth a0.Zd J)]:List ZV) ([]:List ZZ))) (sg (Zi (ZF.Z6 u0))) (by simp(maxDischargeDepth:=12) [TW,Y9,MP,Yw,ZK (m:=2318336) zAF u0,ZK (m:=2318336) zAF u1];try omega)) ?_;refine cF e1 ?_ ?_<;>intro k8 h4 e1
  ·exact rt [.cell 12 33,.tmp 13] (ms f e1)
  refine cDf i2 [false,false,false,true,true,false,false,true,false,false,true,false] (YT a0 (sg u0)) ?_;refine IV (t:=103) (j:=7) (i:=a1.toNat) (size:=2) (rows:=a0.ZA.map ZD.row) (ds:=(K0 (nth a0.ZA a1.toNat) (ZO.mk a0.Next a5 a3 (Xe a0.Frame.Zz (Zs.mk a2 (nth a0.Zd J).Zk (Zc a0.Frame.Methods a0.Frame.Now) (Y5 (Zc a0.Frame.Methods a0.Frame.Now) a3) 1 a4 0 0 0)).1 (ZU.mk ([XE (Xe a0.Frame.Zz (Zs.mk a2 (nth a0.Zd J).Zk (Zc a0.Frame.Methods a0.Frame.Now) (Y5 (Zc a0.Frame.Methods a0.Frame.Now) a3) 1 a4 0 0 0)).1,zl (nth a0.Zd J)]:List ZV) ([]:List ZZ)))).1.row) (L:=[(92,1)]) ?_;have f:=ms f e1
  simp[Ki (x:=(K0 (nth a0.ZA a1.toNat) (ZO.mk a0.Next a5 a3 (Xe a0.Frame.Zz (Zs.mk a2 (nth a0.Zd J).Zk (Zc a0.Frame.Methods a0.Frame.Now) (Y5 (Zc a0.Frame.Methods a0.Frame.Now) a3) 1 a4 0 0 0)).1 (ZU.mk ([XE (Xe a0.Frame.Zz (Zs.mk a2 (nth a0.Zd J).Zk (Zc a0.Frame.Methods a0.Frame.Now) (Y5 (Zc a0.Frame.Methods a0.Frame.Now) a3) 1 a4 0 0 0)).1,zl (nth a0.Zd J)]:List ZV) ([]:List ZZ)))).1) rfl,c1,i2,ZB,XH];refine rpS ?_;exact rt [.cell 12 33,.tmp 13] f
 exact rt [.cell 12 33,.tmp 13] (ms f e1)
theorem Bm(a0:ZF)(a1 a2:Int)(a3:ZL)(a4 a5:Int)(u0:Sm 2310144 a0)(u1:Sm 2310144 a3):Sd 166 [a0.row,rI a1,rI a2,a3.row,rI a4,rI a5] [(kU a0 a1 a2 a3 a4 a5).1.row,rB (kU a0 a1 a2 a3 a4 a5).2]:=by
 have f:=me (kU.eq_1 a0 a1 a2 a3 a4 a5);refine soD func166 ntmps166 ?_;refine cRs (QJ a0.Frame.Zz a2) ?_;refine dIs mixed ?_;refine gIf ?_ ?_<;>intro G
 ·have i1:(YU a0.Frame.Zz a2).toNat<a0.Frame.Zz.length:=by have:=Js a0.Frame.Zz a2;exact il
  simp[i1,ZB,G];refine rpG ?_;refine cK f ?_ ?_<;>intro k2 h1 f
  ·refine cDg [false,false,false,true,true,false,false,true,false,false,true,false] (YT a0 zAp) ?_;exact yA _ f
  ·refine cRg (LK a0 a1 a2 a3 a4 a5 (sg u0) (sg u1)) ?_;refine cDg [false,false,false,true,true,false,false,true,false,false,true,false] (YT (XP a0 a1 a2 a3 a4 a5).1 zBG) ?_;exact yA _ f
 ·refine cK f ?_ ?_<;>intro k3 h2 f
  ·refine cDg [false,false,false,true,true,false,false,true,false,false,true,false] (YT a0 zAp) ?_;exact yA _ f
  ·simp[G]at h2
theorem UM(a0:ZF)(a1:Int):Sa 101 [a0.row,rI a1] [rI (ZW a0 a1).1,rI (ZW a0 a1).2]:=by
 have f:=me (ZW.eq_1 a0 a1);refine so func101 ntmps101 ?_;refine lp1 (Sc.eq_2 a0 a1) (fun J=>YM 25 [eI 1 a1,eL 10 2 a0.ZA ZD.row,eI 11 (a0.ZA.length:Int),eI 12 (J:Int)]) (fun n1 J=>a0.ZA.length<n1+J/\J<=a0.ZA.length) (a0.ZA.length+1) 0 (fun p1 J e1 j1=>?_);refine cFf e1 ?_ ?_<;>intro k2 h1 e1
 ·have i1:=ix h1;have m2:=ml a0.ZA (k2 10 _ rfl);have w1:=wr J;simp[i1,ZB];refine rpS ?_;refine cRs (jz (nth a0.ZA J) a1) ?_;refine cF e1 ?_ ?_<;>intro k3 h2 e1
  ·exact rt _ (ms f e1)
  exact ny1 w1 e1
 exact rt _ (ms f e1)
theorem Kw(a0:ZV):Sa 314 [a0.row] [rI (XN a0)]:=by
 have f:=me (XN.eq_1 a0);refine so func314 ntmps314 ?_;refine dIs mixed ?_;refine gIf ?_ ?_<;>intro G
 ·have i1:=ik 0 a0.YS;simp[i1,ZB,G];refine rpG ?_;refine cGg (fun gg=>Zu (nth a0.YS 0) 101 105) ?_;refine gJf G ?_ ?_<;>intro G
  ·all_goals
    have g2:=G.2;try simp[ZP]at g2
    all_goals
     simp[i1,ZB,G];refine rpG ?_;refine gK (fun _=>?_);have r1:∀i:Nat,i<5->cut [At.d (.int .i64 7),At.d (.int .i64 5),At.d (.int .i64 5),At.d (.int .i64 9),At.d (.int .i64 6)] i 1=[At.d (.int .i64 (nth ([7,5,5,9,6]:List Int) i))]:=zBP
     have i2:(W (nth a0.YS 0-101)).toNat<5:=by first|omega|((try simp only[Yd]at*);omega)
     have r1b:=r1 _ i2;simp only[cut]at r1b;simp[r1b];refine rpG ?_;refine cKo f ?_ ?_<;>intro k2 h1 f
     ·have q1:=h1;try simp[ZP]at q1
      simp;refine rpG ?_;exact rtg _ f
     ·have q1:=h1;try simp[ZP]at q1
      simp[i1,ZB];refine rpG ?_;exact rtg _ f
  ·all_goals
    refine sGg ?_;refine cKo f ?_ ?_<;>intro k3 h2 f
    ·have q2:=h2;try simp[ZP]at q2
     simp;refine rpG ?_;exact rtg _ f
    ·simp[G]at h2
 ·refine sGo ?_;simp;refine rpG ?_;refine gJf G ?_ ?_<;>intro G
  ·try(simp at G;done)
   all_goals
    have g3:=G.2;try simp[ZP]at g3
    all_goals
     have i5:=ik 0 a0.YS;simp[i5,ZB,G];refine rpG ?_;refine gK (fun _=>?_);have r3:∀i:Nat,i<5->cut [At.d (.int .i64 7),At.d (.int .i64 5),At.d (.int .i64 5),At.d (.int .i64 9),At.d (.int .i64 6)] i 1=[At.d (.int .i64 (nth ([7,5,5,9,6]:List Int) i))]:=zBP;have i6:(W (nth a0.YS 0-101)).toNat<5:=zBF;have r3b:=r3 _ i6;simp only[cut]at r3b;simp[r3 _ i6,r3b,G];refine rpG ?_;refine cKo f ?_ ?_<;>intro k4 h3 f
     ·simp[G]at h3
     ·simp[G]at h3
  ·all_goals
    refine sGg ?_;refine cKo f ?_ ?_<;>intro k5 h4 f
    ·have q4:=h4;try simp[ZP]at q4
     simp;refine rpG ?_;exact rtg _ f
    ·simp[G]at h4
theorem SA(a0:ZV):Sa 284 [a0.row] [(Xg a0).1.row,rB (Xg a0).2]:=by
 have f:=me (Xg.eq_1 a0);refine so func284 ntmps284 ?_;refine dIs mixed ?_;refine cRs (Kw a0) ?_;refine gIf ?_ ?_<;>intro G
 ·have fk:=G;have g1:=G;try simp at g1
  have i1:6<a0.YS.length:=zAK;simp[i1,ZB,G];refine rpG ?_;refine cK f ?_ ?_<;>intro k2 h1 f
  ·try(simp[G]at h1;done)
   all_goals
    exact rtg [.cell 2 72,.tmp 3] f
  ·try(simp[G]at h1;done)
   all_goals
    refine dIo mixed ?_;have i2:1<a0.YS.length:=zAK
    have i3:2<a0.YS.length:=zAK;have i4:3<a0.YS.length:=zAK;have i5:4<a0.YS.length:=zAK;have i6:5<a0.YS.length:=zAK;simp[i2,ZB,i3,i4,i5,i6,i1,G];refine rpG ?_;exact rtg [.cell 2 72,.tmp 3] f
 ·have fk:=G;refine cK f ?_ ?_<;>intro k4 h2 f
  ·try(simp[G]at h2;done)
   all_goals
    exact rtg [.cell 2 72,.tmp 3] f
  ·try(simp[G]at h2;done)
   all_goals
    refine dIo mixed ?_;have i8:1<a0.YS.length:=zAK
    have i9:2<a0.YS.length:=zAK;have i10:3<a0.YS.length:=zAK;have i11:4<a0.YS.length:=zAK;have i12:5<a0.YS.length:=zAK;have i13:6<a0.YS.length:=zAK;simp[i8,ZB,i9,i10,i11,i12,i13,G];refine rpG ?_;exact rtg [.cell 2 72,.tmp 3] f
theorem LC(a0:List YL)(a1:Int):Sa 259 [rL 7 YL.row a0,rI a1] [rI (VI a0 a1)]:=by
 have f:=me (VI.eq_1 a0 a1);refine so func259 ntmps259 ?_;refine lp1 (TH.eq_2 a0 a1) (fun J=>YM 20 [eI 1 a1,eL 7 7 a0 YL.row,eI 8 (a0.length:Int),eI 9 (J:Int)]) (fun n1 J=>a0.length<n1+J/\J<=a0.length) (a0.length+1) 0 (fun p1 J e1 j1=>?_);refine cFf e1 ?_ ?_<;>intro k2 h1 e1
 ·have i1:=ix h1;have m2:=ml a0 (k2 7 _ rfl);have w1:=wr J;simp[i1,ZB];refine rpS ?_;refine cF e1 ?_ ?_<;>intro k3 h2 e1
  ·exact rt _ (ms f e1)
  exact ny1 w1 e1
 exact rt _ (ms f e1)
theorem N3(h:b)(k:a:=by(intros;first|omega|with_unfolding_all (first|first|omega|(have fi:=QH a0 a1 zAX;omega)|(simp only[Bool.or_eq_false_iff,decide_eq_false_iff_not]at*;omega))|(simp_all;done)|(simp_all;omega)|grind|((try simp only[Yd,show ∀x,IntKind.i64.wrap x=W x from fun _=>rfl]at*);omega))):a/\b:=⟨k,h⟩
theorem FF(a0:ZF)(a1:Int):Sa 236 [a0.row,rI a1] [rI (Yc a0 a1).1,rI (Yc a0 a1).2.1,rB (Yc a0 a1).2.2]:=by
 have f:=me (Yc.eq_1 a0 a1);refine so func236 ntmps236 ?_;refine cRs (UM a0 a1) ?_;refine gIo ?_ ?_<;>intro G
 ·have g1:=G;try simp at g1
  have i1:(ZW a0 a1).1.toNat<a0.ZA.length:=zAs;simp[i1,ZB,G];repeat with_reducible refine N3 ?_
  refine gK (fun _=>?_);have i2:(ZW a0 a1).2.toNat<(nth a0.ZA (ZW a0 a1).1.toNat).ZE.length:=zAs
  simp[i2,ZB];repeat with_reducible refine N3 ?_
  refine cKo f ?_ ?_<;>intro k1 h1 f
  ·simp;exact rtg _ f
  ·have i3:1<(nth (nth a0.ZA (ZW a0 a1).1.toNat).ZE (ZW a0 a1).2.toNat).ZN.ZM.length:=zAs;simp[i1,ZB,i2,i3];repeat with_reducible refine N3 ?_
   refine cR (SA (nth (nth (nth a0.ZA (ZW a0 a1).1.toNat).ZE (ZW a0 a1).2.toNat).ZN.ZM 1)) ?_;simp;refine cR (LC a0.Zd (Xg (nth (nth (nth a0.ZA (ZW a0 a1).1.toNat).ZE (ZW a0 a1).2.toNat).ZN.ZM 1)).1.Zk) ?_;simp;exact rtg _ f
 ·simp[G];refine sGo ?_;simp;refine cKo f ?_ ?_<;>intro k2 h2 f
  ·simp;exact rtg _ f
  ·simp[G]at h2
theorem Ox(a0:Zx):Sd 315 [a0.row] [rL 1 iR (Kd a0)]:=by have f:=me (Kd.eq_1 a0);refine soD func315 ntmps315 ?_;exact rtD [.tmp 2] f
theorem C5(a0:Zx):Sa 316 [a0.row] [rB (L5 a0)]:=by have f:=me (L5.eq_1 a0);refine so func316 ntmps316 ?_;refine cRs (Zu a0.Zk 1 999) ?_;refine cGs (fun gg=>Km a0.Mz) ?_;refine cGs (fun gg=>Zu a0.YW (-1) (W (a0.Mz+1))) ?_;refine cGs (fun gg=>Zu a0.YG 1 99) ?_;exact rt _ f
theorem FU(a0:List Yg)(a1:Zx)(u0:Sm 2318336 a0):Sa 285 [rL 5 Yg.row a0,a1.row] [(Kb a0 a1).1.row,rB (Kb a0 a1).2]:=by
 have f:=me (Kb.eq_1 a0 a1);refine so func285 ntmps285 ?_;refine dIs mixed ?_;refine cRs (YN.rd (Ox a1)) ?_;refine cRs (UT a0 a1.YG (Kd a1) (sg u0) (by simp(maxDischargeDepth:=12) [Oq,ZK (m:=2322432) zAF u0];try omega)) ?_;refine cRs (C5 a1) ?_;refine cF f ?_ ?_<;>intro k2 h1 f
 ·exact rt [.cell 4 245,.tmp 5] f
 exact rt [.cell 4 245,.tmp 5] f
theorem GU(a0:Zx):Sd 287 [a0.row] [(z5 a0).row]:=by have f:=me (z5.eq_1 a0);refine soD func287 ntmps287 ?_;refine dIs mixed ?_;refine cDs [false] (Ox a0) ?_;exact rtD [.cell 2 98] f
theorem Bg(a0:ZU)(a1:ZV)(u0:Sm 2326528 a0)(u1:Sm 2326528 a1):Sd 317 [a0.row,a1.row] [(qb a0 a1).1.row,rB (qb a0 a1).2]:=by
 have f:=me (qb.eq_1 a0 a1);refine soD func317 ntmps317 ?_;refine cDs [] (Kx a0 (sg u0)) ?_;refine drJ [14] mixed ?_;simp;refine cDs [true,false] (kF a1 (sg u1)) ?_;refine qv ?_;have c1:=sl 2326528 a0.ZM (an u0 u1);simp;refine W9 (im:=a0.ZM.map ZV.row) (news:=([a1]:List ZV).map ZV.row) (l1:=[(8,0)]) (l2:=[(12,1)]) (size:=3) ?_;simp;refine cRs (R0 (ZU.mk (a0.ZM++([a1]:List ZV)) a0.ZR)) ?_;refine cF f ?_ ?_<;>intro k2 h1 f
 ·refine cDs [] (Kx a0 (sg u0)) ?_;exact rtD [.cell 4 59,.tmp 5] f
 exact rtD [.cell 4 59,.tmp 5] f
theorem Er(a0:ZD)(a1:Int)(a2:ZV)(u0:Sm 2318336 a0)(u1:Sm 2318336 a2):Sd 286 [a0.row,rI a1,a2.row] [(qN a0 a1 a2).1.row,rB (qN a0 a1 a2).2]:=by
 have f:=me (qN.eq_1 a0 a1 a2);refine soD func286 ntmps286 ?_;refine cDs [] (Yo a0 (sg u0)) ?_;refine cRs (jz a0 a1) ?_;refine cF f ?_ ?_<;>intro k1 h1 f
 ·exact rtD [.cell 6 44,.tmp 7] f
 refine dIo mixed ?_;have i1:(Z1 a0 a1).toNat<a0.ZE.length:=by have:=Jx a0 a1;exact il
 simp[i1,ZB];refine rpS ?_;refine cDf i1 [] (Bg (nth a0.ZE (Z1 a0 a1).toNat).ZN a2 (sg (ZO.Yz (Zi (ZD.YD u0)))) (sg u1)) ?_;refine oT (t:=13) (j:=1) (i:=(Z1 a0 a1).toNat) (c:=14) (size:=16) (rows:=a0.ZE.map ZO.row) (ds:=(qb (nth a0.ZE (Z1 a0 a1).toNat).ZN a2).1.row) (L:=[(28,0),(28,1)]) rfl rfl rfl rfl zAE zAE (by simp;try omega) zAE zAE zAE zAE zAE zAE ?_;simp[Ki (x:=ZO.mk (nth a0.ZE (Z1 a0 a1).toNat).Id (nth a0.ZE (Z1 a0 a1).toNat).XL (nth a0.ZE (Z1 a0 a1).toNat).Doc (nth a0.ZE (Z1 a0 a1).toNat).Sig (qb (nth a0.ZE (Z1 a0 a1).toNat).ZN a2).1) rfl,i1,ZB,XH];refine rpS ?_;exact rtD [.cell 6 44,.tmp 7] f
theorem Ro(a0:ZF)(a1 a2:Int)(a3:Zx)(u0:Sm 2314240 a0)(u1:0<=a1/\a1<(a0.ZA.length:Int)):Sd 237 [a0.row,rI a1,rI a2,a3.row] [(KP a0 a1 a2 a3).1.row,rB (KP a0 a1 a2 a3).2]:=by
 have f:=me (KP.eq_1 a0 a1 a2 a3);refine soD func237 ntmps237 ?_;refine cRs (FU a0.Frame.Zz a3 (sg (ZT.XD (ZF.Yx u0)))) ?_;refine dIo mixed ?_;have i1:=ik a1.toNat a0.ZA;simp[i1,ZB];refine rpS ?_;refine cRs (YN.rd (GU (Kb a0.Frame.Zz a3).1)) ?_;refine cDs [] (Er (nth a0.ZA a1.toNat) a2 (z5 (Kb a0.Frame.Zz a3).1) (sg (Zi (ZF.Z6 u0))) (by simp(maxDischargeDepth:=12) [Px,ZK (m:=2318336) zAF u0];try omega)) ?_;refine cDs [false,false,false,true,true,false,false,true,false,false,true,false] (YT a0 (sg u0)) ?_;refine cFt f ?_ ?_<;>intro k2 h1 f
 ·exact rtD [.cell 8 33,.tmp 9] f
 simp;refine rpS ?_;refine IV (t:=36) (j:=7) (i:=a1.toNat) (size:=2) (rows:=a0.ZA.map ZD.row) (ds:=(qN (nth a0.ZA a1.toNat) a2 (z5 (Kb a0.Frame.Zz a3).1)).1.row) (L:=[(32,1)]) ?_;simp;refine rpS ?_;exact rtD [.cell 8 33,.tmp 9] f
theorem Fw(h:b)(k:a:=by(intros;first|omega|with_unfolding_all (first|first|omega|(have z:=Jt a0 a1 zCQ;(try simp at*);omega))|((try simp only[Yd,show ∀x,IntKind.i64.wrap x=W x from fun _=>rfl]at*);omega))):a/\b:=⟨k,h⟩
theorem kP(h:b)(k:a:=by(intros;first|omega|with_unfolding_all (first|first|omega|(have z:=Jt a0 a1 zCQ;(try simp at*);omega))|(simp_all;done)|(simp_all;omega)|grind|((try simp only[Yd,show ∀x,IntKind.i64.wrap x=W x from fun _=>rfl]at*);omega))):a/\b:=⟨k,h⟩
theorem Fx(a0:ZF)(a1:Int)(u0:Sm 2310144 a0):Sd 167 [a0.row,rI a1] [(y9 a0 a1).1.row,rB (y9 a0 a1).2]:=by
 have f:=me (y9.eq_1 a0 a1);refine soD func167 ntmps167 ?_;refine cRs (FF a0 a1) ?_;refine cF f ?_ ?_<;>intro k1 h1 f
 ·refine cDs [false,false,false,true,true,false,false,true,false,false,true,false] (YT a0 (sg u0)) ?_;exact rtD _ f
 refine dIo mixed ?_;have i1:(Yc a0 a1).2.1.toNat<a0.Zd.length:=zBX
 simp[i1,ZB];repeat with_reducible refine Fw ?_
 refine cRs (QJ a0.Frame.Zz (nth a0.Zd (Yc a0 a1).2.1.toNat).YG) ?_;refine dIs mixed ?_;refine gIo ?_ ?_<;>intro G
 ·have g1:=G;try simp at g1
  have i2:(YU a0.Frame.Zz (nth a0.Zd (Yc a0 a1).2.1.toNat).YG).toNat<a0.Frame.Zz.length:=by have:=Js a0.Frame.Zz (nth a0.Zd (Yc a0 a1).2.1.toNat).YG;first|omega|(have z:=Jt a0 a1 zCQ;(try simp at*);omega)
  simp[i2,ZB,G];repeat with_reducible refine kP ?_
  refine cKo f ?_ ?_<;>intro k4 h2 f
  ·simp;refine cD [false,false,false,true,true,false,false,true,false,false,true,false] (YT a0 (sg u0)) ?_;simp;exact yA _ f
  ·have i3:(Yc a0 a1).2.1.toNat<a0.YW.length:=zBX;simp[i3,ZB];repeat with_reducible refine kP ?_
   refine cKo f ?_ ?_<;>intro k5 h3 f
   ·simp;refine dIo mixed ?_;simp[i1,ZB];repeat with_reducible refine kP ?_
    refine cD [false,false,false,true,true,false,false,true,false,false,true,false] (Ro a0 (Yc a0 a1).1 a1 (Zx.mk (nth a0.Zd (Yc a0 a1).2.1.toNat).Zk a0.Frame.Now (-1) (nth a0.Zd (Yc a0 a1).2.1.toNat).YG 0) (sg u0) zBl) ?_;simp;exact yA _ f
   ·simp;refine dIo mixed ?_;simp[i1,ZB];repeat with_reducible refine kP ?_
    refine cD [false,false,false,true,true,false,false,true,false,false,true,false] (Ro a0 (Yc a0 a1).1 a1 (Zx.mk (nth a0.Zd (Yc a0 a1).2.1.toNat).Zk a0.Frame.Now (nth a0.YW (Yc a0 a1).2.1.toNat) (nth a0.Zd (Yc a0 a1).2.1.toNat).YG 0) (sg u0) zBl) ?_;simp;exact yA _ f
 ·simp[G];refine cKo f ?_ ?_<;>intro k8 h4 f
  ·simp;refine cD [false,false,false,true,true,false,false,true,false,false,true,false] (YT a0 (sg u0)) ?_;simp;exact yA _ f
  ·simp[G]at h4
theorem Fg(a0:ZF)(a1:Int)(u0:Sm 2314240 a0):Sd 168 [a0.row,rI a1] [(yq a0 a1).1.row,rB (yq a0 a1).2]:=by
 have f:=me (yq.eq_1 a0 a1);refine soD func168 ntmps168 ?_;refine cDs [false,false,false,true,true,false,false,true,false,false,true,false] (YT a0 (sg u0)) ?_;refine cRs (Zu a1 0 (W ((a0.YW.length:Int)-1))) ?_;refine gIf ?_ ?_<;>intro G
 ·have c1:=sl 2314240 a0.YW u0;have w1:IntKind.i64.wrap ((a0.YW.length:Int)-1)=(a0.YW.length:Int)-1:=YQ zAC zAC;have g1:=G;try simp[ZP,w1]at g1
  have i1:=ik a1.toNat a0.YW;simp[i1,ZB,G];refine rpG ?_;refine cKo f ?_ ?_<;>intro k1 h1 f
  ·have q1:=h1;try simp[ZP,w1]at q1
   simp;refine rpG ?_;exact yA _ f
  ·have q1:=h1;try simp[ZP,w1]at q1
   simp[i1,ZB];refine rpG ?_;refine EY (rv:=[.cell 4 33,.tmp 5]) rfl ?_;simp[f.h];all_goals(repeat' (first|exact De zAE zAE|refine And.intro ?_ ?_))
 ·have c2:=sl 2314240 a0.YW u0;refine cKo f ?_ ?_<;>intro k2 h2 f
  ·have q2:=h2;try simp[ZP,w2]at q2
   simp;refine rpG ?_;exact yA _ f
  ·simp[G]at h2
theorem SF(a0:List Int):Sa 239 [rL 1 iR a0] [rB (UK a0)]:=by
 have f:=me (UK.eq_1 a0);refine so func239 ntmps239 ?_;refine lp1 (PE.eq_2 a0) (fun J=>YM 20 [eL 0 1 a0 iR,eI 3 (J:Int)]) (fun n1 J=>a0.length<n1+J/\1<=J) (a0.length+1) 1 (fun p1 J e1 j1=>?_);refine cF e1 ?_ ?_<;>intro k2 h1 e1
 ·have i1:=ix h1;have m2:=ml a0 (k2 0 _ rfl);have w1:=wr J;refine dIo mixed ?_;have i2:=ik (J-1) a0;have w2:IntKind.i64.wrap ((J:Int)-1)=(J:Int)-1:=YQ zAC zAC;simp[i2,ZB,w2,i1];refine rpS ?_;refine cF e1 ?_ ?_<;>intro k4 h2 e1
  ·exact rt _ (ms f e1)
  exact ny1 (an w1 w2) e1
 exact rt _ (ms f e1)
theorem Ti(a0:ZX):Sd 204 [a0.row] [rL 1 iR (Ku a0)]:=by have f:=me (Ku.eq_1 a0);refine soD func204 ntmps204 ?_;exact rtD [.tmp 2] f
theorem kY(a0:Int)(a1:ZZ)(u0:Sm 2326528 a1):Sa 131 [rI a0,a1.row] [rI (KS a0 a1)]:=by
 have f:=me (KS.eq_1 a0 a1);refine so func131 ntmps131 ?_;refine lp2 (xo.eq_2 a1) (fun J U=>YM 59 [eI 0 a0,eX 3 (a1.row.map .d),(5,.one (.sref 5 0 0 J.length),[.arr false 1 (J.map iR)]),eL 19 2 a1.Path Xk.row,eI 20 (a1.Path.length:Int),eI 21 (U:Int)]) (fun n1 J U=>a1.Path.length<n1+U/\U<=a1.Path.length/\J.length<=4+2*U) (a1.Path.length+1) ([4,a1.Count,a1.Method,a1.BE]:List Int) 0 (fun p1 J U e1 j1=>?_) (h0:=wkS [((5,0),some (17,0))] []);refine cFo e1 ?_ ?_<;>intro k2 h1 e1
 ·have q1:=h1;try simp at q1
  have i1:=ix h1;have m2:=ml a1.Path (k2 19 _ rfl);have c1:=sl 2326528 a1.Path u0;have w1:=wr U;simp[i1,ZB];refine rpS ?_;refine cFo e1 ?_ ?_<;>intro k3 h2 e1
  ·have q2:=h2;try simp at q2
   simp;refine rpS ?_;exact nx2 e1 (hw:=Yk [((5,0),some (32,0))] [] rfl zAe)
  have q2:=h2;try simp at q2
  simp;refine rpS ?_;exact nx2 e1 (hw:=Yk [((5,0),some (32,0))] [] rfl zAe)
 have q1:=h1;try simp at q1
 have c2:=sl 2326528 a1.Path u0;have f:=ms f e1;simp;refine rpS ?_;refine lp2 (WQ.eq_2 a1) (fun ia iZ=>YM 59 [eI 0 a0,(5,.one (.sref 5 0 0 ia.length),[.arr false 1 (ia.map iR)]),eL 41 5 a1.YK ZX.row,eI 42 (a1.YK.length:Int),eI 43 (iZ:Int)]) (fun n2 ia iZ=>a1.YK.length<n2+iZ/\iZ<=a1.YK.length/\ia.length<=5+2*2326528+6*iZ) (a1.YK.length+1) (J++([(a1.YK.length:Int)]:List Int)) 0 (fun p2 ia iZ e2 j2=>?_) (hI:=by(have o:a1.Path.length<=2326528:=YA (xs u0);simp at*;omega)) (h0:=wkS [((5,0),some (39,0))] []);refine cFo e2 ?_ ?_<;>intro k5 h3 e2
 ·have q3:=h3;try simp at q3
  have i2:=ix h3;have m4:=ml a1.YK (k5 41 _ rfl);have c3:=sl 2326528 a1.YK u0;have w2:=wr iZ;simp[i2,ZB];refine rpS ?_;refine dIs mixed ?_;refine cRs (YN.rd (Ti (nth a1.YK iZ))) ?_;exact nx2 e2 (hI:=by(simp;omega)) (hw:=Yk [((5,0),some (54,0))] [] rfl (by simp[w2]))
 have q3:=h3;try simp at q3
 have c4:=sl 2326528 a1.YK u0;have f:=ms f e2;simp;refine cRs (JI a0 ia zAN) ?_;exact rt [.tmp 4] f
theorem Sh(a0:Int)(a1:List ZV)(u0:Sm 2326528 a1):Sa 206 [rI a0,rL 3 ZV.row a1] [rI (yL a0 a1)]:=by
 have f:=me (yL.eq_1 a0 a1);refine so func206 ntmps206 ?_;refine lp2 (Vv.eq_2 a0 a1) (fun J U=>YM 32 [eI 0 a0,(5,.one (.sref 5 0 0 J.length),[.arr false 1 (J.map iR)]),eL 9 3 a1 ZV.row,eI 10 (a1.length:Int),eI 11 (U:Int)]) (fun n1 J U=>a1.length<n1+U/\U<=a1.length/\J.length<=1+1*U) (a1.length+1) ([2]:List Int) 0 (fun p1 J U e1 j1=>?_) (h0:=wkS [((5,0),some (8,0))] []);refine cFf e1 ?_ ?_<;>intro k2 h1 e1
 ·have i1:=ix h1;have m2:=ml a1 (k2 9 _ rfl);have c1:=sl 2326528 a1 u0;have w1:=wr U;have c2:=sl 2326528 (nth a1 U).YS u0;simp[i1,ZB];refine rpS ?_;refine cRs (JI a0 (([(nth a1 U).Key,(nth a1 U).Mark]:List Int)++(nth a1 U).YS) zAr) ?_;exact nx2 e1 (hw:=Yk [((5,0),some (27,0))] [] rfl zAe)
 have c3:=sl 2326528 a1 u0;have f:=ms f e1;refine cRs (JI a0 J zAN) ?_;exact rt [.tmp 4] f
theorem RV(a0 a1:Int)(a2:List ZV)(a3:Int)(u0:Sm 2322432 a2):Sa 132 [rI a0,rI a1,rL 3 ZV.row a2,rI a3] [rI (Pa a0 a1 a2 a3)]:=by have f:=me (Pa.eq_1 a0 a1 a2 a3);refine so func132 ntmps132 ?_;refine cRs (Sh a0 a2 (sg u0)) ?_;refine cRs (JI a0 ([3,a1,yL a0 a2,a3]:List Int) zAr) ?_;exact rt _ f
theorem He(a0:ZO)(a1:Int)(u0:Sm 2318336 a0):Sa 74 [a0.row,rI a1] [rI (Ky a0 a1)]:=by
 have f:=me (Ky.eq_1 a0 a1);refine so func74 ntmps74 ?_;refine cFf f ?_ ?_<;>intro k1 h1 f
 ·have i1:=ik (a0.ZN.ZR.length-1) a0.ZN.ZR;have m1:=ml a0.ZN.ZR (k1 9 _ rfl);have w1:IntKind.i64.wrap ((a0.ZN.ZR.length:Int)-1)=(a0.ZN.ZR.length:Int)-1:=YQ zAC zAC;simp[i1,ZB,w1];refine rpS ?_;refine cRs (kY a1 (nth a0.ZN.ZR (a0.ZN.ZR.length-1)) (sg (Zi (ZU.KE (ZO.Yz u0))))) ?_;refine dIs mixed ?_;refine cRs (yQ a1 a0.Doc (sg (ZO.KU u0))) ?_;refine cRs (RV a1 (Y5 a1 a0.Doc) a0.ZN.ZM (KS a1 (nth a0.ZN.ZR (a0.ZN.ZR.length-1))) (sg (ZU.XV (ZO.Yz u0)))) ?_;exact rt _ f
 refine dIs mixed ?_;refine cRs (yQ a1 a0.Doc (sg (ZO.KU u0))) ?_;refine cRs (RV a1 (Y5 a1 a0.Doc) a0.ZN.ZM 0 (sg (ZU.XV (ZO.Yz u0)))) ?_;exact rt _ f
theorem Nf(a0:ZD)(a1:Int)(u0:Sm 2314240 a0):Sd 40 [a0.row,rI a1] [rL 1 iR (Q6 a0 a1)]:=by
 have f:=me (Q6.eq_1 a0 a1);refine soD func40 ntmps40 ?_;refine lp2 (UA.eq_2 a0 a1) (fun J U=>YM 23 [eI 1 a1,(5,.one (.sref 5 0 0 J.length),[.arr false 1 (J.map iR)]),eL 9 16 a0.ZE ZO.row,eI 10 (a0.ZE.length:Int),eI 11 (U:Int)]) (fun n1 J U=>a0.ZE.length<n1+U/\U<=a0.ZE.length/\J.length<=0+1*U) (a0.ZE.length+1) ([]:List Int) 0 (fun p1 J U e1 j1=>?_) (h0:=wkS [((5,0),none)] []);refine cFf e1 ?_ ?_<;>intro k2 h1 e1
 ·have i1:=ix h1;have m2:=ml a0.ZE (k2 9 _ rfl);have c1:=sl 2314240 a0.ZE u0;have w1:=wr U;simp[i1,ZB];refine rpS ?_;refine cRs (He (nth a0.ZE U) a1 (sg (Zi (ZD.YD u0)))) ?_;exact nx2 e1 (hw:=Yk [((5,0),some (20,0))] [] rfl zAe)
 exact rtD [.tmp 4] (ms f e1)
theorem UW(a0 a1 a2:Int):Sa 137 [rI a0,rI a1,rI a2] [rI (Ww a0 a1 a2)]:=by have f:=me (Ww.eq_1 a0 a1 a2);refine so func137 ntmps137 ?_;refine cRs (JI a0 ([1,a1,a2]:List Int) (by simp(maxDischargeDepth:=12) [TW,Y9];try omega)) ?_;exact rt [.tmp 6] f
theorem kI(a0:Int)(a1:List Int)(u0:Sm 2322432 a1):Sd 79 [rI a0,rL 1 iR a1] [rL 1 iR (zZ a0 a1)]:=by
 have f:=me (zZ.eq_1 a0 a1);refine soD func79 ntmps79 ?_;refine lp2 (yT.eq_2 a0 a1) (fun J U=>YM 40 [eI 0 a0,eL 1 1 a1 iR,(5,.one (.sref 5 0 0 J.length),[.arr false 1 (J.map iR)]),eI 6 (U:Int)]) (fun n1 J U=>a1.length<n1+U/\U<=a1.length+1/\J.length<=U) (a1.length+1) ([]:List Int) 0 (fun p1 J U e1 j1=>?_) (h0:=wkS [((5,0),none)] []);refine cF e1 ?_ ?_<;>intro k2 h1 e1
 ·have i1:=ix h1;have m2:=ml a1 (k2 1 _ rfl);have c1:=sl 2322432 a1 u0;have w1:=wr U;refine cFt e1 ?_ ?_<;>intro k3 h2 e1
  ·refine okD fun k4=>?_;refine dIo mixed ?_;have i2:=ik (W ((U:Int)+1)).toNat a1
   simp[i1,ZB,i2];refine rpS ?_;refine cRs (UW a0 (nth a1 U) (nth a1 (W ((U:Int)+1)).toNat)) ?_ (hG:=by first|(simp;done)|(simp[W,w1];done));have w2:IntKind.i64.wrap ((U:Int)+2)=(U:Int)+2:=YQ zAC zAC
   exact nx2 e1 (hI:=by first|omega|(simp at*;omega)) (hw:=Yk [((5,0),some (31,0))] [] rfl zCC)
  simp[i1,ZB];refine rpS ?_;have w3:IntKind.i64.wrap ((U:Int)+2)=(U:Int)+2:=YQ zAC zAC
  exact nx2 e1 (hI:=by first|omega|(simp at*;omega)) (hw:=Yk [((5,0),some (38,0))] [] rfl (by simp[w1,w3]))
 exact rtD [.tmp 4] (ms f e1)
theorem M5(a0:Int)(a1:List Int)(u0:Sm 2318336 a1):Sa 78 [rI a0,rL 1 iR a1] [rI (P0 a0 a1)]:=by
 have f:=me (P0.eq_1 a0 a1);refine so func78 ntmps78 ?_;refine cRs (Zu (a1.length:Int) 1 16) ?_;refine cFo f ?_ ?_<;>intro k1 h1 f
 ·have q1:=h1;try simp[ZP]at q1
  simp;exact rt _ f
 have q1:=h1;try simp[ZP]at q1
 simp;refine lp1 (P4.eq_2 a0) (fun J=>YM 18 [eI 0 a0,eL 1 1 J iR]) (fun n1 J=>J.length<n1/\1<=J.length/\J.length<=16) (a1.length+1) a1 (fun p1 J e1 j1=>?_) (hI:=by first|omega|(simp at*;omega));refine cFt e1 ?_ ?_<;>intro k3 h2 e1
 ·refine cRs (YN.rd (kI a0 J zAT)) ?_;exact nx1 e1 (hI:=by(have z:=jL a0 J zAC;(try dsimp only);simp at*;omega))
 have f:=ms f e1;have i1:=ik 0 J;simp[i1,ZB];refine rpS ?_;exact rt _ f
theorem Ix(a0:ZD)(a1:Int)(u0:Sm 2310144 a0):Sa 42 [a0.row,rI a1] [rI (KM a0 a1)]:=by have f:=me (KM.eq_1 a0 a1);refine so func42 ntmps42 ?_;refine cRs (YN.rd (Nf a0 a1 (sg u0))) ?_;refine cRs (M5 a1 (Q6 a0 a1) (by simp(maxDischargeDepth:=12) [T1,ZK (m:=2318336) zAF u0];try omega)) ?_;exact rt _ f
theorem K9(a0:List Za)(a1:Int):Sa 240 [rL 3 Za.row a0,rI a1] [rI (Zr a0 a1)]:=by
 have f:=me (Zr.eq_1 a0 a1);refine so func240 ntmps240 ?_;refine lp1 (xq.eq_2 a0 a1) (fun J=>YM 20 [eI 1 a1,eL 7 3 a0 Za.row,eI 8 (a0.length:Int),eI 9 (J:Int)]) (fun n1 J=>a0.length<n1+J/\J<=a0.length) (a0.length+1) 0 (fun p1 J e1 j1=>?_);refine cFf e1 ?_ ?_<;>intro k2 h1 e1
 ·have i1:=ix h1;have m2:=ml a0 (k2 7 _ rfl);have w1:=wr J;simp[i1,ZB];refine rpS ?_;refine cF e1 ?_ ?_<;>intro k3 h2 e1
  ·exact rt _ (ms f e1)
  exact ny1 w1 e1
 exact rt _ (ms f e1)
theorem HP(a0:List Int)(a1:Int):Sa 288 [rL 1 iR a0,rI a1] [rI (yf a0 a1)]:=by
 have f:=me (yf.eq_1 a0 a1);refine so func288 ntmps288 ?_;refine lp1 (RR.eq_2 a0 a1) (fun J=>YM 19 [eI 1 a1,eL 7 1 a0 iR,eI 8 (a0.length:Int),eI 9 (J:Int)]) (fun n1 J=>a0.length<n1+J/\J<=a0.length) (a0.length+1) 0 (fun p1 J e1 j1=>?_);refine cFf e1 ?_ ?_<;>intro k2 h1 e1
 ·have i1:=ix h1;have m2:=ml a0 (k2 7 _ rfl);have w1:=wr J;simp[i1,ZB];refine rpS ?_;refine cF e1 ?_ ?_<;>intro k3 h2 e1
  ·exact rt _ (ms f e1)
  exact ny1 w1 e1
 exact rt _ (ms f e1)
theorem WA(a0:List Int)(a1:Int):Sa 241 [rL 1 iR a0,rI a1] [rB (qc a0 a1)]:=by have f:=me (qc.eq_1 a0 a1);refine so func241 ntmps241 ?_;refine cRs (HP a0 a1) ?_;exact rt [.tmp 4] f
theorem Wm(a0:List Yg)(a1:List Za)(a2:ZX)(u0:Sm 2318336 a0)(u1:Sm 2318336 a1):Sa 242 [rL 5 Yg.row a0,rL 3 Za.row a1,a2.row] [(QC a0 a1 a2).1.row,rB (QC a0 a1 a2).2]:=by
 have f:=me (QC.eq_1 a0 a1 a2);refine so func242 ntmps242 ?_;refine cRs (K9 a1 a2.Authority) ?_;refine cGs (fun gg=>Km a2.Time) ?_;refine cF f ?_ ?_<;>intro k1 h1 f
 ·exact rt [.cell 6 131,.tmp 7] f
 refine dIo mixed ?_;have i1:(Zr a1 a2.Authority).toNat<a1.length:=by have:=X0 a1 a2.Authority;exact il
 simp[i1,ZB];refine rpS ?_;refine cRs (YN.rd (Ti a2)) ?_;refine cRs (UT a0 (nth a1 (Zr a1 a2.Authority).toNat).Key (Ku a2) (sg u0) (by simp(maxDischargeDepth:=12) [D6,ZK (m:=2322432) zAF u0,ZK (m:=2322432) zAF u1];try omega)) ?_;refine cF f ?_ ?_<;>intro k3 h2 f
 ·exact rt [.cell 6 131,.tmp 7] f
 exact rt [.cell 6 131,.tmp 7] f
theorem LJ(h:b)(k:a:=by(intros;first|omega|with_unfolding_all (first|first|omega|(have tm:=Int.tmod_eq_emod_of_nonneg (b:=2) (show 0<=U by omega);(try simp only[Yd,show ∀x,IntKind.i64.wrap x=W x from fun _=>rfl]at*);(try simp at*);omega))|((try simp only[Yd,show ∀x,IntKind.i64.wrap x=W x from fun _=>rfl]at*);omega))):a/\b:=⟨k,h⟩
theorem C1(a0:Int)(a1:List Int)(a2:Int)(u0:Sm 2318336 a1):Sd 43 [rI a0,rL 1 iR a1,rI a2] [rL 2 Xk.row (y8 a0 a1 a2)]:=by
 have f:=me (y8.eq_1 a0 a1 a2);refine soD func43 ntmps43 ?_;refine cRs (Zu a2 0 (W ((a1.length:Int)-1))) ?_;have c1:=sl 2318336 a1 u0;have w1:IntKind.i64.wrap ((a1.length:Int)-1)=(a1.length:Int)-1:=YQ zAC zAC;refine cFo f ?_ ?_<;>intro k1 h1 f
 ·have q1:=h1;try simp[ZP,w1]at q1
  simp;exact rtD [.tmp 6] f
 have q1:=h1;try simp[ZP,w1]at q1
 simp;refine lp3 (xD.eq_2 a0) (fun J U ib=>YM 54 [eI 0 a0,eL 1 1 J iR,eI 2 U,(7,.one (.sref 7 0 0 ib.length),[.arr false 2 (ib.map Xk.row)])]) (fun n1 J U ib=>J.length<n1/\0<=U/\U<(J.length:Int)/\J.length<=16/\ib.length+n1<=17) (a1.length+1) a1 a2 ([]:List Xk) (fun p1 J U ib e1 j1=>?_) (hI:=by first|omega|(simp at*;omega)) (h0:=wkS [((7,0),none)] []);refine cF e1 ?_ ?_<;>intro k3 h2 e1
 ·refine cFf e1 ?_ ?_<;>intro k4 h3 e1
  ·have i1:(W (U-1)).toNat<J.length:=zA5;simp[i1,ZB];repeat with_reducible refine LJ ?_
   refine cRs (YN.rd (kI a0 J zAT)) ?_;exact nx3 e1 (hI:=by(have z:=jL a0 J zAC;have td:=Int.tdiv_eq_ediv_of_nonneg (b:=2) (show 0<=U by omega);have w2:W (Int.tdiv U 2)=Int.tdiv U 2:=YQ zAC zAC;(try dsimp only);rw[w2];simp at*;omega)) (hw:=Yk [((7,0),some (33,0))] [] rfl zAe)
  refine cFo e1 ?_ ?_<;>intro k5 h4 e1
  ·have q4:=h4;try simp[w1]at q4
   have i2:(W (U+1)).toNat<J.length:=zA5;simp[i2,ZB];repeat with_reducible refine LJ ?_
   refine cRs (YN.rd (kI a0 J zAT)) ?_;exact nx3 e1 (hI:=by(have z:=jL a0 J zAC;have td:=Int.tdiv_eq_ediv_of_nonneg (b:=2) (show 0<=U by omega);have w2:W (Int.tdiv U 2)=Int.tdiv U 2:=YQ zAC zAC;(try dsimp only);rw[w2];simp at*;omega)) (hw:=Yk [((7,0),some (47,0))] [] rfl zAe)
  have q4:=h4;try simp[w1]at q4
  simp;refine cRs (YN.rd (kI a0 J zAT)) ?_;exact ny3 w1 e1 (hI:=by(have z:=jL a0 J zAC;have td:=Int.tdiv_eq_ediv_of_nonneg (b:=2) (show 0<=U by omega);have w2:W (Int.tdiv U 2)=Int.tdiv U 2:=YQ zAC zAC;(try dsimp only);rw[w2];simp at*;omega))
 exact rtD [.tmp 6] (ms f e1)
theorem O6(a0:ZU)(a1:ZZ)(u0:Sm 2326528 a0)(u1:Sm 2326528 a1):Sd 41 [a0.row,a1.row] [(Qr a0 a1).1.row,rB (Qr a0 a1).2]:=by
 have f:=me (Qr.eq_1 a0 a1);refine soD func41 ntmps41 ?_;refine cDs [] (Kx a0 (sg u0)) ?_;refine drJ [14] mixed ?_;simp;refine cDs [true,true,true,false,false] (RS a1 (sg u1)) ?_;refine qv ?_;have c1:=sl 2326528 a0.ZR (an u0 u1);simp;refine W9 (im:=a0.ZR.map ZZ.row) (news:=([a1]:List ZZ).map ZZ.row) (l1:=[(8,1)]) (l2:=[(12,3),(12,4)]) (size:=5) ?_;simp;refine cRs (R0 (ZU.mk a0.ZM (a0.ZR++([a1]:List ZZ)))) ?_;refine cF f ?_ ?_<;>intro k2 h1 f
 ·refine cDs [] (Kx a0 (sg u0)) ?_;exact rtD [.cell 4 59,.tmp 5] f
 exact rtD [.cell 4 59,.tmp 5] f
theorem Gp(a0:ZD)(a1:Int)(a2:List ZX)(u0:Sm 2306048 a0)(u1:Sm 2306048 a2):Sd 12 [a0.row,rI a1,rL 5 ZX.row a2] [(Jy a0 a1 a2).1.row,rB (Jy a0 a1 a2).2]:=by
 have f:=me (Jy.eq_1 a0 a1 a2);refine soD func12 ntmps12 ?_;refine cGs (fun gg=>yY a0) ?_;refine cF f ?_ ?_<;>intro k1 h1 f
 ·refine cDs [] (Yo a0 (sg u0)) ?_;exact rtD [.cell 6 44,.tmp 7] f
 refine cDs [] (Yo a0 (sg u0)) ?_;refine cRs (YN.rd (Nf a0 a1 (sg u0))) ?_;refine lp2 (KW.eq_2 a0 a1 a2) (fun J U=>YM 75 [eI 1 a1,eL 2 5 a2 ZX.row,eX 3 (a0.row.map .d),(6,.one (.bptr 6 0),[.box [.d (.int .i64 0),.nil 16]]),(8,.one (.bptr 8 0),[.box [.d (.int .i64 a0.Id),.sref 26 1 0 U.length]]),eL 9 1 (Q6 a0 a1) iR,(26,.any,[.none,.arr true 16 (U.map ZO.row)]),eL 31 16 a0.ZE ZO.row,eI 32 (a0.ZE.length:Int),eI 33 (J:Int)]) (fun n1 J U=>a0.ZE.length<n1+J/\J<=a0.ZE.length/\U.length=a0.ZE.length) (a0.ZE.length+1) 0 a0.ZE (fun p1 J U e1 j1=>?_);refine cFf e1 ?_ ?_<;>intro k3 h2 e1
 ·have i1:=ix h2;have m2:=ml a0.ZE (k3 31 _ rfl);have c1:=sl 2306048 a0.ZE (an u0 u1);have w1:=wr J;simp[i1,ZB];refine rpS ?_;refine dIs mixed ?_;refine cRs (Ix a0 a1 (sg u0)) ?_;refine cRs (YN.rd (C1 a1 (Q6 a0 a1) (J:Int) (by simp(maxDischargeDepth:=12) [T1,ZK (m:=2318336) zAF u0,ZK (m:=2318336) zAF u1];try omega))) ?_;refine cDs [] (O6 (nth a0.ZE J).ZN (ZZ.mk ((nth a0.ZE J).ZN.ZM.length:Int) a1 (KM a0 a1) (y8 a1 (Q6 a0 a1) (J:Int)) a2) (sg (ZO.Yz (Zi (ZD.YD u0)))) (by simp(maxDischargeDepth:=12) [LQ,T1,ZK (m:=2326528) zAF u0,ZK (m:=2326528) zAF u1];try omega)) ?_;refine cFt e1 ?_ ?_<;>intro k5 h3 e1
  ·refine cDs [] (Yo a0 (sg u0)) ?_;exact rtD [.cell 6 44,.tmp 7] (ms f e1)
  have i2:=ik J U;simp[i2,ZB];refine rpS ?_;refine oT (t:=26) (j:=1) (i:=J) (c:=14) (size:=16) (rows:=U.map ZO.row) (ds:=(Qr (nth a0.ZE J).ZN (ZZ.mk ((nth a0.ZE J).ZN.ZM.length:Int) a1 (KM a0 a1) (y8 a1 (Q6 a0 a1) (J:Int)) a2)).1.row) (L:=[(55,0),(55,1)]) rfl rfl rfl rfl zAE zAE (by simp;try omega) zAE zAE zAE zAE zAE zAE ?_;simp[Ki (x:=ZO.mk (nth U J).Id (nth U J).XL (nth U J).Doc (nth U J).Sig (Qr (nth a0.ZE J).ZN (ZZ.mk ((nth a0.ZE J).ZN.ZM.length:Int) a1 (KM a0 a1) (y8 a1 (Q6 a0 a1) (J:Int)) a2)).1) rfl,i2,ZB,XH];refine rpS ?_;exact ny2 w1 e1
 have c2:=sl 2306048 a0.ZE (an u0 u1);have f:=ms f e1;refine cRs (yY (ZD.mk a0.Id U)) ?_;refine cF f ?_ ?_<;>intro k6 h4 f
 ·refine cDs [] (Yo a0 (sg u0)) ?_;exact rtD [.cell 6 44,.tmp 7] f
 exact rtD [.cell 6 44,.tmp 7] f
theorem Cf(a0:ZF)(a1:Int)(a2:List Int)(a3:Int)(u0:Sm 2301952 a0)(u1:Sm 2301952 a2):Sd 169 [a0.row,rI a1,rL 1 iR a2,rI a3] [(yi a0 a1 a2 a3).1.row,rB (yi a0 a1 a2 a3).2]:=by
 have f:=me (yi.eq_1 a0 a1 a2 a3);refine soD func169 ntmps169 ?_;refine cDs [false,false,false,true,true,false,false,true,false,false,true,false] (YT a0 (sg u0)) ?_;refine cRs (kM a0.Frame.Methods a0.Frame.Now) ?_;refine cRs (JC a0 a1) ?_;refine cGs (fun gg=>SF a2) ?_;refine cGs (fun gg=>Zu a3 (-10000) 10000) ?_;have c1:=sl 2301952 a0.ZA (an u0 u1);have w1:IntKind.i64.wrap ((a0.ZA.length:Int)-1)=(a0.ZA.length:Int)-1:=YQ zAC zAC;refine cFo f ?_ ?_<;>intro k1 h1 f
 ·have q1:=h1;try simp[ZP,w1,YH]at q1
  simp;exact rtD [.cell 8 33,.tmp 9] f
 have q1:=h1;try simp[ZP,w1,YH]at q1
 have i1:=ik a1.toNat a0.ZA;simp[i1,ZB];refine rpS ?_;refine cRs (Ix (nth a0.ZA a1.toNat) (Zc a0.Frame.Methods a0.Frame.Now) (sg (Zi (ZF.Z6 u0)))) ?_;refine lp3 (Ju.eq_2 a0 a1 a2 a3) (fun J U ib=>YM 175 [eI 1 a1,eI 3 a3,eX 4 (a0.row.map .d),(8,.one (.bptr 8 0),[.box [.nil 5,.nil 3,.nil 4,.d (.int .i64 0),.d (.int .i64 0),.nil 7,.nil 1,.nil 2,.nil 1,.nil 1,.d (.int .i64 0),.nil 1]]),eX 10 (a0.Frame.row.map .d),(11,.one (.bptr 11 0),[.box [.sref 27 0 0 a0.Frame.Zz.length,.sref 27 1 0 a0.Frame.ZC.length,.sref 27 2 0 a0.Frame.Methods.length,.d (.int .i64 a0.Frame.Jb),.d (.int .i64 a0.Frame.Now),.sref 27 5 0 a0.Zd.length,.sref 27 6 0 a0.YW.length,.sref 27 7 0 a0.ZA.length,.sref 27 8 0 ib.length,.sref 27 9 0 a0.XA.length,.d (.int .i64 a0.Next),.sref 27 11 0 a0.Ym.length]]),eI 12 (Zc a0.Frame.Methods a0.Frame.Now),eI 13 (KM (nth a0.ZA a1.toNat) (Zc a0.Frame.Methods a0.Frame.Now)),(14,.one (.sref 14 0 0 J.length),[.arr false 5 (J.map ZX.row)]),(27,.any,[.arr false 5 (a0.Frame.Zz.map Yg.row),.arr false 3 (a0.Frame.ZC.map Za.row),.arr false 4 (a0.Frame.Methods.map Z9.row),.none,.none,.arr false 7 (a0.Zd.map YL.row),.arr false 1 (a0.YW.map iR),.arr true 2 (a0.ZA.map ZD.row),.arr false 1 (ib.map iR),.arr false 1 (a0.XA.map iR),.none,.arr false 1 (a0.Ym.map iR)]),eL 64 1 a2 iR,eI 65 (a2.length:Int),eI 66 (U:Int)]) (fun n1 J U ib=>a2.length<n1+U/\U<=a2.length/\J.length<=0+1*U/\ib.length=a0.XW.length) (a2.length+1) ([]:List ZX) 0 a0.XW (fun p1 J U ib e1 j1=>?_) (h0:=wkS [((14,0),none)] []);refine cFo e1 ?_ ?_<;>intro k3 h2 e1
 ·have i2:=ix h2;have m2:=ml a2 (k3 64 _ rfl);have c2:=sl 2301952 a2 (an u0 u1);have w2:=wr U;simp[i2,ZB];refine rpS ?_;refine cRs (K9 a0.Frame.ZC (nth a2 U)) ?_;refine cF e1 ?_ ?_<;>intro k4 h3 e1
  ·refine cDs [false,false,false,true,true,false,false,true,false,false,true,false] (YT a0 (sg u0)) ?_;exact rtD [.cell 8 33,.tmp 9] (ms f e1)
  refine dIo mixed ?_;have i3:(Zr a0.Frame.ZC (nth a2 U)).toNat<a0.Frame.ZC.length:=zBZ
  simp[i3,ZB];refine rpS ?_;refine cRs (QJ a0.Frame.Zz (nth a0.Frame.ZC (Zr a0.Frame.ZC (nth a2 U)).toNat).Key) ?_;refine dIs mixed ?_;refine gIf ?_ ?_<;>intro G
  ·have i4:(YU a0.Frame.Zz (nth a0.Frame.ZC (Zr a0.Frame.ZC (nth a2 U)).toNat).Key).toNat<a0.Frame.Zz.length:=by have:=Js a0.Frame.Zz (nth a0.Frame.ZC (Zr a0.Frame.ZC (nth a2 U)).toNat).Key;exact il
   simp[i4,ZB,G];refine rpG ?_;refine cK e1 ?_ ?_<;>intro k7 h4 e1
   ·refine cDg [false,false,false,true,true,false,false,true,false,false,true,false] (YT a0 (sg u0)) ?_;exact yA [.cell 8 33,.tmp 9] (ms f e1)
   ·refine cRg (WA a0.XA (nth a2 U)) ?_;refine cK e1 ?_ ?_<;>intro k8 h5 e1
    ·refine dIo mixed ?_;have i5:(Zr a0.Frame.ZC (nth a2 U)).toNat<a0.XW.length:=zBZ
     simp[i5,ZB,G];refine rpG ?_;refine cRg (Wm a0.Frame.Zz a0.Frame.ZC (ZX.mk (nth a2 U) (nth a0.XW (Zr a0.Frame.ZC (nth a2 U)).toNat) (if(if W (a0.Frame.Now+a3)<10000 then W (a0.Frame.Now+a3)else 10000)>0 then(if W (a0.Frame.Now+a3)<10000 then W (a0.Frame.Now+a3)else 10000)else 0) (KM (nth a0.ZA a1.toNat) (Zc a0.Frame.Methods a0.Frame.Now)) 0) (sg (ZT.XD (ZF.Yx u0))) (sg (ZT.Yv (ZF.Yx u0)))) ?_ (hG:=by first|(simp;done)|(simp[W,w1,w2];done));refine cKo e1 ?_ ?_<;>intro cv h6 e1
     ·have q6:=h6;try simp[w1]at q6
      simp[G];refine rpG ?_;refine cDg [false,false,false,true,true,false,false,true,false,false,true,false] (YT a0 (sg u0)) ?_;exact yA [.cell 8 33,.tmp 9] (ms f e1)
     ·have q6:=h6;try simp[w1]at q6
      have i6:(Zr a0.Frame.ZC (nth a2 U)).toNat<ib.length:=zBZ;simp[i6,ZB,Ki (x:=W (nth ib (Zr a0.Frame.ZC (nth a2 U)).toNat+1)) rfl,G];refine rpG ?_;exact nx3 e1 (hw:=Yk [((14,0),some (145,0))] [] rfl (by simp[w1,w2,G]))
    ·refine dIo mixed ?_;have i7:(Zr a0.Frame.ZC (nth a2 U)).toNat<a0.XW.length:=zBZ
     simp[i7,ZB,G];refine rpG ?_;refine cRg (Wm a0.Frame.Zz a0.Frame.ZC (ZX.mk (nth a2 U) (nth a0.XW (Zr a0.Frame.ZC (nth a2 U)).toNat) a0.Frame.Now (KM (nth a0.ZA a1.toNat) (Zc a0.Frame.Methods a0.Frame.Now)) 0) (sg (ZT.XD (ZF.Yx u0))) (sg (ZT.Yv (ZF.Yx u0)))) ?_;refine cKt e1 ?_ ?_<;>intro k12 h7 e1
     ·refine cDg [false,false,false,true,true,false,false,true,false,false,true,false] (YT a0 (sg u0)) ?_;exact yA [.cell 8 33,.tmp 9] (ms f e1)
     ·have i8:(Zr a0.Frame.ZC (nth a2 U)).toNat<ib.length:=zBZ;simp[i8,ZB,Ki (x:=W (nth ib (Zr a0.Frame.ZC (nth a2 U)).toNat+1)) rfl,G];refine rpG ?_;exact nx3 e1 (hw:=Yk [((14,0),some (145,0))] [] rfl (by simp[w1,w2,G]))
  ·refine cK e1 ?_ ?_<;>intro aL h8 e1
   ·refine cDg [false,false,false,true,true,false,false,true,false,false,true,false] (YT a0 (sg u0)) ?_;exact yA [.cell 8 33,.tmp 9] (ms f e1)
   ·simp[G]at h8
 have c3:=sl 2301952 a2 (an u0 u1);have f:=ms f e1;simp[i1,ZB];refine rpS ?_;refine cDs [] (Gp (nth a0.ZA a1.toNat) (Zc a0.Frame.Methods a0.Frame.Now) J (sg (Zi (ZF.Z6 u0))) (by first|(simp(maxDischargeDepth:=12) [Y9];omega)|(simp(maxDischargeDepth:=12) [ZK (m:=2306048) zAF u0,ZK (m:=2306048) zAF u1];done))) ?_;refine cFt f ?_ ?_<;>intro k19 h12 f
 ·refine cDs [false,false,false,true,true,false,false,true,false,false,true,false] (YT a0 (sg u0)) ?_;exact rtD [.cell 8 33,.tmp 9] f
 simp[i1,ZB];refine rpS ?_;refine IV (t:=27) (j:=7) (i:=a1.toNat) (size:=2) (rows:=a0.ZA.map ZD.row) (ds:=(Jy (nth a0.ZA a1.toNat) (Zc a0.Frame.Methods a0.Frame.Now) J).1.row) (L:=[(162,1)]) ?_;simp[Ki (x:=(Jy (nth a0.ZA a1.toNat) (Zc a0.Frame.Methods a0.Frame.Now) J).1) rfl,c1,i1,ZB,XH];refine rpS ?_;exact rtD [.cell 8 33,.tmp 9] f
theorem Fa(a0:Int)(a1:ZO)(u0:Sm 2318336 a1):Sa 347 [rI a0,a1.row] [rI (OQ a0 a1)]:=by
 have f:=me (OQ.eq_1 a0 a1);refine so func347 ntmps347 ?_;refine dIs mixed ?_;refine cRs (yQ a0 a1.Doc (sg (ZO.KU u0))) ?_;refine cRs (Sh a0 a1.ZN.ZM (sg (ZU.XV (ZO.Yz u0)))) ?_;refine lp2 (Tq.eq_2 a0 a1) (fun J U=>YM 40 [eI 0 a0,(5,.one (.sref 5 0 0 J.length),[.arr false 1 (J.map iR)]),eL 24 5 a1.ZN.ZR ZZ.row,eI 25 (a1.ZN.ZR.length:Int),eI 26 (U:Int)]) (fun n1 J U=>a1.ZN.ZR.length<n1+U/\U<=a1.ZN.ZR.length/\J.length<=5+1*U) (a1.ZN.ZR.length+1) ([5,a1.Id,a1.XL,Y5 a0 a1.Doc,yL a0 a1.ZN.ZM]:List Int) 0 (fun p1 J U e1 j1=>?_) (h0:=wkS [((5,0),some (21,0))] []);refine cFf e1 ?_ ?_<;>intro k3 h1 e1
 ·have i1:=ix h1;have m2:=ml a1.ZN.ZR (k3 24 _ rfl);have c1:=sl 2318336 a1.ZN.ZR u0;have w1:=wr U;simp[i1,ZB];refine rpS ?_;refine cRs (kY a0 (nth a1.ZN.ZR U) (sg (Zi (ZU.KE (ZO.Yz u0))))) ?_;exact nx2 e1 (hw:=Yk [((5,0),some (35,0))] [] rfl zAe)
 have c2:=sl 2318336 a1.ZN.ZR u0;have f:=ms f e1;refine cRs (JI a0 J zAN) ?_;exact rt [.tmp 4] f
theorem Se(a0:Int)(a1:List ZO)(u0:Sm 2314240 a1):Sa 318 [rI a0,rL 16 ZO.row a1] [rI (kN a0 a1)]:=by
 have f:=me (kN.eq_1 a0 a1);refine so func318 ntmps318 ?_;refine lp2 (Wo.eq_2 a0 a1) (fun J U=>YM 24 [eI 0 a0,(5,.one (.sref 5 0 0 J.length),[.arr false 1 (J.map iR)]),eL 8 16 a1 ZO.row,eI 9 (a1.length:Int),eI 10 (U:Int)]) (fun n1 J U=>a1.length<n1+U/\U<=a1.length/\J.length<=0+1*U) (a1.length+1) ([]:List Int) 0 (fun p1 J U e1 j1=>?_) (h0:=wkS [((5,0),none)] []);refine cFf e1 ?_ ?_<;>intro k2 h1 e1
 ·have i1:=ix h1;have m2:=ml a1 (k2 8 _ rfl);have c1:=sl 2314240 a1 u0;have w1:=wr U;simp[i1,ZB];refine rpS ?_;refine cRs (Fa a0 (nth a1 U) (sg (Zi u0))) ?_;exact nx2 e1 (hw:=Yk [((5,0),some (19,0))] [] rfl zAe)
 have c2:=sl 2314240 a1 u0;have f:=ms f e1;refine cRs (M5 a0 J zBO) ?_;exact rt [.tmp 4] f
theorem Fb(a0:ZD)(a1:Int)(a2:List Int)(a3:Int)(u0:Sm 2310144 a0)(u1:Sm 2310144 a2):Sd 289 [a0.row,rI a1,rL 1 iR a2,rI a3] [(X3 a0 a1 a2 a3).1.row,rB (X3 a0 a1 a2 a3).2]:=by
 have f:=me (X3.eq_1 a0 a1 a2 a3);refine soD func289 ntmps289 ?_;refine lp2 (K7.eq_2 a0 a2) (fun J U=>YM 52 [eL 2 1 a2 iR,eI 3 a3,eX 4 (a0.row.map .d),(8,.one (.bptr 8 0),[.box [.d (.int .i64 0),.d (.int .i64 0),.nil 16,.d (.int .i64 0)]]),(10,.one (.bptr 10 0),[.box [.d (.int .i64 a0.Id),.d (.int .i64 a1),.sref 10 3 0 U.length,.d (.int .i64 0)],.none,.none,.arr true 16 (U.map ZO.row)]),eL 18 1 a2 iR,eI 19 (a2.length:Int),eI 20 (J:Int)]) (fun n1 J U=>a2.length<n1+J/\J<=a2.length/\U.length<=J/\(∀x∈U,Sm 2310144 x)) (a2.length+1) 0 ([]:List ZO) (fun p1 J U e1 j1=>?_) (hI:=by exact⟨zAC,zAC,Nat.zero_le _,Nat.zero_le _,fun x h=>by cases h⟩) (h0:=wkS [((10,3),none)] []);try dsimp only at j1
 refine cFf e1 ?_ ?_<;>intro k2 h1 e1
 ·have i1:=ix h1;have m2:=ml a2 (k2 2 _ rfl);have c1:=sl 2310144 a2 (an u0 u1);have w1:=wr J;simp[i1,ZB];refine rpS ?_;refine cRs (jz a0 (nth a2 J)) ?_;refine cF e1 ?_ ?_<;>intro k3 h2 e1
  ·exact rtD [.cell 8 287,.tmp 9] (ms f e1)
  refine drJ [39] mixed ?_;have i2:(Z1 a0 (nth a2 J)).toNat<a0.ZE.length:=by have:=Jx a0 (nth a2 J);exact il
  simp[i2,ZB];refine rpS ?_;refine cDs [true,true,true,false,false] (qQ (nth a0.ZE (Z1 a0 (nth a2 J)).toNat) (sg (Zi (ZD.YD u0)))) ?_;refine qv ?_;simp;refine W9 (im:=U.map ZO.row) (news:=([nth a0.ZE (Z1 a0 (nth a2 J)).toNat]:List ZO).map ZO.row) (l1:=[(10,3)]) (l2:=[(37,3),(37,4),(37,14),(37,15)]) (size:=16) ?_;simp;exact nx2 e1 (hI:=by((try dsimp only);refine⟨zAC,zAC,zAC,by simp;omega,fun x hx=>?_⟩;rcases List.mem_append.1 hx with hx|hx;exact j1.2.2.2.2 x hx;have e:=List.mem_singleton.1 hx;subst e;exact Zi (ZD.YD u0))) (hw:=Yk [((10,3),some (39,0))] [] rfl zAe)
 have c2:=sl 2310144 a2 (an u0 u1);have f:=ms f e1;refine cF f ?_ ?_<;>intro k5 h3 f
 ·exact rtD [.cell 8 287,.tmp 9] f
 refine cRs (Se a3 U zBY) ?_;exact rtD [.cell 8 287,.tmp 9] f
theorem Gv(a0:Yy)(a1:Int)(u0:Sm 2310144 a0):Sa 319 [a0.row,rI a1] [rB (j0 a0 a1)]:=by
 have f:=me (j0.eq_1 a0 a1);refine so func319 ntmps319 ?_;refine lp1 (zP.eq_2 a0) (fun J=>YM 31 [eI 1 a1,eX 2 (a0.row.map .d),eL 8 16 a0.ZE ZO.row,eI 9 (a0.ZE.length:Int),eI 10 (J:Int)]) (fun n1 J=>a0.ZE.length<n1+J/\J<=a0.ZE.length) (a0.ZE.length+1) 0 (fun p1 J e1 j1=>?_);refine cFf e1 ?_ ?_<;>intro k2 h1 e1
 ·have i1:=ix h1;have m2:=ml a0.ZE (k2 8 _ rfl);have c1:=sl 2310144 a0.ZE u0;have w1:=wr J;simp[i1,ZB];refine rpS ?_;refine cRs (FB (nth a0.ZE J)) ?_;refine cF e1 ?_ ?_<;>intro k3 h2 e1
  ·exact rt [.tmp 4] (ms f e1)
  exact ny1 w1 e1
 have f:=ms f e1;refine dIs mixed ?_;refine cRs (Zu (a0.ZE.length:Int) 1 8) ?_;refine cGs (fun gg=>Se a1 a0.ZE (sg (Yy.YD u0))) ?_;exact rt [.tmp 4] f
theorem Io(a0:ZD)(a1:Yy)(a2:Int)(u0:Sm 2306048 a0)(u1:Sm 2306048 a1):Sd 290 [a0.row,a1.row,rI a2] [(QQ a0 a1 a2).1.row,rB (QQ a0 a1 a2).2]:=by
 have f:=me (QQ.eq_1 a0 a1 a2);refine soD func290 ntmps290 ?_;refine cRs (Gv a1 a2 (sg u1)) ?_;refine cF f ?_ ?_<;>intro k1 h1 f
 ·refine cDs [] (Yo a0 (sg u0)) ?_;exact rtD [.cell 6 44,.tmp 7] f
 refine cDs [] (Yo a0 (sg u0)) ?_;refine lp3 (K2.eq_2 a0 a1) (fun J U ib=>YM 48 [eX 3 (a0.row.map .d),(6,.one (.bptr 6 0),[.box [.d (.int .i64 0),.nil 16]]),(8,.one (.bptr 8 0),[.box [.d (.int .i64 U),.sref 8 2 0 ib.length],.none,.arr true 16 (ib.map ZO.row)]),eL 29 16 a1.ZE ZO.row,eI 30 (a1.ZE.length:Int),eI 31 (J:Int)]) (fun n1 J U ib=>a1.ZE.length<n1+J/\J<=a1.ZE.length/\Sm (2306048+J) (ZD.mk U ib)) (a1.ZE.length+1) 0 a0.Id a0.ZE (fun p1 J U ib e1 j1=>?_) (hI:=by exact⟨zAC,zAC,Nat.zero_le _,u0⟩) (h0:=wkS [((8,2),some (27,1))] []);try dsimp only at j1
 refine cFf e1 ?_ ?_<;>intro k3 h2 e1
 ·have i1:=ix h2;have m2:=ml a1.ZE (k3 29 _ rfl);have c1:=sl 2306048 a1.ZE (an u0 u1);have w1:=wr J;simp[i1,ZB];refine rpS ?_;refine cDs [] (I5 (ZD.mk U ib) (nth a1.ZE J) zBN zBN) ?_;refine cF e1 ?_ ?_<;>intro k4 h3 e1
  ·refine cDs [] (Yo a0 (sg u0)) ?_;exact rtD [.cell 6 44,.tmp 7] (ms f e1)
  exact nx3 e1 (hI:=by((try dsimp only);refine⟨zAC,zAC,zAC,?_⟩;exact OO (n:=2306048+J) j1.2.2.2 (ZK (n:=2306048) zAC (Zi (Yy.YD u1))))) (hw:=Yk [((8,2),some (38,1))] [] rfl zAe)
 have c2:=sl 2306048 a1.ZE (an u0 u1);exact rtD [.cell 6 44,.tmp 7] (ms f e1)
theorem BJ(h:b)(k:a:=by(intros;first|omega|with_unfolding_all (first|first|omega|(have h0:=h1;simp only[decide_eq_false_iff_not]at h0;have z:=Jx a0 a1;have hc:=YA (ZD.YD u0);have w2:IntKind.i64.wrap ((Z1 a0 a1)+1)=(Z1 a0 a1)+1:=(YQ zAC zAC);have w:W ((Z1 a0 a1)+1)=(Z1 a0 a1)+1:=w2;omega))|((try simp only[Yd,show ∀x,IntKind.i64.wrap x=W x from fun _=>rfl]at*);omega))):a/\b:=⟨k,h⟩
theorem C9(a0:ZD)(a1:Int)(u0:Sm 2318336 a0):Sd 291 [a0.row,rI a1] [(qd a0 a1).1.row,rB (qd a0 a1).2]:=by
 have f:=me (qd.eq_1 a0 a1);refine soD func291 ntmps291 ?_;refine cDs [] (Yo a0 (sg u0)) ?_;refine cRs (jz a0 a1) ?_;refine cF f ?_ ?_<;>intro k1 h1 f
 ·exact rtD [.cell 4 44,.tmp 5] f
 refine drJ [25] mixed ?_;have c1:=sl 2318336 a0.ZE u0
 simp;repeat with_reducible refine BJ ?_
 refine lJ (rows:=a0.ZE.map ZO.row) (news:=(a0.ZE.drop (W (Z1 a0 a1+1)).toNat).map ZO.row) (size:=16) (u:=9) (j:=1) (len:=(Z1 a0 a1).toNat) (lo:=(W (Z1 a0 a1+1)).toNat) (n:=a0.ZE.length-(W (Z1 a0 a1+1)).toNat) rfl rfl rfl rfl zAE zAE zAE zAE zAE (by first|omega|(first|omega|(have h0:=h1;simp only[decide_eq_false_iff_not]at h0;have z:=Jx a0 a1;have hc:=YA (ZD.YD u0);have w2:IntKind.i64.wrap (Z1 a0 a1+1)=Z1 a0 a1+1:=YQ zAC zAC;have w:W (Z1 a0 a1+1)=Z1 a0 a1+1:=w2;omega))|(simp;first|omega|(have h0:=h1;simp only[decide_eq_false_iff_not]at h0;have z:=Jx a0 a1;have hc:=YA (ZD.YD u0);have w2:IntKind.i64.wrap (Z1 a0 a1+1)=Z1 a0 a1+1:=YQ zAC zAC;have w:W (Z1 a0 a1+1)=Z1 a0 a1+1:=w2;omega))) (by first|omega|(simp;done)|(simp;first|omega|(have h0:=h1;simp only[decide_eq_false_iff_not]at h0;have z:=Jx a0 a1;have hc:=YA (ZD.YD u0);have w2:IntKind.i64.wrap (Z1 a0 a1+1)=Z1 a0 a1+1:=YQ zAC zAC;have w:W (Z1 a0 a1+1)=Z1 a0 a1+1:=w2;omega))) (NQ _ _ _) zAE (by first|omega|(simp;first|omega|(have h0:=h1;simp only[decide_eq_false_iff_not]at h0;have z:=Jx a0 a1;have hc:=YA (ZD.YD u0);have w2:IntKind.i64.wrap (Z1 a0 a1+1)=Z1 a0 a1+1:=YQ zAC zAC;have w:W (Z1 a0 a1+1)=Z1 a0 a1+1:=w2;omega))) ?_;simp;exact rtD [.cell 4 44,.tmp 5] f
theorem Dg(a0 a1:ZD)(a2:List Int)(a3:Int)(u0:Sm 2301952 a0)(u1:Sm 2301952 a1)(u2:Sm 2301952 a2):Sd 243 [a0.row,a1.row,rL 1 iR a2,rI a3] [(Xy a0 a1 a2 a3).1.row,(Xy a0 a1 a2 a3).2.1.row,rB (Xy a0 a1 a2 a3).2.2]:=by
 have f:=me (Xy.eq_1 a0 a1 a2 a3);refine soD func243 ntmps243 ?_;refine cRs (YN.rd (Fb a0 a1.Id a2 a3 zB7 zB7)) ?_;refine cDs [] (Io a1 (X3 a0 a1.Id a2 a3).1 a3 zB8 zB8) ?_;refine cF f ?_ ?_<;>intro k1 h1 f
 ·refine okD fun k2=>?_;refine dIs mixed ?_;refine cDs [] (Yo a0 (sg u0)) ?_;refine cDs [] (Yo a1 (sg u1)) ?_;exact rtD [.cell 8 44,.cell 9 44,.tmp 10] f
 refine cDs [] (Yo a0 (sg u0)) ?_;refine lp3 (xY.eq_2 a0 a1 a2) (fun J U ib=>YM 70 [eX 4 (a0.row.map .d),eX 5 (a1.row.map .d),(8,.one (.bptr 8 0),[.box [.d (.int .i64 0),.nil 16]]),(9,.one (.bptr 9 0),[.box [.d (.int .i64 0),.nil 16]]),(13,.one (.bptr 13 0),[.box [.d (.int .i64 (QQ a1 (X3 a0 a1.Id a2 a3).1 a3).1.Id),.sref 33 1 0 (QQ a1 (X3 a0 a1.Id a2 a3).1 a3).1.ZE.length]]),(15,.one (.bptr 15 0),[.box [.d (.int .i64 U),.sref 15 2 0 ib.length],.none,.arr true 16 (ib.map ZO.row)]),(33,.any,[.none,.arr true 16 ((QQ a1 (X3 a0 a1.Id a2 a3).1 a3).1.ZE.map ZO.row)]),eL 48 1 a2 iR,eI 49 (a2.length:Int),eI 50 (J:Int)]) (fun n1 J U ib=>a2.length<n1+J/\J<=a2.length/\Sm 2301952 (ZD.mk U ib)) (a2.length+1) 0 a0.Id a0.ZE (fun p1 J U ib e1 j1=>?_) (hI:=by exact⟨zAC,zAC,Nat.zero_le _,u0⟩) (h0:=wkS [((15,2),some (47,1))] []);try dsimp only at j1
 refine cFf e1 ?_ ?_<;>intro k4 h2 e1
 ·have i1:=ix h2;have m2:=ml a2 (k4 48 _ rfl);have c1:=sl 2301952 a2 (an u0 (an u1 u2));have w1:=wr J;simp[i1,ZB];refine rpS ?_;refine cDs [] (C9 (ZD.mk U ib) (nth a2 J) (by exact ZK (n:=2301952) zAF j1.2.2.2)) ?_;refine cF e1 ?_ ?_<;>intro k5 h3 e1
  ·refine okD fun k6=>?_;refine dIs mixed ?_;refine cDs [] (Yo a0 (sg u0)) ?_;refine cDs [] (Yo a1 (sg u1)) ?_;exact rtD [.cell 8 44,.cell 9 44,.tmp 10] (ms f e1)
  exact nx3 e1 (hI:=by((try dsimp only);refine⟨zAC,zAC,zAC,?_⟩;exact LS zAF j1.2.2.2)) (hw:=Yk [((15,2),some (57,1))] [] rfl zAe)
 have c2:=sl 2301952 a2 (an u0 (an u1 u2));have f:=ms f e1;refine pX [(8,8),(9,9),(13,13),(15,15)] mixed zAZ zAZ zAZ zAZ ?_;simp;exact rtD [.cell 8 44,.cell 9 44,.tmp 10] f
theorem Bi(a0:ZF)(a1 a2 a3:Int)(u0:Sm 2297856 a0):Sd 170 [a0.row,rI a1,rI a2,rI a3] [(kn a0 a1 a2 a3).1.row,rB (kn a0 a1 a2 a3).2]:=by
 have f:=me (kn.eq_1 a0 a1 a2 a3);refine soD func170 ntmps170 ?_;refine cDs [false,false,false,true,true,false,false,true,false,false,true,false] (YT a0 (sg u0)) ?_;refine cRs (kM a0.Frame.Methods a0.Frame.Now) ?_;refine cRs (JC a0 a1) ?_;refine cGs (fun gg=>JC a0 a2) ?_;have c1:=sl 2297856 a0.ZA u0;have w1:IntKind.i64.wrap ((a0.ZA.length:Int)-1)=(a0.ZA.length:Int)-1:=YQ zAC zAC;refine cFo f ?_ ?_<;>intro k1 h1 f
 ·have q1:=h1;try simp[w1,YH,ZP]at q1
  simp;exact rtD [.cell 8 33,.tmp 9] f
 have q1:=h1;try simp[w1,YH,ZP]at q1
 simp;refine dIo mixed ?_;have i1:=ik a1.toNat a0.ZA
 have i2:=ik a2.toNat a0.ZA;simp[i1,ZB,i2];refine rpS ?_;refine cDs [] (Dg (nth a0.ZA a1.toNat) (nth a0.ZA a2.toNat) ([a3]:List Int) (Zc a0.Frame.Methods a0.Frame.Now) (sg (Zi (ZF.Z6 u0))) (sg (Zi (ZF.Z6 u0))) (by simp(maxDischargeDepth:=12) [TW,Y9,ZK (m:=2301952) zAF u0];try omega)) ?_;refine cF f ?_ ?_<;>intro k3 h2 f
 ·refine okD fun k4=>?_;refine sL [(10,10),(12,12),(13,13),(63,10),(66,10)] [71,72] [] mixed zAZ zAZ zAZ zAZ zAZ zAZ zAZ ?_;simp[i1,ZB];refine rpS ?_;refine IV (t:=16) (j:=7) (i:=a1.toNat) (size:=2) (rows:=a0.ZA.map ZD.row) (ds:=(Xy (nth a0.ZA a1.toNat) (nth a0.ZA a2.toNat) ([a3]:List Int) (Zc a0.Frame.Methods a0.Frame.Now)).1.row) (L:=[(58,1)]) ?_;simp[Ki (x:=(Xy (nth a0.ZA a1.toNat) (nth a0.ZA a2.toNat) ([a3]:List Int) (Zc a0.Frame.Methods a0.Frame.Now)).1) rfl,c1,i1,i2,ZB,XH];refine rpS ?_;refine IV (t:=16) (j:=7) (i:=a2.toNat) (size:=2) (rows:=(a0.ZA.set a1.toNat (Xy (nth a0.ZA a1.toNat) (nth a0.ZA a2.toNat) ([a3]:List Int) (Zc a0.Frame.Methods a0.Frame.Now)).1).map ZD.row) (ds:=(Xy (nth a0.ZA a1.toNat) (nth a0.ZA a2.toNat) ([a3]:List Int) (Zc a0.Frame.Methods a0.Frame.Now)).2.1.row) (L:=[(58,3)]) ?_;simp[Ki (x:=(Xy (nth a0.ZA a1.toNat) (nth a0.ZA a2.toNat) ([a3]:List Int) (Zc a0.Frame.Methods a0.Frame.Now)).1) rfl,c1,i1,i2,ZB,XH];refine rpS ?_;exact rtD [.cell 8 33,.tmp 9] f
 exact rtD [.cell 8 33,.tmp 9] f
theorem Fo(a0:ZD)(a1:Int)(u0:Sm 2322432 a0):Sd 244 [a0.row,rI a1] [(jQ a0 a1).1.row,rI (jQ a0 a1).2]:=by
 have f:=me (jQ.eq_1 a0 a1);refine soD func244 ntmps244 ?_;refine lp2 (J6.eq_2 a0 a1) (fun J U=>YM 39 [eI 1 a1,eX 2 (a0.row.map .d),(4,.one (.bptr 4 0),[.box [.d (.int .i64 0),.nil 16]]),(6,.one (.bptr 6 0),[.box [.d (.int .i64 a0.Id),.sref 6 2 0 U.length],.none,.arr true 16 (U.map ZO.row)]),eL 13 16 a0.ZE ZO.row,eI 14 (a0.ZE.length:Int),eI 15 (J:Int)]) (fun n1 J U=>a0.ZE.length<n1+J/\J<=a0.ZE.length/\U.length<=0+1*J) (a0.ZE.length+1) 0 ([]:List ZO) (fun p1 J U e1 j1=>?_) (h0:=wkS [((6,2),none)] []);refine cFf e1 ?_ ?_<;>intro k2 h1 e1
 ·have i1:=ix h1;have m2:=ml a0.ZE (k2 13 _ rfl);have c1:=sl 2322432 a0.ZE u0;have w1:=wr J;simp[i1,ZB];refine rpS ?_;refine cF e1 ?_ ?_<;>intro k3 h2 e1
  ·refine okD fun k4=>?_;refine drJ [28] mixed ?_;simp;refine cDs [true,true,true,false,false] (qQ (nth a0.ZE J) (sg (Zi (ZD.YD u0)))) ?_;refine qv ?_;simp;refine W9 (im:=U.map ZO.row) (news:=([nth a0.ZE J]:List ZO).map ZO.row) (l1:=[(6,2)]) (l2:=[(26,3),(26,4),(26,14),(26,15)]) (size:=16) ?_;simp;exact nx2 e1 (hw:=Yk [((6,2),some (28,0))] [] rfl zAe)
  exact ny2 w1 e1
 have c2:=sl 2322432 a0.ZE u0;have f:=ms f e1;refine pX [(2,2),(4,4),(6,6),(32,2),(35,6)] mixed zAZ zAZ zAZ zAZ ?_;simp;exact rtD [.cell 4 44,.tmp 5] f
theorem EV(a0:ZF)(a1:Int)(u0:Sm 2314240 a0):Sd 171 [a0.row,rI a1] [(yw a0 a1).1.row,rB (yw a0 a1).2]:=by
 have f:=me (yw.eq_1 a0 a1);refine soD func171 ntmps171 ?_;refine cDs [false,false,false,true,true,false,false,true,false,false,true,false] (YT a0 (sg u0)) ?_;refine cRs (JC a0 a1) ?_;have c1:=sl 2314240 a0.ZA u0;have w1:IntKind.i64.wrap ((a0.ZA.length:Int)-1)=(a0.ZA.length:Int)-1:=YQ zAC zAC;refine cFo f ?_ ?_<;>intro k1 h1 f
 ·have q1:=h1;try simp[w1,YH,ZP]at q1
  simp;exact rtD [.cell 4 33,.tmp 5] f
 have q1:=h1;try simp[w1,YH,ZP]at q1
 simp;refine drJ [] mixed ?_;have i1:=ik a1.toNat a0.ZA
 simp[i1,ZB];refine rpS ?_;refine cDf i1 [] (Fo (nth a0.ZA a1.toNat) a0.Frame.Now (sg (Zi (ZF.Z6 u0)))) ?_;refine IV (t:=8) (j:=7) (i:=a1.toNat) (size:=2) (rows:=a0.ZA.map ZD.row) (ds:=(jQ (nth a0.ZA a1.toNat) a0.Frame.Now).1.row) (L:=[(26,1)]) ?_;simp;refine rpS ?_;exact rtD [.cell 4 33,.tmp 5] f
theorem Uu(a0:List Z9)(a1:Int):Sa 254 [rL 4 Z9.row a0,rI a1] [rI (QF a0 a1)]:=by
 have f:=me (QF.eq_1 a0 a1);refine so func254 ntmps254 ?_;refine lp1 (Wc.eq_2 a0 a1) (fun J=>YM 20 [eI 1 a1,eL 7 4 a0 Z9.row,eI 8 (a0.length:Int),eI 9 (J:Int)]) (fun n1 J=>a0.length<n1+J/\J<=a0.length) (a0.length+1) 0 (fun p1 J e1 j1=>?_);refine cFf e1 ?_ ?_<;>intro k2 h1 e1
 ·have i1:=ix h1;have m2:=ml a0 (k2 7 _ rfl);have w1:=wr J;simp[i1,ZB];refine rpS ?_;refine cF e1 ?_ ?_<;>intro k3 h2 e1
  ·exact rt [.tmp 4] (ms f e1)
  exact ny1 w1 e1
 exact rt [.tmp 4] (ms f e1)
theorem U2(a0:List Z9)(a1:Int):Sa 320 [rL 4 Z9.row a0,rI a1] [rI (kz a0 a1)]:=by
 have f:=me (kz.eq_1 a0 a1);refine so func320 ntmps320 ?_;refine cRs (Uu a0 a1) ?_;refine cFf f ?_ ?_<;>intro k1 h1 f
 ·have i1:(QF a0 a1).toNat<a0.length:=by have:=kQ a0 a1;exact il
  simp[i1,ZB];refine rpS ?_;exact rt [.tmp 4] f
 exact rt [.tmp 4] f
theorem Un(a0:ZT)(a1:Int):Sa 292 [a0.row,rI a1] [rI (WV a0 a1)]:=by
 have f:=me (WV.eq_1 a0 a1);refine so func292 ntmps292 ?_;refine cRs (QJ a0.Zz a1) ?_;refine cF f ?_ ?_<;>intro k1 h1 f
 ·exact rt [.tmp 4] f
 refine dIo mixed ?_;have i1:(YU a0.Zz a1).toNat<a0.Zz.length:=by have:=Js a0.Zz a1;exact il
 simp[i1,ZB];refine rpS ?_;refine cRs (U2 a0.Methods (nth a0.Zz (YU a0.Zz a1).toNat).Method) ?_;exact rt [.tmp 4] f
theorem Re(a0:ZT)(a1:Int):Sa 245 [a0.row,rI a1] [rB (Tr a0 a1)]:=by have f:=me (Tr.eq_1 a0 a1);refine so func245 ntmps245 ?_;refine dIs mixed ?_;refine cRs (QJ a0.Zz a1) ?_;refine cGs (fun gg=>Un a0 a1) ?_;exact rt [.tmp 4] f
theorem D8(h:b)(k:a:=by(intros;first|omega|with_unfolding_all (first|first|omega|(have o:=YA (ZF.Mg (Kk (n:=2310144) (a1:=a1) (a2:=a2) (a4:=0) (a5:=10000) u0 u1 zAF));(try simp);omega))|((try simp only[Yd,show ∀x,IntKind.i64.wrap x=W x from fun _=>rfl]at*);omega))):a/\b:=⟨k,h⟩
theorem CO(a0:ZF)(a1 a2:Int)(a3:ZL)(u0:Sm 2310144 a0)(u1:Sm 2310144 a3):Sd 172 [a0.row,rI a1,rI a2,a3.row] [(ym a0 a1 a2 a3).1.row,rB (ym a0 a1 a2 a3).2]:=by
 have f:=me (ym.eq_1 a0 a1 a2 a3);refine soD func172 ntmps172 ?_;refine cRs (Re a0.Frame a2) ?_;refine cFo f ?_ ?_<;>intro k1 h1 f
 ·have q1:=h1;try simp at q1
  simp;refine cDs [false,false,false,true,true,false,false,true,false,false,true,false] (YT a0 zAp) ?_;refine EY (rv:=[.cell 8 33,.tmp 9]) rfl ?_;simp[f.h];all_goals((try simp only[q2,true_and]);(try(rintro r (⟨a,_,rfl⟩|rfl) x hx<;>simp at hx<;>subst hx<;>rfl)))
 have q1:=h1;try simp at q1
 simp;refine cRs (LK a0 a1 a2 a3 0 10000 (sg u0) (sg u1)) ?_;refine cDs [false,false,false,true,true,false,false,true,false,false,true,false] (YT (XP a0 a1 a2 a3 0 10000).1 zBG) ?_;refine cFo f ?_ ?_<;>intro k2 h2 f
 ·have q2:=h2;try simp at q2
  simp;repeat with_reducible refine D8 ?_
  refine EY (rv:=[.cell 8 33,.tmp 9]) rfl ?_;simp[f.h];all_goals((try simp only[q2,true_and]);(try(rintro r (⟨a,_,rfl⟩|rfl) x hx<;>simp at hx<;>subst hx<;>rfl)))
 have q2:=h2;try simp at q2
 simp;refine EY (rv:=[.cell 8 33,.tmp 9]) rfl ?_;simp[f.h];all_goals((try simp only[q2,true_and]);(try(rintro r (⟨a,_,rfl⟩|rfl) x hx<;>simp at hx<;>subst hx<;>rfl)))
theorem NC(a0:ZF)(u0:Sm 2326528 a0):Sd 246 [a0.row] [rL 1 iR (YP a0)]:=by
 have f:=me (YP.eq_1 a0);refine soD func246 ntmps246 ?_;refine lp2 (J9.eq_2 a0) (fun J U=>YM 33 [eX 1 (a0.row.map .d),(3,.one (.sref 3 0 0 J.length),[.arr false 1 (J.map iR)]),eL 8 3 a0.Frame.ZC Za.row,eI 9 (a0.Frame.ZC.length:Int),eI 10 (U:Int)]) (fun n1 J U=>a0.Frame.ZC.length<n1+U/\U<=a0.Frame.ZC.length/\J.length<=0+1*U) (a0.Frame.ZC.length+1) ([]:List Int) 0 (fun p1 J U e1 j1=>?_) (h0:=wkS [((3,0),none)] []);refine cFf e1 ?_ ?_<;>intro k2 h1 e1
 ·have i1:=ix h1;have m2:=ml a0.Frame.ZC (k2 8 _ rfl);have c1:=sl 2326528 a0.Frame.ZC u0;have w1:=wr U;simp[i1,ZB];refine rpS ?_;refine cRs (WA a0.XA (nth a0.Frame.ZC U).Id) ?_;refine cGs (fun gg=>Re a0.Frame (nth a0.Frame.ZC U).Key) ?_;refine cF e1 ?_ ?_<;>intro k3 h2 e1
  ·exact nx2 e1 (hw:=Yk [((3,0),some (30,0))] [] rfl zAe)
  exact ny2 w1 e1
 exact rtD [.tmp 2] (ms f e1)
theorem zn(h:b)(k:a:=by(intros;first|omega|with_unfolding_all (first|first|omega|(have f0:0<=(ZW a0 a1).1:=(by first|omega|(simp at*;omega));have fi:=QH a0 a1 f0;omega)|(have fl:=Kh a0;have fm:=YA (ZT.Yv (ZF.Yx u0));(try dsimp only at*);omega))|((try simp only[Yd,show ∀x,IntKind.i64.wrap x=W x from fun _=>rfl]at*);omega))):a/\b:=⟨k,h⟩
theorem Ik(a0:ZF)(a1 a2:Int)(u0:Sm 2314240 a0):Sd 173 [a0.row,rI a1,rI a2] [(KB a0 a1 a2).1.row,rB (KB a0 a1 a2).2]:=by
 have f:=me (KB.eq_1 a0 a1 a2);refine soD func173 ntmps173 ?_;refine cDs [false,false,false,true,true,false,false,true,false,false,true,false] (YT a0 (sg u0)) ?_;refine cRs (UM a0 a1) ?_;refine cRs (kM a0.Frame.Methods a0.Frame.Now) ?_;refine cRs (YN.rd (NC a0 (sg u0))) ?_;refine cRs (WA a0.Ym a1) ?_;refine cFt f ?_ ?_<;>intro k1 h1 f
 ·exact rtD [.cell 6 33,.tmp 7] f
 have i1:(ZW a0 a1).1.toNat<a0.ZA.length:=zBU;have i2:(ZW a0 a1).2.toNat<(nth a0.ZA (ZW a0 a1).1.toNat).ZE.length:=zBU;simp[i1,ZB,i2];repeat with_reducible refine zn ?_
 refine dIs mixed ?_;refine cRs (He (nth (nth a0.ZA (ZW a0 a1).1.toNat).ZE (ZW a0 a1).2.toNat) (Zc a0.Frame.Methods a0.Frame.Now) (sg (Zi (ZD.YD (Zi (ZF.Z6 u0)))))) ?_;refine lp2 (Jj.eq_2 a0 a1 a2) (fun J U=>YM 124 [eI 2 a2,(6,.one (.bptr 6 0),[.box [.nil 5,.nil 3,.nil 4,.d (.int .i64 0),.d (.int .i64 0),.nil 7,.nil 1,.nil 2,.nil 1,.nil 1,.d (.int .i64 0),.nil 1]]),eX 8 (a0.Frame.row.map .d),(9,.one (.bptr 9 0),[.box [.sref 25 0 0 a0.Frame.Zz.length,.sref 25 1 0 a0.Frame.ZC.length,.sref 25 2 0 a0.Frame.Methods.length,.d (.int .i64 a0.Frame.Jb),.d (.int .i64 a0.Frame.Now),.sref 25 5 0 a0.Zd.length,.sref 25 6 0 a0.YW.length,.sref 25 7 0 a0.ZA.length,.sref 25 8 0 a0.XW.length,.sref 25 9 0 a0.XA.length,.d (.int .i64 a0.Next),.sref 25 11 0 a0.Ym.length]]),eI 10 (ZW a0 a1).1,eI 11 (ZW a0 a1).2,eX 14 ((nth (nth a0.ZA (ZW a0 a1).1.toNat).ZE (ZW a0 a1).2.toNat).row.map .d),(15,.one (.bptr 15 0),[.box [.d (.int .i64 ((nth (nth a0.ZA (ZW a0 a1).1.toNat).ZE (ZW a0 a1).2.toNat).ZN.ZM.length:Int)),.d (.int .i64 (Zc a0.Frame.Methods a0.Frame.Now)),.d (.int .i64 (Ky (nth (nth a0.ZA (ZW a0 a1).1.toNat).ZE (ZW a0 a1).2.toNat) (Zc a0.Frame.Methods a0.Frame.Now))),.nil 2,.sref 15 5 0 U.length],.none,.none,.none,.none,.arr false 5 (U.map ZX.row)]),(25,.any,[.arr false 5 (a0.Frame.Zz.map Yg.row),.arr false 3 (a0.Frame.ZC.map Za.row),.arr false 4 (a0.Frame.Methods.map Z9.row),.none,.none,.arr false 7 (a0.Zd.map YL.row),.arr false 1 (a0.YW.map iR),.arr true 2 (a0.ZA.map ZD.row),.arr false 1 (a0.XW.map iR),.arr false 1 (a0.XA.map iR),.none,.arr false 1 (a0.Ym.map iR)]),eL 76 1 (YP a0) iR,eI 77 ((YP a0).length:Int),eI 78 (J:Int)]) (fun n1 J U=>(YP a0).length<n1+J/\J<=(YP a0).length/\U.length<=0+1*J) ((YP a0).length+1) 0 ([]:List ZX) (fun p1 J U e1 j1=>?_) (h0:=wkS [((15,5),none)] []);try dsimp only at j1
 refine cFf e1 ?_ ?_<;>intro k4 h2 e1
 ·have i3:=ix h2;have m2:=ml (YP a0) (k4 76 _ rfl);have w1:=wr J;simp[i3,ZB];repeat with_reducible refine zn ?_
  refine cRs (Wm a0.Frame.Zz a0.Frame.ZC (ZX.mk (nth (YP a0) J) 0 a2 (Ky (nth (nth a0.ZA (ZW a0 a1).1.toNat).ZE (ZW a0 a1).2.toNat) (Zc a0.Frame.Methods a0.Frame.Now)) 0) (sg (ZT.XD (ZF.Yx u0))) (sg (ZT.Yv (ZF.Yx u0)))) ?_;refine cFt e1 ?_ ?_<;>intro k5 h3 e1
  ·exact rtD [.cell 6 33,.tmp 7] (ms f e1)
  simp;repeat with_reducible refine zn ?_
  exact nx2 e1 (hw:=Yk [((15,5),some (102,0))] [] rfl zAe)
 have f:=ms f e1;refine cDs [] (O6 (nth (nth a0.ZA (ZW a0 a1).1.toNat).ZE (ZW a0 a1).2.toNat).ZN (ZZ.mk ((nth (nth a0.ZA (ZW a0 a1).1.toNat).ZE (ZW a0 a1).2.toNat).ZN.ZM.length:Int) (Zc a0.Frame.Methods a0.Frame.Now) (Ky (nth (nth a0.ZA (ZW a0 a1).1.toNat).ZE (ZW a0 a1).2.toNat) (Zc a0.Frame.Methods a0.Frame.Now)) ([]:List Xk) U) zBD zBD) ?_;refine drJ [] mixed ?_;simp[i1,ZB,i2];repeat with_reducible refine zn ?_
 refine mO (t:=25) (j:=7) (i:=(ZW a0 a1).1.toNat) (c:=1) (k':=(ZW a0 a1).2.toNat) (q:=14) (n:=16) (size:=2) (s:=(nth a0.ZA (ZW a0 a1).1.toNat).ZE.map ZO.row) (rows:=a0.ZA.map ZD.row) (ds:=(Qr (nth (nth a0.ZA (ZW a0 a1).1.toNat).ZE (ZW a0 a1).2.toNat).ZN (ZZ.mk ((nth (nth a0.ZA (ZW a0 a1).1.toNat).ZE (ZW a0 a1).2.toNat).ZN.ZM.length:Int) (Zc a0.Frame.Methods a0.Frame.Now) (Ky (nth (nth a0.ZA (ZW a0 a1).1.toNat).ZE (ZW a0 a1).2.toNat) (Zc a0.Frame.Methods a0.Frame.Now)) ([]:List Xk) U)).1.row) (L:=[(109,0),(109,1)]) rfl rfl rfl rfl (by simp;rfl) zAE zAE (by simp[i1,i2]) (by simp[ZB,XH,i1,i2]) (by simp[i1,i2]) zAE zAE zAE zAE zAE zAE ?_;simp[Ki (x:=ZD.mk (nth a0.ZA (ZW a0 a1).1.toNat).Id ((nth a0.ZA (ZW a0 a1).1.toNat).ZE.set (ZW a0 a1).2.toNat (ZO.mk (nth (nth a0.ZA (ZW a0 a1).1.toNat).ZE (ZW a0 a1).2.toNat).Id (nth (nth a0.ZA (ZW a0 a1).1.toNat).ZE (ZW a0 a1).2.toNat).XL (nth (nth a0.ZA (ZW a0 a1).1.toNat).ZE (ZW a0 a1).2.toNat).Doc (nth (nth a0.ZA (ZW a0 a1).1.toNat).ZE (ZW a0 a1).2.toNat).Sig (Qr (nth (nth a0.ZA (ZW a0 a1).1.toNat).ZE (ZW a0 a1).2.toNat).ZN (ZZ.mk ((nth (nth a0.ZA (ZW a0 a1).1.toNat).ZE (ZW a0 a1).2.toNat).ZN.ZM.length:Int) (Zc a0.Frame.Methods a0.Frame.Now) (Ky (nth (nth a0.ZA (ZW a0 a1).1.toNat).ZE (ZW a0 a1).2.toNat) (Zc a0.Frame.Methods a0.Frame.Now)) ([]:List Xk) U)).1))) rfl,ZB,XH,i1,i2];repeat with_reducible refine zn ?_
 exact rtD [.cell 6 33,.tmp 7] f
theorem Lc(h:b)(k:a:=by(intros;first|omega|with_unfolding_all (first|first|omega|(have z:=Jt a0 a1 zCQ;(try simp at*);omega))|(simp_all;done)|(simp_all;omega)|grind|((try simp only[Yd,show ∀x,IntKind.i64.wrap x=W x from fun _=>rfl]at*);omega))):a/\b:=⟨k,h⟩
theorem Bh(a0:ZF)(a1 a2:Int)(u0:Sm 2310144 a0):Sd 174 [a0.row,rI a1,rI a2] [(kg a0 a1 a2).1.row,rB (kg a0 a1 a2).2]:=by
 have f:=me (kg.eq_1 a0 a1 a2);refine soD func174 ntmps174 ?_;refine cRs (FF a0 a1) ?_;refine dIs mixed ?_;refine gIo ?_ ?_<;>intro G
 ·have g1:=G;try simp at g1
  have i1:(Yc a0 a1).2.1.toNat<a0.Zd.length:=zBX;simp[i1,ZB,G];repeat with_reducible refine Lc ?_
  refine cGo (fun gg=>Re a0.Frame (nth a0.Zd (Yc a0 a1).2.1.toNat).YG) ?_;simp;refine cKo f ?_ ?_<;>intro k2 h1 f
  ·simp;refine cD [false,false,false,true,true,false,false,true,false,false,true,false] (YT a0 (sg u0)) ?_;simp;exact yA _ f
  ·simp;refine dIo mixed ?_;simp[i1,ZB];repeat with_reducible refine Lc ?_
   refine cD [false,false,false,true,true,false,false,true,false,false,true,false] (Ro a0 (Yc a0 a1).1 a1 (Zx.mk (nth a0.Zd (Yc a0 a1).2.1.toNat).Zk a2 (-1) (nth a0.Zd (Yc a0 a1).2.1.toNat).YG 0) (sg u0) zBl) ?_;simp;exact yA _ f
 ·simp[G];refine sGo ?_;simp;refine cKo f ?_ ?_<;>intro k4 h2 f
  ·simp;refine cD [false,false,false,true,true,false,false,true,false,false,true,false] (YT a0 (sg u0)) ?_;simp;exact yA _ f
  ·simp[G]at h2
theorem Uk(a0:ZF)(a1:Zo)(u0:Sm 2293760 a0)(u1:Sm 2293760 a1):Sd 98 [a0.row,a1.row] [(QG a0 a1).1.row,rB (QG a0 a1).2]:=by
 have f:=me (QG.eq_1 a0 a1);refine soD func98 ntmps98 ?_;refine cF f ?_ ?_<;>intro k1 h1 f
 ·refine cDs [false,false,false,true,true,false,false,true,false,false,true,false] (BN a0 a1.A (sg u0)) ?_;exact rtD _ f
 refine cF f ?_ ?_<;>intro k2 h2 f
 ·refine cDs [false,false,false,true,true,false,false,true,false,false,true,false] (Bm a0 a1.A a1.B a1.Doc a1.C a1.D (sg u0) (sg (Zo.KU u1))) ?_;exact rtD _ f
 refine cF f ?_ ?_<;>intro k3 h3 f
 ·refine cDs [false,false,false,true,true,false,false,true,false,false,true,false] (Fx a0 a1.A (sg u0)) ?_;exact rtD _ f
 refine cF f ?_ ?_<;>intro k4 h4 f
 ·refine cDs [false,false,false,true,true,false,false,true,false,false,true,false] (Fg a0 a1.A (sg u0)) ?_;exact rtD _ f
 refine cF f ?_ ?_<;>intro k5 h5 f
 ·refine cDs [false,false,false,true,true,false,false,true,false,false,true,false] (Cf a0 a1.A a1.Ids a1.B (sg u0) (sg (Zo.pU u1))) ?_;exact rtD _ f
 refine cF f ?_ ?_<;>intro k6 h6 f
 ·refine cDs [false,false,false,true,true,false,false,true,false,false,true,false] (Bi a0 a1.A a1.B a1.C (sg u0)) ?_;exact rtD _ f
 refine cF f ?_ ?_<;>intro k7 h7 f
 ·refine cDs [false,false,false,true,true,false,false,true,false,false,true,false] (EV a0 a1.A (sg u0)) ?_;exact rtD _ f
 refine cF f ?_ ?_<;>intro k8 h8 f
 ·refine cDs [false,false,false,true,true,false,false,true,false,false,true,false] (CO a0 a1.A a1.B a1.Doc (sg u0) (sg (Zo.KU u1))) ?_;exact rtD _ f
 refine cF f ?_ ?_<;>intro k9 h9 f
 ·refine cDs [false,false,false,true,true,false,false,true,false,false,true,false] (Ik a0 a1.A a1.B (sg u0)) ?_;exact rtD _ f
 refine cF f ?_ ?_<;>intro cv dT f
 ·refine cDs [false,false,false,true,true,false,false,true,false,false,true,false] (Bh a0 a1.A a1.B (sg u0)) ?_;exact rtD _ f
 refine cDs [false,false,false,true,true,false,false,true,false,false,true,false] (YT a0 (sg u0)) ?_;exact rtD _ f
theorem V8(h:b)(k:a:=by(intros;first|omega|with_unfolding_all (first|first|omega|(simp at h1;simp only[Yd]at*;omega)|(have z:=xd (a1.tail.take ((W (a2+1)).toNat-1)) zCS;simp at h1 z;simp only[Yd]at*;omega))|((try simp only[Yd,show ∀x,IntKind.i64.wrap x=W x from fun _=>rfl]at*);omega))):a/\b:=⟨k,h⟩
theorem LV(a0:ZF)(a1:List ByteArray)(a2:Int)(u0:Sm 2289664 a0)(u1:Sm 2289664 a1)(u2:a2=3\/a2=4):Sa 57 [a0.row,rL 1 sR a1,rI a2] [(KR a0 a1 a2).1.row,rS (KR a0 a1 a2).2]:=by
 have f:=me (KR.eq_1 a0 a1 a2);refine so func57 ntmps57 ?_;refine cFt f ?_ ?_<;>intro k1 h1 f
 ·exact rt [.cell 6 33,.tmp 7] f
 simp;repeat with_reducible refine V8 ?_
 refine cRs (YN.rd (TQ (a1.tail.take ((W (a2+1)).toNat-1)) (by exact sg (Ol (tx u1))))) ?_;refine cF f ?_ ?_<;>intro k2 h2 f
 ·exact rt [.cell 6 33,.tmp 7] f
 refine okD fun k3=>?_;refine dIo mixed ?_;have i1:((Ze (a1.tail.take ((W (a2+1)).toNat-1))).1.length-1)<(Ze (a1.tail.take ((W (a2+1)).toNat-1))).1.length:=zAj
 have m1:=ml (Ze (a1.tail.take ((W (a2+1)).toNat-1))).1 (k3 8 _ rfl);have w1:IntKind.i64.wrap (((Ze (a1.tail.take ((W (a2+1)).toNat-1))).1.length:Int)-1)=((Ze (a1.tail.take ((W (a2+1)).toNat-1))).1.length:Int)-1:=YQ zAC zAC;simp[i1,ZB,w1,kT];repeat with_reducible refine V8 ?_
 refine cRs (YN.rd (HQ (nth (Ze (a1.tail.take ((W (a2+1)).toNat-1))).1 ((Ze (a1.tail.take ((W (a2+1)).toNat-1))).1.length-1)) (a1.drop (W (a2+1)).toNat) 11 (by exact ZK (n:=2289664) zAF (TT u1)))) ?_ (hG:=by first|(simp;done)|(simp[W,w1];done));refine dIo mixed ?_;have i2:0<(Ze (a1.tail.take ((W (a2+1)).toNat-1))).1.length:=zAj
 have i3:1<(Ze (a1.tail.take ((W (a2+1)).toNat-1))).1.length:=zAj;have i4:0<a1.length:=zAj;simp[i2,ZB,i3,i4];repeat with_reducible refine V8 ?_
 refine cFf f ?_ ?_<;>intro k5 h3 f
 ·have i5:2<(Ze (a1.tail.take ((W (a2+1)).toNat-1))).1.length:=zAj;simp[i5,ZB];repeat with_reducible refine V8 ?_
  refine cDs [false,false,false,true,true,false,false,true,false,false,true,false] (Uk a0 (Zo.mk 2 (nth (Ze (a1.tail.take ((W (a2+1)).toNat-1))).1 0) (nth (Ze (a1.tail.take ((W (a2+1)).toNat-1))).1 1) 0 (nth (Ze (a1.tail.take ((W (a2+1)).toNat-1))).1 2) (X5 (nth (Ze (a1.tail.take ((W (a2+1)).toNat-1))).1 ((Ze (a1.tail.take ((W (a2+1)).toNat-1))).1.length-1)) (a1.drop (W (a2+1)).toNat) 11).1 ([]:List Int)) zAl zAl) ?_ (hG:=by first|(simp;done)|(simp[W,w1];done));refine cFo f ?_ ?_<;>intro k6 h4 f
  ·have q4:=h4;try simp[w1]at q4
   simp;exact rt [.cell 6 33,.tmp 7] f
  have q4:=h4;try simp[w1]at q4
  simp;refine dIs mixed ?_;refine cRs (XG a0.Next) ?_;exact rt [.cell 6 33,.tmp 7] f
 refine cDs [false,false,false,true,true,false,false,true,false,false,true,false] (Uk a0 (Zo.mk 8 (nth (Ze (a1.tail.take ((W (a2+1)).toNat-1))).1 0) (nth (Ze (a1.tail.take ((W (a2+1)).toNat-1))).1 1) 0 0 (X5 (nth (Ze (a1.tail.take ((W (a2+1)).toNat-1))).1 ((Ze (a1.tail.take ((W (a2+1)).toNat-1))).1.length-1)) (a1.drop (W (a2+1)).toNat) 11).1 ([]:List Int)) zAl zAl) ?_ (hG:=by first|(simp;done)|(simp[W,w1];done));refine cFo f ?_ ?_<;>intro k8 h5 f
 ·have q5:=h5;try simp[w1]at q5
  simp;exact rt [.cell 6 33,.tmp 7] f
 have q5:=h5;try simp[w1]at q5
 simp;refine dIs mixed ?_;refine cRs (XG a0.Next) ?_;exact rt [.cell 6 33,.tmp 7] f
theorem JR(a0:ZF)(a1:Zo)(u0:Sm 2289664 a0)(u1:Sm 2289664 a1):Sa 61 [a0.row,a1.row] [(Y7 a0 a1).1.row,rS (Y7 a0 a1).2]:=by
 have f:=me (Y7.eq_1 a0 a1);refine so func61 ntmps61 ?_;refine cDs [false,false,false,true,true,false,false,true,false,false,true,false] (Uk a0 a1 (sg u0) (sg u1)) ?_;refine cF f ?_ ?_<;>intro k1 h1 f
 ·exact rt [.cell 4 33,.tmp 5] f
 exact rt [.cell 4 33,.tmp 5] f
theorem ya(h:b)(k:a:=by(intros;first|omega|with_unfolding_all (first|first|omega|(simp at h1;have z:=u2 (nth a1 2) (oX zAC);omega))|((try simp only[Yd,show ∀x,IntKind.i64.wrap x=W x from fun _=>rfl]at*);omega))):a/\b:=⟨k,h⟩
theorem Cc(a0:ZF)(a1:List ByteArray)(u0:Sm 2285568 a0)(u1:Sm 2285568 a1)(u2:∀x∈a1,0<x.size):Sa 58 [a0.row,rL 1 sR a1] [(Ko a0 a1).1.row,rS (Ko a0 a1).2]:=by
 have f:=me (Ko.eq_1 a0 a1);refine so func58 ntmps58 ?_;refine cFt f ?_ ?_<;>intro k1 h1 f
 ·exact rt [.cell 4 33,.tmp 5] f
 have i1:2<a1.length:=zBq;simp[i1,ZB];repeat with_reducible refine ya ?_
 refine cFf f ?_ ?_<;>intro k2 h2 f
 ·simp;repeat with_reducible refine ya ?_
  refine cR (jr ((nth a1 2).extract 1 (nth a1 2).size) zBd) ?_;have i2:1<a1.length:=zBq
  simp[i2,ZB];repeat with_reducible refine ya ?_
  refine cR (jr (nth a1 1) zBd) ?_;simp;repeat with_reducible refine ya ?_
  refine cRs (YN.rd (TQ (a1.drop 3) (by exact sg (TT u1)))) ?_;refine cF f ?_ ?_<;>intro k3 h3 f
  ·exact rt [.cell 4 33,.tmp 5] f
  refine cRs (JR a0 (Zo.mk 5 (Xo (nth a1 1)).1 (W ((-1)*(Xo ((nth a1 2).extract 1 (nth a1 2).size)).1)) 0 0 (ZL.mk 0 ([]:List ByteArray) ([]:List Int)) (Ze (a1.drop 3)).1) zAx zAx) ?_;exact rt [.cell 4 33,.tmp 5] f
 refine cR (jr (nth a1 2) zBd) ?_;have i3:1<a1.length:=zBq
 simp[i3,ZB];repeat with_reducible refine ya ?_
 refine cR (jr (nth a1 1) zBd) ?_;simp;repeat with_reducible refine ya ?_
 refine cRs (YN.rd (TQ (a1.drop 3) (by exact sg (TT u1)))) ?_;refine cF f ?_ ?_<;>intro k4 h4 f
 ·exact rt [.cell 4 33,.tmp 5] f
 refine cRs (JR a0 (Zo.mk 5 (Xo (nth a1 1)).1 (W (1*(Xo (nth a1 2)).1)) 0 0 (ZL.mk 0 ([]:List ByteArray) ([]:List Int)) (Ze (a1.drop 3)).1) zAx zAx) ?_;exact rt [.cell 4 33,.tmp 5] f
theorem S5(a0:ZO)(u0:Sm 2326528 a0):Sd 248 [a0.row] [(KH a0).row]:=by have f:=me (KH.eq_1 a0);refine soD func248 ntmps248 ?_;refine cDs [] (Kx a0.ZN (sg (ZO.Yz u0))) ?_;refine sI (news:=([a0.ZN]:List ZU).map ZU.row) (L:=[(5,0),(5,1)]) rfl rfl rfl rfl zAE zAE zAE zAE zAE zAE ?_;simp;exact rtD [.cell 2 223] f
theorem FZ(a0:ZU)(a1:ZL)(u0:Sm 2318336 a0)(u1:Sm 2318336 a1):Sd 333 [a0.row,a1.row] [rL 1 iR (jE a0 a1)]:=by
 have f:=me (jE.eq_1 a0 a1);refine soD func333 ntmps333 ?_;refine lp2 (qf.eq_2 a0 a1) (fun J U=>YM 24 [eX 3 (a1.row.map .d),(5,.one (.sref 5 0 0 J.length),[.arr false 1 (J.map iR)]),eL 9 5 a0.ZR ZZ.row,eI 10 (a0.ZR.length:Int),eI 11 (U:Int)]) (fun n1 J U=>a0.ZR.length<n1+U/\U<=a0.ZR.length/\J.length<=0+1*U) (a0.ZR.length+1) ([]:List Int) 0 (fun p1 J U e1 j1=>?_) (h0:=wkS [((5,0),none)] []);refine cFf e1 ?_ ?_<;>intro k2 h1 e1
 ·have i1:=ix h1;have m2:=ml a0.ZR (k2 9 _ rfl);have c1:=sl 2318336 a0.ZR (an u0 u1);have w1:=wr U;simp[i1,ZB];refine rpS ?_;refine cRs (yQ (nth a0.ZR U).Method a1 (sg u1)) ?_;exact nx2 e1 (hw:=Yk [((5,0),some (21,0))] [] rfl zAe)
 exact rtD [.tmp 4] (ms f e1)
theorem Lz(a0:Zh)(a1:ZL)(u0:Sm 2314240 a0)(u1:Sm 2314240 a1):Sd 294 [a0.row,a1.row] [rL 1 (slR 1 iR) (zQ a0 a1)]:=by
 have f:=me (zQ.eq_1 a0 a1);refine soD func294 ntmps294 ?_;refine lp2 (zf.eq_2 a0 a1) (fun J U=>YM 23 [eX 3 (a1.row.map .d),(5,.one (.sref 5 0 0 J.length),[.arr true 1 (J.map (slR 1 iR))]),eL 9 2 a0.Zg ZU.row,eI 10 (a0.Zg.length:Int),eI 11 (U:Int)]) (fun n1 J U=>a0.Zg.length<n1+U/\U<=a0.Zg.length/\J.length<=U) (a0.Zg.length+1) ([]:List (List Int)) 0 (fun p1 J U e1 j1=>?_) (h0:=wkS [((5,0),none)] []);refine cFf e1 ?_ ?_<;>intro k2 h1 e1
 ·have i1:=ix h1;have m2:=ml a0.Zg (k2 9 _ rfl);have c1:=sl 2314240 a0.Zg (an u0 u1);have w1:=wr U;simp[i1,ZB];refine cDs [false] (FZ (nth a0.Zg U) a1 (sg (Zi (Zh.Xc u0))) (sg u1)) ?_;refine qv ?_;simp;refine na (im:=J.map (slR 1 iR)) (news:=([jE (nth a0.Zg U) a1]:List (List Int)).map (slR 1 iR)) (l1:=[(5,0)]) (l2:=[(18,0)]) (size:=1) rfl rfl rfl rfl zAE zAE zAE zAE zAE (by simp;(first|omega|(have z:=YA (Zh.Xc u0);omega))) ?_;simp;exact nx2 e1 (hw:=Yk [((5,0),some (20,0))] [] rfl zAe)
 exact rtD [.tmp 4] (ms f e1)
theorem uz(a0:Yg):Sa 337 [a0.row] [rB (wV a0)]:=by have f:=me (wV.eq_1 a0);refine so func337 ntmps337 ?_;refine cRs (Zu a0.Number 1 99) ?_;refine cGs (fun gg=>Zu a0.z9 0 99) ?_;refine cGs (fun gg=>Zu a0.Method 0 99) ?_;refine cGs (fun gg=>Km a0.OT) ?_;refine cGs (fun gg=>Ov a0.Um) ?_;exact rt [.tmp 2] f
theorem wD(a0:List Yg):Sa 299 [rL 5 Yg.row a0] [rB (GX a0)]:=by
 have f:=me (GX.eq_1 a0);refine so func299 ntmps299 ?_;refine lp1 (NG.eq_2 a0) (fun J=>YM 34 [eL 0 5 a0 Yg.row,eL 5 5 a0 Yg.row,eI 6 (a0.length:Int),eI 7 (J:Int)]) (fun n1 J=>a0.length<n1+J/\J<=a0.length) (a0.length+1) 0 (fun p1 J e1 j1=>?_);refine cFf e1 ?_ ?_<;>intro k2 h1 e1
 ·have i1:=ix h1;have m2:=ml a0 (k2 0 _ rfl);have w1:=wr J;simp[i1,ZB];refine rpS ?_;refine dIs mixed ?_;refine cRs (uz (nth a0 J)) ?_;refine gIf ?_ ?_<;>intro G
  ·have i2:=ik (J-1) a0;have w2:IntKind.i64.wrap ((J:Int)-1)=(J:Int)-1:=YQ zAC zAC;simp[i2,ZB,w2,G];refine rpG ?_;refine cK e1 ?_ ?_<;>intro k4 h2 e1
   ·exact rtg [.tmp 2] (ms f e1)
   ·exact ny1 (an w1 (an w2 G)) e1
  ·refine cK e1 ?_ ?_<;>intro k5 h3 e1
   ·exact rtg [.tmp 2] (ms f e1)
   ·exact ny1 (an w1 G) e1
 exact rt [.tmp 2] (ms f e1)
theorem Mn(a0:List Za):Sa 300 [rL 3 Za.row a0] [rB (Vp a0)]:=by
 have f:=me (Vp.eq_1 a0);refine so func300 ntmps300 ?_;refine lp1 (kX.eq_2 a0) (fun J=>YM 47 [eL 0 3 a0 Za.row,eL 5 3 a0 Za.row,eI 6 (a0.length:Int),eI 7 (J:Int)]) (fun n1 J=>a0.length<n1+J/\J<=a0.length) (a0.length+1) 0 (fun p1 J e1 j1=>?_);refine cFf e1 ?_ ?_<;>intro k2 h1 e1
 ·have i1:=ix h1;have m2:=ml a0 (k2 0 _ rfl);have w1:=wr J;simp[i1,ZB];refine rpS ?_;refine dIs mixed ?_;refine cRs (Zu (nth a0 J).Id 0 99) ?_;refine cGs (fun gg=>Zu (nth a0 J).Key 1 99) ?_;refine cGs (fun gg=>Zu (nth a0 J).Error 0 100) ?_;refine gIf ?_ ?_<;>intro G
  ·have i2:=ik (J-1) a0;have w2:IntKind.i64.wrap ((J:Int)-1)=(J:Int)-1:=YQ zAC zAC;simp[i2,ZB,w2,G];refine rpG ?_;refine cKo e1 ?_ ?_<;>intro k4 h2 e1
   ·have q2:=h2;try simp[ZP]at q2
    have f:=ms f e1;simp;refine rpG ?_;exact rtg [.tmp 2] f
   ·have q2:=h2;try simp[ZP]at q2
    simp;refine rpG ?_;exact ny1 (an w1 (an w2 G)) e1
  ·refine cKo e1 ?_ ?_<;>intro k5 h3 e1
   ·have q3:=h3;try simp[ZP]at q3
    have f:=ms f e1;simp;refine rpG ?_;exact rtg [.tmp 2] f
   ·have q3:=h3;try simp[ZP]at q3
    simp;refine rpG ?_;exact ny1 (an w1 G) e1
 exact rt [.tmp 2] (ms f e1)
theorem BS(a0:Z9):Sa 338 [a0.row] [rB (Ll a0)]:=by have f:=me (Ll.eq_1 a0);refine so func338 ntmps338 ?_;refine cRs (Zu a0.Id 0 99) ?_;refine cGs (fun gg=>Km a0.PR) ?_;refine cGs (fun gg=>Zu a0.Ends 1 10001) ?_;refine cGs (fun gg=>Zu a0.Uc 1 10001) ?_;exact rt [.tmp 2] f
theorem Fm(a0:List Z9):Sa 301 [rL 4 Z9.row a0] [rB (P5 a0)]:=by
 have f:=me (P5.eq_1 a0);refine so func301 ntmps301 ?_;refine lp1 (Tp.eq_2 a0) (fun J=>YM 34 [eL 0 4 a0 Z9.row,eL 5 4 a0 Z9.row,eI 6 (a0.length:Int),eI 7 (J:Int)]) (fun n1 J=>a0.length<n1+J/\J<=a0.length) (a0.length+1) 0 (fun p1 J e1 j1=>?_);refine cFf e1 ?_ ?_<;>intro k2 h1 e1
 ·have i1:=ix h1;have m2:=ml a0 (k2 0 _ rfl);have w1:=wr J;simp[i1,ZB];refine rpS ?_;refine dIs mixed ?_;refine cRs (BS (nth a0 J)) ?_;refine gIf ?_ ?_<;>intro G
  ·have i2:=ik (J-1) a0;have w2:IntKind.i64.wrap ((J:Int)-1)=(J:Int)-1:=YQ zAC zAC;simp[i2,ZB,w2,G];refine rpG ?_;refine cK e1 ?_ ?_<;>intro k4 h2 e1
   ·exact rtg [.tmp 2] (ms f e1)
   ·exact ny1 (an w1 (an w2 G)) e1
  ·refine cK e1 ?_ ?_<;>intro k5 h3 e1
   ·exact rtg [.tmp 2] (ms f e1)
   ·exact ny1 (an w1 G) e1
 exact rt [.tmp 2] (ms f e1)
theorem Ig(a0:ZT):Sa 257 [a0.row] [rB (Mh a0)]:=by have f:=me (Mh.eq_1 a0);refine so func257 ntmps257 ?_;refine cRs (wD a0.Zz) ?_;refine cGs (fun gg=>Mn a0.ZC) ?_;refine cGs (fun gg=>Fm a0.Methods) ?_;refine cGs (fun gg=>Zu a0.Jb 0 6) ?_;refine cGs (fun gg=>Km a0.Now) ?_;exact rt [.tmp 2] f
theorem Tc(a0:Int):Sa 321 [rI a0] [(P7 a0).row]:=by have f:=me (P7.eq_1 a0);refine so func321 ntmps321 ?_;exact rt [.cell 2 161] f
theorem Pz(a0:Int):Sa 322 [rI a0] [(TZ a0).row]:=by have f:=me (TZ.eq_1 a0);refine so func322 ntmps322 ?_;exact rt [.cell 2 161] f
theorem JO(a0:List Yg)(a1:Int)(a2:List Int)(a3:Int)(u0:Sm 2318336 a0)(u1:Sm 2318336 a2):Sa 302 [rL 5 Yg.row a0,rI a1,rL 1 iR a2,rI a3] [rB (KA a0 a1 a2 a3)]:=by have f:=me (KA.eq_1 a0 a1 a2 a3);refine so func302 ntmps302 ?_;refine cRs (UT a0 a1 a2 (sg u0) (sg u1)) ?_;exact rt [.tmp 8] f
theorem M0(a0:List Yg)(a1:Zs)(u0:Sm 2314240 a0):Sa 323 [rL 5 Yg.row a0,a1.row] [rB (VZ a0 a1)]:=by have f:=me (VZ.eq_1 a0 a1);refine so func323 ntmps323 ?_;refine dIs mixed ?_;refine cRs (Vl a1) ?_;refine cGs (fun gg=>YN.rd (kZ a1)) ?_;refine cGs (fun gg=>JO a0 a1.Key (X9 a1) a1.Mark (sg u0) (by simp(maxDischargeDepth:=12) [kc];try omega)) ?_;exact rt [.tmp 4] f
theorem Dh(a0:ZU)(a1:ZV):Sa 363 [a0.row,a1.row] [rI (UE a0 a1)]:=by
 have f:=me (UE.eq_1 a0 a1);refine so func363 ntmps363 ?_;refine lp1 (PK.eq_2 a0 a1) (fun J=>YM 20 [eX 3 (a1.row.map .d),eL 8 3 a0.ZM ZV.row,eI 9 (a0.ZM.length:Int),eI 10 (J:Int)]) (fun n1 J=>a0.ZM.length<n1+J/\J<=a0.ZM.length) (a0.ZM.length+1) 0 (fun p1 J e1 j1=>?_);refine cFf e1 ?_ ?_<;>intro k2 h1 e1
 ·have i1:=ix h1;have m2:=ml a0.ZM (k2 8 _ rfl);have w1:=wr J;simp[i1,ZB];refine rpS ?_;refine cRs (jS (nth a0.ZM J) a1) ?_;refine cF e1 ?_ ?_<;>intro k3 h2 e1
  ·exact rt [.tmp 4] (ms f e1)
  exact ny1 w1 e1
 exact rt [.tmp 4] (ms f e1)
theorem KD(a0:Zn):Sa 198 [a0.row] [rB (yZ a0)]:=by have f:=me (yZ.eq_1 a0);refine so func198 ntmps198 ?_;refine cRs (Km a0.Xv) ?_;refine cGs (fun gg=>Km a0.To) ?_;exact rt [.tmp 2] f
theorem Rb(a0 a1:Int):Sa 372 [rI a0,rI a1] [(yv a0 a1).1.row,rB (yv a0 a1).2]:=by
 have f:=me (yv.eq_1 a0 a1);refine so func372 ntmps372 ?_;refine cGs (fun gg=>KD (Zn.mk (if 0>a0 then 0 else a0) (if 10000<a1 then 10000 else a1))) ?_;refine cF f ?_ ?_<;>intro k1 h1 f
 ·exact rt [.cell 4 159,.tmp 5] f
 exact rt [.cell 4 159,.tmp 5] f
theorem CA(a0:List Za)(a1:ZX):Sa 367 [rL 3 Za.row a0,a1.row] [(UI a0 a1).1.row,rB (UI a0 a1).2]:=by
 have f:=me (UI.eq_1 a0 a1);refine so func367 ntmps367 ?_;refine cRs (K9 a0 a1.Authority) ?_;refine gIf ?_ ?_<;>intro G
 ·have i1:(Zr a0 a1.Authority).toNat<a0.length:=zCN;simp[i1,ZB,G];refine rpG ?_;refine cGg (fun gg=>Km a1.Time) ?_;refine cK f ?_ ?_<;>intro k1 h1 f
  ·try(simp[G]at h1;done)
   all_goals
    exact rtg [.cell 4 159,.tmp 5] f
  ·try(simp[G]at h1;done)
   all_goals
    refine dIo mixed ?_;simp[i1,ZB,G];refine rpG ?_;refine cRg (Rb (W (a1.Time-(nth a0 (Zr a0 a1.Authority).toNat).Error)) (W (a1.Time+(nth a0 (Zr a0 a1.Authority).toNat).Error))) ?_;exact rtg [.cell 4 159,.tmp 5] f
 ·refine cGg (fun gg=>Km a1.Time) ?_;refine cK f ?_ ?_<;>intro k3 h2 f
  ·try(simp[G]at h2;done)
   all_goals
    exact rtg [.cell 4 159,.tmp 5] f
  ·try(simp[G]at h2;done)
   all_goals
    refine dIo mixed ?_;have i3:(Zr a0 a1.Authority).toNat<a0.length:=zCN
    simp[i3,ZB,G];refine rpG ?_;refine cRg (Rb (W (a1.Time-(nth a0 (Zr a0 a1.Authority).toNat).Error)) (W (a1.Time+(nth a0 (Zr a0 a1.Authority).toNat).Error))) ?_;exact rtg [.cell 4 159,.tmp 5] f
theorem wR(a0:List Zn)(a1:Int):Sa 389 [rL 2 Zn.row a0,rI a1] [rI (H2 a0 a1)]:=by
 have f:=me (H2.eq_1 a0 a1);refine so func389 ntmps389 ?_;refine lp2 (RE.eq_2 a0 a1) (fun J U=>YM 28 [eI 1 a1,eI 5 J,eL 8 2 a0 Zn.row,eI 9 (a0.length:Int),eI 10 (U:Int)]) (fun n1 J U=>a0.length<n1+U/\U<=a0.length) (a0.length+1) 0 0 (fun p1 J U e1 j1=>?_);refine cFf e1 ?_ ?_<;>intro k2 h1 e1
 ·have i1:=ix h1;have m2:=ml a0 (k2 8 _ rfl);have w1:=wr U;simp[i1,ZB];refine rpS ?_;refine cRs (KD (nth a0 U)) ?_;refine cGs (fun gg=>Zu a1 (nth a0 U).Xv (nth a0 U).To) ?_;refine cFo e1 ?_ ?_<;>intro k3 h2 e1
  ·have q2:=h2;try simp[ZP]at q2
   simp;exact ny2 w1 e1
  have q2:=h2;try simp[ZP]at q2
  simp;exact ny2 w1 e1
 exact rt [.tmp 4] (ms f e1)
theorem H4(a0:List Zn)(a1 a2:Int):Sa 380 [rL 2 Zn.row a0,rI a1,rI a2] [rB (Ra a0 a1 a2)]:=by have f:=me (Ra.eq_1 a0 a1 a2);refine so func380 ntmps380 ?_;refine cRs (Zu a2 0 (W ((a0.length:Int)-1))) ?_;refine cGs (fun gg=>wR a0 a1) ?_;exact rt [.tmp 6] f
theorem Fk(a0:List Zn)(a1:Int):Sa 368 [rL 2 Zn.row a0,rI a1] [(Wq a0 a1).1.row,rB (Wq a0 a1).2]:=by
 have f:=me (Wq.eq_1 a0 a1);refine so func368 ntmps368 ?_;refine lp4 (qM.eq_2 a0 a1) (fun J U ib iq=>YM 25 [eL 0 2 a0 Zn.row,eI 1 a1,(4,.one (.bptr 4 0),[.box [.d (.int .i64 0),.d (.int .i64 0)]]),(6,.one (.bptr 6 0),[.box [.d (.int .i64 ib),.d (.int .i64 iq)]]),eB 7 J,eI 8 (U:Int)]) (fun n1 J U ib iq=>10001<n1+U) 10002 false 0 0 0 (fun p1 J U ib iq e1 j1=>?_);refine cF e1 ?_ ?_<;>intro k2 h1 e1
 ·have w1:=wr U;refine cRs (H4 a0 (U:Int) a1) ?_;refine cF e1 ?_ ?_<;>intro k3 h2 e1
  ·refine cF e1 ?_ ?_<;>intro k4 h3 e1
   ·exact ny4 w1 e1
   exact ny4 w1 e1
  exact ny4 w1 e1
 exact rt [.cell 4 159,.tmp 5] (ms f e1)
theorem PO(a0:List Za)(a1:List ZX)(a2:Int)(u0:Sm 2318336 a0)(u1:Sm 2318336 a1):Sa 354 [rL 3 Za.row a0,rL 5 ZX.row a1,rI a2] [(zA a0 a1 a2).1.row,rB (zA a0 a1 a2).2]:=by
 have f:=me (zA.eq_1 a0 a1 a2);refine so func354 ntmps354 ?_;refine lp2 (Og.eq_2 a0 a1) (fun J U=>YM 38 [eL 0 3 a0 Za.row,eI 2 a2,(6,.one (.bptr 6 0),[.box [.d (.int .i64 0),.d (.int .i64 0)]]),(8,.one (.sref 8 0 0 J.length),[.arr false 2 (J.map Zn.row)]),eL 13 5 a1 ZX.row,eI 14 (a1.length:Int),eI 15 (U:Int)]) (fun n1 J U=>a1.length<n1+U/\U<=a1.length/\J.length<=0+1*U) (a1.length+1) ([]:List Zn) 0 (fun p1 J U e1 j1=>?_) (h0:=wkS [((8,0),none)] []);refine cFf e1 ?_ ?_<;>intro k2 h1 e1
 ·have i1:=ix h1;have m2:=ml a1 (k2 13 _ rfl);have c1:=sl 2318336 a1 (an u0 u1);have w1:=wr U;simp[i1,ZB];refine rpS ?_;refine cRs (CA a0 (nth a1 U)) ?_;refine cF e1 ?_ ?_<;>intro k3 h2 e1
  ·exact rt [.cell 6 159,.tmp 7] (ms f e1)
  exact nx2 e1 (hw:=Yk [((8,0),some (31,0))] [] rfl zAe)
 have c2:=sl 2318336 a1 (an u0 u1);have f:=ms f e1;refine cRs (Fk J a2) ?_;exact rt [.cell 6 159,.tmp 7] f
theorem GR(a0:List Za)(a1:ZZ)(a2:Int)(u0:Sm 2314240 a0)(u1:Sm 2314240 a1):Sa 388 [rL 3 Za.row a0,a1.row,rI a2] [(jv a0 a1 a2).1.row,rB (jv a0 a1 a2).2]:=by have f:=me (jv.eq_1 a0 a1 a2);refine so func388 ntmps388 ?_;refine cRs (PO a0 a1.YK a2 (sg u0) (sg (ZZ.Mc u1))) ?_;exact rt [.cell 6 159,.tmp 7] f
theorem WO(a0:ZT)(a1:ZZ)(u0:Sm 2310144 a0)(u1:Sm 2310144 a1):Sa 379 [a0.row,a1.row] [(KG a0 a1).1.row,rB (KG a0 a1).2]:=by have f:=me (KG.eq_1 a0 a1);refine so func379 ntmps379 ?_;refine cRs (GR a0.ZC a1 a0.Jb (sg (ZT.Yv u0)) (sg u1)) ?_;exact rt [.cell 4 159,.tmp 5] f
theorem QP(h:b)(k:a:=by(intros;first|omega|with_unfolding_all (first|first|omega|(have cc:a0.ZR.length<=2318336:=YA (xs u0);have z0:=fk;simp at z0;have z:=jt zAC z0.1;have z2:=z0.2;(try have w3:IntKind.i64.wrap (a2-1)=a2-1:=YQ zAC zAC);(try have w4:W (a2-1)=a2-1:=w3);first|omega|(refine⟨⟨z0.1,zAC⟩,zAC,zAC⟩)|(simp_all;omega)))|(simp_all;done)|(simp_all;omega)|grind|((try simp only[Yd,show ∀x,IntKind.i64.wrap x=W x from fun _=>rfl]at*);omega))):a/\b:=⟨k,h⟩
theorem vz(a0:ZU)(a1:List Int)(a2:Int)(u0:Sm 2318336 a0)(u1:Sm 2318336 a1):Sa 386 [a0.row,rL 1 iR a1,rI a2] [rI (IK a0 a1 a2)]:=by
 have f:=me (IK.eq_1 a0 a1 a2);refine so func386 ntmps386 ?_;refine dIs mixed ?_;refine cRs (Zu a2 0 (W ((a0.ZR.length:Int)-1))) ?_;refine gIo ?_ ?_<;>intro G
 ·have fk:=G;have c1:=sl 2318336 a0.ZR (an u0 u1);have w1:IntKind.i64.wrap ((a0.ZR.length:Int)-1)=(a0.ZR.length:Int)-1:=YQ zAC zAC;have g1:=G;try simp[ZP,w1]at g1
  have i1:a2.toNat<a0.ZR.length:=zAV;simp[i1,ZB,G];refine zCl ?_;refine cGo (fun gg=>Zu (nth a0.ZR a2.toNat).Count 0 (a0.ZM.length:Int)) ?_;simp[G];refine zCl ?_;refine cKo f ?_ ?_<;>intro k2 h1 f
  ·have q1:=h1;try simp[ZP,w1]at q1
   simp[G];refine zCl ?_;exact rtg [.tmp 6] f
  ·have q1:=h1;try simp[ZP,w1]at q1
   simp[i1,ZB,G];refine zCl ?_;refine cKo f ?_ ?_<;>intro k3 h2 f
   ·simp[G];refine zCl ?_;refine dIo mixed ?_;have i2:(W (a2-1)).toNat<a0.ZR.length:=zAV
    simp[i2,ZB,G];refine zCl ?_;refine cR (kY (nth a0.ZR a2.toNat).Method (nth a0.ZR (W (a2-1)).toNat) (sg (Zi (ZU.KE u0)))) ?_ (hG:=by first|(simp;done)|(simp[W,w1];done));simp[G];refine zCl ?_;refine dIo mixed ?_;have i3:a2.toNat<a1.length:=zAV
    simp[i3,ZB,G];refine zCl ?_;refine cR (RV (nth a0.ZR a2.toNat).Method (nth a1 a2.toNat) (a0.ZM.take (nth a0.ZR a2.toNat).Count.toNat) (KS (nth a0.ZR a2.toNat).Method (nth a0.ZR (W (a2-1)).toNat)) (ZK (n:=2318336) zAF (xs (an u0 u1)))) ?_ (hG:=by first|(simp;done)|(simp[W,w1];done));simp[G];refine zCl ?_;exact rtg [.tmp 6] f
   ·simp[G];refine zCl ?_;refine dIo mixed ?_;have i4:a2.toNat<a1.length:=zAV
    simp[i4,ZB,G];refine zCl ?_;refine cR (RV (nth a0.ZR a2.toNat).Method (nth a1 a2.toNat) (a0.ZM.take (nth a0.ZR a2.toNat).Count.toNat) 0 (ZK (n:=2318336) zAF (xs (an u0 u1)))) ?_;simp[G];refine zCl ?_;exact rtg [.tmp 6] f
 ·have fk:=G;simp[G];refine zCl ?_;refine sGo ?_;simp[G];refine zCl ?_;have c2:=sl 2318336 a0.ZR (an u0 u1);have w2:IntKind.i64.wrap ((a0.ZR.length:Int)-1)=(a0.ZR.length:Int)-1:=YQ zAC zAC;refine cKo f ?_ ?_<;>intro k7 h3 f
  ·have q3:=h3;try simp[ZP,w2]at q3
   simp[G];refine zCl ?_;exact rtg [.tmp 6] f
  ·simp[G]at h3
theorem Fl(a0 a1:Int)(a2:List Xk):Sa 390 [rI a0,rI a1,rL 2 Xk.row a2] [rI (OA a0 a1 a2)]:=by
 have f:=me (OA.eq_1 a0 a1 a2);refine so func390 ntmps390 ?_;refine lp2 (W8.eq_2 a0 a2) (fun J U=>YM 29 [eI 0 a0,eI 1 J,eL 9 2 a2 Xk.row,eI 10 (a2.length:Int),eI 11 (U:Int)]) (fun n1 J U=>a2.length<n1+U/\U<=a2.length) (a2.length+1) a1 0 (fun p1 J U e1 j1=>?_);refine cFf e1 ?_ ?_<;>intro k2 h1 e1
 ·have i1:=ix h1;have m2:=ml a2 (k2 9 _ rfl);have w1:=wr U;simp[i1,ZB];refine rpS ?_;refine cF e1 ?_ ?_<;>intro k3 h2 e1
  ·refine cRs (UW a0 (nth a2 U).Y6 J) ?_;exact ny2 w1 e1
  refine cRs (UW a0 J (nth a2 U).Y6) ?_;exact ny2 w1 e1
 exact rt [.tmp 6] (ms f e1)
theorem xF(a0:List ZX):Sa 351 [rL 5 ZX.row a0] [rB (Ka a0)]:=by
 have f:=me (Ka.eq_1 a0);refine so func351 ntmps351 ?_;refine lp1 (xk.eq_2 a0) (fun J=>YM 22 [eL 0 5 a0 ZX.row,eI 3 (J:Int)]) (fun n1 J=>a0.length<n1+J/\1<=J) (a0.length+1) 1 (fun p1 J e1 j1=>?_);refine cF e1 ?_ ?_<;>intro k2 h1 e1
 ·have i1:=ix h1;have m2:=ml a0 (k2 0 _ rfl);have w1:=wr J;refine dIo mixed ?_;have i2:=ik (J-1) a0;have w2:IntKind.i64.wrap ((J:Int)-1)=(J:Int)-1:=YQ zAC zAC;simp[i2,ZB,w2,i1];refine rpS ?_;refine cF e1 ?_ ?_<;>intro k4 h2 e1
  ·exact rt [.tmp 2] (ms f e1)
  exact ny1 (an w1 w2) e1
 exact rt [.tmp 2] (ms f e1)
theorem Ui(a0:List Yg)(a1:List Za)(a2:ZX)(u0:Sm 2314240 a0)(u1:Sm 2314240 a1):Sa 255 [rL 5 Yg.row a0,rL 3 Za.row a1,a2.row] [rB (W5 a0 a1 a2)]:=by have f:=me (W5.eq_1 a0 a1 a2);refine so func255 ntmps255 ?_;refine cRs (Wm a0 a1 a2 (sg u0) (sg u1)) ?_;exact rt [.tmp 6] f
theorem HN(a0:List Yg)(a1:List Za)(a2:ZZ)(a3:Int)(u0:Sm 2310144 a0)(u1:Sm 2310144 a1)(u2:Sm 2310144 a2):Sa 385 [rL 5 Yg.row a0,rL 3 Za.row a1,a2.row,rI a3] [rB (T4 a0 a1 a2 a3)]:=by
 have f:=me (T4.eq_1 a0 a1 a2 a3);refine so func385 ntmps385 ?_;refine dIs mixed ?_;refine cGs (fun gg=>Fl a2.Method a3 a2.Path) ?_;refine cGs (fun gg=>Zu (a2.YK.length:Int) 1 6) ?_;refine cGs (fun gg=>xF a2.YK) ?_;refine cFo f ?_ ?_<;>intro k2 h1 f
 ·have q1:=h1;try simp[ZP]at q1
  simp;exact rt [.tmp 8] f
 have q1:=h1;try simp[ZP]at q1
 simp;refine lp1 (Vn.eq_2 a0 a1 a2) (fun J=>YM 59 [eL 0 5 a0 Yg.row,eL 1 3 a1 Za.row,eX 6 (a2.row.map .d),eL 40 5 a2.YK ZX.row,eI 41 (a2.YK.length:Int),eI 42 (J:Int)]) (fun n1 J=>a2.YK.length<n1+J/\J<=a2.YK.length) (a2.YK.length+1) 0 (fun p1 J e1 j1=>?_);refine cFf e1 ?_ ?_<;>intro k4 h2 e1
 ·have i1:=ix h2;have w1:=wr J;simp[i1,ZB];refine rpS ?_;refine cGs (fun gg=>Ui a0 a1 (nth a2.YK J) (sg u0) (sg u1)) ?_;refine cF e1 ?_ ?_<;>intro k5 h3 e1
  ·exact rt [.tmp 8] (ms f e1)
  exact ny1 w1 e1
 exact rt [.tmp 8] (ms f e1)
theorem Vz(a0:List Za)(a1:ZX):Sa 298 [rL 3 Za.row a0,a1.row] [rI (Xj a0 a1)]:=by
 have f:=me (Xj.eq_1 a0 a1);refine so func298 ntmps298 ?_;refine cRs (K9 a0 a1.Authority) ?_;refine cFf f ?_ ?_<;>intro k1 h1 f
 ·have i1:(Zr a0 a1.Authority).toNat<a0.length:=zCN;simp[i1,ZB];refine rpS ?_;exact rt [.tmp 4] f
 exact rt [.tmp 4] f
theorem IJ(a0:List Yg)(a1:List Za)(a2:List Z9)(a3:ZZ):Sa 391 [rL 5 Yg.row a0,rL 3 Za.row a1,rL 4 Z9.row a2,a3.row] [rI (W4 a0 a1 a2 a3)]:=by
 have f:=me (W4.eq_1 a0 a1 a2 a3);refine so func391 ntmps391 ?_;refine cRs (U2 a2 a3.Method) ?_;refine lp2 (VN.eq_2 a0 a1 a2 a3) (fun J U=>YM 42 [eL 0 5 a0 Yg.row,eL 1 3 a1 Za.row,eL 2 4 a2 Z9.row,eI 9 J,eL 18 5 a3.YK ZX.row,eI 19 (a3.YK.length:Int),eI 20 (U:Int)]) (fun n1 J U=>a3.YK.length<n1+U/\U<=a3.YK.length) (a3.YK.length+1) (kz a2 a3.Method) 0 (fun p1 J U e1 j1=>?_);refine cFf e1 ?_ ?_<;>intro k2 h1 e1
 ·have i1:=ix h1;have m2:=ml a3.YK (k2 18 _ rfl);have w1:=wr U;simp[i1,ZB];refine rpS ?_;refine cRs (Vz a1 (nth a3.YK U)) ?_;refine cRs (QJ a0 (Xj a1 (nth a3.YK U))) ?_;refine cFt e1 ?_ ?_<;>intro k3 h2 e1
  ·exact rt [.tmp 8] (ms f e1)
  have i2:(YU a0 (Xj a1 (nth a3.YK U))).toNat<a0.length:=by have:=Js a0 (Xj a1 (nth a3.YK U));exact il
  simp[i2,ZB];refine rpS ?_;refine cRs (U2 a2 (nth a0 (YU a0 (Xj a1 (nth a3.YK U))).toNat).Method) ?_;exact ny2 w1 e1
 exact rt [.tmp 8] (ms f e1)
theorem NH(h:b)(k:a:=by(intros;first|omega|with_unfolding_all (first|(first|omega|(have mm:a1.ZR.length<=2306048:=YA (xs u1);have ww:=DN a1.ZR.length zAC;(try rw[ww]at q1);(try rw[ww]at q2);have w3:W (a2+1)=a2+1:=YQ zAC zAC;have w4:IntKind.i64.wrap (a2+1)=a2+1:=w3;omega)))|((try simp only[Yd,show ∀x,IntKind.i64.wrap x=W x from fun _=>rfl]at*);omega))):a/\b:=⟨k,h⟩
theorem MJ(a0:ZT)(a1:ZU)(a2:Int)(u0:Sm 2306048 a0)(u1:Sm 2306048 a1):Sa 387 [a0.row,a1.row,rI a2] [rB (MG a0 a1 a2)]:=by
 have f:=me (MG.eq_1 a0 a1 a2);refine so func387 ntmps387 ?_;refine cRs (Zu a2 0 (W ((a1.ZR.length:Int)-1))) ?_;have c1:=sl 2306048 a1.ZR (an u0 u1);have w1:IntKind.i64.wrap ((a1.ZR.length:Int)-1)=(a1.ZR.length:Int)-1:=YQ zAC zAC;refine cFo f ?_ ?_<;>intro k1 h1 f
 ·have q1:=h1;try simp[ZP,w1]at q1
  simp;exact rt [.tmp 6] f
 have q1:=h1;try simp[ZP,w1]at q1
 simp;refine dIo mixed ?_;have i1:a2.toNat<a1.ZR.length:=zAu
 simp[i1,ZB];repeat with_reducible refine NH ?_
 refine cRs (IJ a0.Zz a0.ZC a0.Methods (nth a1.ZR a2.toNat)) ?_;refine cFo f ?_ ?_<;>intro k3 h2 f
 ·have q2:=h2;try simp[w1]at q2
  simp;exact rt [.tmp 6] f
 have q2:=h2;try simp[w1]at q2
 simp;refine dIo mixed ?_;have i2:(W (a2+1)).toNat<a1.ZR.length:=zAu
 simp[i2,ZB];repeat with_reducible refine NH ?_
 refine cRs (WO a0 (nth a1.ZR (W (a2+1)).toNat) (sg u0) (sg (Zi (ZU.KE u1)))) ?_ (hG:=by first|(simp;done)|(simp;done));exact rt [.tmp 6] f
theorem Ck(a0:ZT)(a1:ZU)(a2:List Int)(u0:Sm 2301952 a0)(u1:Sm 2301952 a1)(u2:Sm 2301952 a2):Sa 378 [a0.row,a1.row,rL 1 iR a2] [rI (qR a0 a1 a2)]:=by
 have f:=me (qR.eq_1 a0 a1 a2);refine so func378 ntmps378 ?_;refine okL fun k1=>?_;refine lp1 (jw.eq_2 a0 a1 a2) (fun J=>YM 58 [eL 2 1 a2 iR,eX 3 (a0.row.map .d),eX 4 (a1.row.map .d),eI 7 (J:Int)]) (fun n1 J=>J<n1/\J<=a1.ZR.length) (a1.ZR.length+1) a1.ZR.length (fun p1 J e1 j1=>?_);refine cFo e1 ?_ ?_<;>intro k2 h1 e1
 ·have q1:=h1;try simp at q1
  have m1:=ml a1.ZR (k1 11 _ rfl);have w1:IntKind.i64.wrap ((J:Int)-1)=(J:Int)-1:=YQ zAC zAC;have w2:((J-1:Nat):Int)=(J:Int)-1:=zAC;simp;refine dIo mixed ?_;have i2:=ik (J-1) a1.ZR;simp[i2,ZB,w1,kT];refine rpS ?_;refine cRs (WO a0 (nth a1.ZR (J-1)) (sg u0) (sg (Zi (ZU.KE u1)))) ?_;refine dIs mixed ?_;refine gIf ?_ ?_<;>intro G
  ·have fk:=G;have g1:=G;try simp at g1
   simp[i2,ZB,w1,kT,G];refine rpG ?_;refine tw rfl rfl rfl rfl rfl rfl (fun gg=>vz a1 a2 (W ((J:Int)-1)) (sg u1) (sg u2)) zAQ zAQ zAQ zAQ ?_;simp[G];refine rpG ?_;refine tw rfl rfl rfl rfl rfl rfl (fun gg=>HN a0.Zz a0.ZC (nth a1.ZR (J-1)) (IK a1 a2 (W ((J:Int)-1))) (sg (ZT.XD u0)) (sg (ZT.Yv u0)) (sg (Zi (ZU.KE u1)))) zAQ zAQ zAQ zAQ ?_;simp[G];refine rpG ?_;refine tw rfl rfl rfl rfl rfl rfl (fun gg=>MJ a0 a1 (W ((J:Int)-1)) (sg u0) (sg u1)) zAQ zAQ zAQ zAQ ?_;simp[G];refine rpG ?_;refine cKo e1 ?_ ?_<;>intro k5 h2 e1
   ·have q2:=h2;try simp[w1,w2]at q2
    have f:=ms f e1;simp[G];refine rpG ?_;exact rtg [.tmp 6] f
   ·have q2:=h2;try simp[w1,w2]at q2
    simp[G];refine rpG ?_;exact ny1 (an w1 (an w2 G)) e1
  ·have fk:=G;refine sGo ?_;simp[G];refine rpG ?_;refine sGo ?_;simp[G];refine rpG ?_;refine tw rfl rfl rfl rfl rfl rfl (fun gg=>MJ a0 a1 (W ((J:Int)-1)) (sg u0) (sg u1)) zAQ zAQ zAQ zAQ ?_;simp[G];refine rpG ?_;refine cKo e1 ?_ ?_<;>intro k6 h3 e1
   ·have q3:=h3;try simp[w1,w2]at q3
    have f:=ms f e1;simp[G];refine rpG ?_;exact rtg [.tmp 6] f
   ·simp[G]at h3
 have q1:=h1;try simp at q1
 have f:=ms f e1;simp;exact rt [.tmp 6] f
theorem Ax(a0:ZT)(a1:ZU)(a2:List Int)(a3:Int)(u0:Sm 2297856 a0)(u1:Sm 2297856 a1)(u2:Sm 2297856 a2):Sa 364 [a0.row,a1.row,rL 1 iR a2,rI a3] [rI (G1 a0 a1 a2 a3)]:=by
 have f:=me (G1.eq_1 a0 a1 a2 a3);refine so func364 ntmps364 ?_;refine cRs (Ck a0 a1 a2 (sg u0) (sg u1) (sg u2)) ?_;refine lp2 (Sl.eq_2 a0 a1 a3) (fun J U=>YM 49 [eI 3 a3,eX 4 (a0.row.map .d),eX 5 (a1.row.map .d),eI 9 J,eI 10 U]) (fun n1 J U=>(a1.ZR.length:Int)+1<n1+U/\0<=U/\U<=a1.ZR.length) (a1.ZR.length+2) a0.Now (qR a0 a1 a2) (fun p1 J U e1 j1=>?_) (hI:=by(have z:=F4 a0 a1 a2;(try dsimp only);omega));refine cF e1 ?_ ?_<;>intro k2 h1 e1
 ·refine okD fun k3=>?_;refine dIo mixed ?_;have i1:=ik U.toNat a1.ZR
  simp[i1,ZB];refine rpS ?_;refine cRf i1 (WO a0 (nth a1.ZR U.toNat) (sg u0) (sg (Zi (ZU.KE u1)))) ?_;refine cF e1 ?_ ?_<;>intro k4 h2 e1
  ·exact nx2 e1 (hI:=by(have cc:a1.ZR.length<=2297856:=YA (xs u1);have w2:W (U+1)=U+1:=YQ (by simp at*;omega) (by simp at*;omega);(try dsimp only);rw[w2];simp at*;omega))
  exact nx2 e1 (hI:=by(have cc:a1.ZR.length<=2297856:=YA (xs u1);have w2:W (U+1)=U+1:=YQ (by simp at*;omega) (by simp at*;omega);(try dsimp only);rw[w2];simp at*;omega))
 exact rt [.tmp 8] (ms f e1)
theorem F7(a0:ZT)(a1:ZU)(a2:List Int)(a3:ZV)(u0:Sm 2293760 a0)(u1:Sm 2293760 a1)(u2:Sm 2293760 a2)(u3:Sm 2293760 a3):Sa 348 [a0.row,a1.row,rL 1 iR a2,a3.row] [rI (TB a0 a1 a2 a3)]:=by
 have f:=me (TB.eq_1 a0 a1 a2 a3);refine so func348 ntmps348 ?_;refine cRs (Dh a1 a3) ?_;refine cF f ?_ ?_<;>intro k1 h1 f
 ·exact rt [.tmp 8] f
 refine cRs (Ax a0 a1 a2 (UE a1 a3) (sg u0) (sg u1) (sg u2)) ?_;exact rt [.tmp 8] f
theorem Ty(a0:ZT)(a1:Zh)(a2:List (List Int))(a3:ZV)(u0:Sm 2289664 a0)(u1:Sm 2289664 a1)(u2:Sm 2289664 a2)(u3:Sm 2289664 a3):Sa 324 [a0.row,a1.row,rL 1 (slR 1 iR) a2,a3.row] [rI (XM a0 a1 a2 a3)]:=by
 have f:=me (XM.eq_1 a0 a1 a2 a3);refine so func324 ntmps324 ?_;refine lp2 (xw.eq_2 a0 a1 a2 a3) (fun J U=>YM 38 [eL 2 1 a2 (slR 1 iR),eX 4 (a0.row.map .d),eX 7 (a3.row.map .d),eI 9 J,eL 15 2 a1.Zg ZU.row,eI 16 (a1.Zg.length:Int),eI 17 (U:Int)]) (fun n1 J U=>a1.Zg.length<n1+U/\U<=a1.Zg.length) (a1.Zg.length+1) a0.Now 0 (fun p1 J U e1 j1=>?_);refine cFf e1 ?_ ?_<;>intro k2 h1 e1
 ·have i1:=ix h1;have m2:=ml a1.Zg (k2 15 _ rfl);have c1:=sl 2289664 a1.Zg (an u0 (an u1 (an u2 u3)));have w1:=wr U;simp[i1,ZB];refine rpS ?_;refine cF e1 ?_ ?_<;>intro k3 h2 e1
  ·have i2:=ix h2;have w2:=wr U;refine dIo mixed ?_;simp[i2,ZB];refine rpS ?_;refine cRs (F7 a0 (nth a1.Zg U) (nth a2 U) a3 (sg u0) (sg (Zi (Zh.Xc u1))) (sg (Zi u2)) (sg u3)) ?_;exact ny2 w2 e1
  exact ny2 w1 e1
 exact rt [.tmp 8] (ms f e1)
theorem PZ(a0:ZV):Sa 355 [a0.row] [(Kq a0).1.row,rB (Kq a0).2]:=by
 have f:=me (Kq.eq_1 a0);refine so func355 ntmps355 ?_;refine dIs mixed ?_;refine cRs (Kw a0) ?_;refine gIf ?_ ?_<;>intro G
 ·have fk:=G;have g1:=G;try simp at g1
  have i1:4<a0.YS.length:=zAK;simp[i1,ZB,G];refine rpG ?_;refine cK f ?_ ?_<;>intro k2 h1 f
  ·try(simp[G]at h1;done)
   all_goals
    exact rtg [.cell 2 245,.tmp 3] f
  ·try(simp[G]at h1;done)
   all_goals
    refine dIo mixed ?_;have i2:1<a0.YS.length:=zAK
    have i3:2<a0.YS.length:=zAK;have i4:3<a0.YS.length:=zAK;simp[i2,ZB,i3,i4,i1,G];refine rpG ?_;exact rtg [.cell 2 245,.tmp 3] f
 ·have fk:=G;refine cK f ?_ ?_<;>intro k4 h2 f
  ·try(simp[G]at h2;done)
   all_goals
    exact rtg [.cell 2 245,.tmp 3] f
  ·try(simp[G]at h2;done)
   all_goals
    refine dIo mixed ?_;have i6:1<a0.YS.length:=zAK
    have i7:2<a0.YS.length:=zAK;have i8:3<a0.YS.length:=zAK;have i9:4<a0.YS.length:=zAK;simp[i6,ZB,i7,i8,i9,G];refine rpG ?_;exact rtg [.cell 2 245,.tmp 3] f
theorem F6(a0:ZV):Sa 365 [a0.row] [(U9 a0).1.row,rB (U9 a0).2]:=by
 have f:=me (U9.eq_1 a0);refine so func365 ntmps365 ?_;refine cRs (Kw a0) ?_;refine cF f ?_ ?_<;>intro k1 h1 f
 ·exact rt [.cell 2 131,.tmp 3] f
 refine dIo mixed ?_;have i1:1<a0.YS.length:=zAK
 have i2:2<a0.YS.length:=zAK;have i3:3<a0.YS.length:=zAK;have i4:4<a0.YS.length:=zAK;simp[i1,ZB,i2,i3,i4];refine rpS ?_;exact rt [.cell 2 131,.tmp 3] f
theorem DL(a0:ZV):Sa 366 [a0.row] [(Sn a0).1.row,rB (Sn a0).2]:=by
 have f:=me (Sn.eq_1 a0);refine so func366 ntmps366 ?_;refine dIs mixed ?_;refine cRs (Kw a0) ?_;refine gIf ?_ ?_<;>intro G
 ·have fk:=G;have g1:=G;try simp at g1
  have i1:1<a0.YS.length:=zAK;simp[i1,ZB,G];refine rpG ?_;refine cK f ?_ ?_<;>intro k2 h1 f
  ·try(simp[G]at h1;done)
   all_goals
    exact rtg [.cell 2 55,.tmp 3] f
  ·try(simp[G]at h1;done)
   all_goals
    refine dIo mixed ?_;have i2:2<a0.YS.length:=zAK
    have i3:3<a0.YS.length:=zAK;have i4:4<a0.YS.length:=zAK;have i5:5<a0.YS.length:=zAK;have i6:6<a0.YS.length:=zAK;have i7:7<a0.YS.length:=zAK;have i8:8<a0.YS.length:=zAK;simp[i1,ZB,i2,i3,i4,i5,i6,i7,i8,G];refine rpG ?_;exact rtg [.cell 2 55,.tmp 3] f
 ·have fk:=G;refine cK f ?_ ?_<;>intro k4 h2 f
  ·try(simp[G]at h2;done)
   all_goals
    exact rtg [.cell 2 55,.tmp 3] f
  ·try(simp[G]at h2;done)
   all_goals
    refine dIo mixed ?_;have i10:1<a0.YS.length:=zAK
    have i11:2<a0.YS.length:=zAK;have i12:3<a0.YS.length:=zAK;have i13:4<a0.YS.length:=zAK;have i14:5<a0.YS.length:=zAK;have i15:6<a0.YS.length:=zAK;have i16:7<a0.YS.length:=zAK;have i17:8<a0.YS.length:=zAK;simp[i10,ZB,i11,i12,i13,i14,i15,i16,i17,G];refine rpG ?_;exact rtg [.cell 2 55,.tmp 3] f
theorem S4(a0:ZV):Sa 360 [a0.row] [(yV a0).1.row,rB (yV a0).2]:=by
 have f:=me (yV.eq_1 a0);refine so func360 ntmps360 ?_;refine dIs mixed ?_;refine cRs (Kw a0) ?_;refine gIf ?_ ?_<;>intro G
 ·have fk:=G;have g1:=G;try simp at g1
  have i1:5<a0.YS.length:=zAK;simp[i1,ZB,G];refine rpG ?_;refine cK f ?_ ?_<;>intro k2 h1 f
  ·try(simp[G]at h1;done)
   all_goals
    exact rtg [.cell 2 334,.tmp 3] f
  ·try(simp[G]at h1;done)
   all_goals
    refine dIo mixed ?_;have i2:1<a0.YS.length:=zAK
    have i3:2<a0.YS.length:=zAK;have i4:3<a0.YS.length:=zAK;have i5:4<a0.YS.length:=zAK;simp[i2,ZB,i3,i4,i5,i1,G];refine rpG ?_;exact rtg [.cell 2 334,.tmp 3] f
 ·have fk:=G;refine cK f ?_ ?_<;>intro k4 h2 f
  ·try(simp[G]at h2;done)
   all_goals
    exact rtg [.cell 2 334,.tmp 3] f
  ·try(simp[G]at h2;done)
   all_goals
    refine dIo mixed ?_;have i7:1<a0.YS.length:=zAK
    have i8:2<a0.YS.length:=zAK;have i9:3<a0.YS.length:=zAK;have i10:4<a0.YS.length:=zAK;have i11:5<a0.YS.length:=zAK;simp[i7,ZB,i8,i9,i10,i11,G];refine rpG ?_;exact rtg [.cell 2 334,.tmp 3] f
theorem Eb(a0:List Yg)(a1:ZV)(u0:Sm 2314240 a0)(u1:Sm 2314240 a1):Sa 349 [rL 5 Yg.row a0,a1.row] [rB (OH a0 a1)]:=by
 have f:=me (OH.eq_1 a0 a1);refine so func349 ntmps349 ?_;refine cRs (Kw a1) ?_;refine cF f ?_ ?_<;>intro k1 h1 f
 ·refine cRs (SA a1) ?_;refine cGs (fun gg=>JO a0 a1.Key a1.YS a1.Mark (sg u0) (sg (ZV.Of u1))) ?_;exact rt [.tmp 4] f
 refine cF f ?_ ?_<;>intro k2 h2 f
 ·refine cRs (PZ a1) ?_;refine cGs (fun gg=>JO a0 a1.Key a1.YS a1.Mark (sg u0) (sg (ZV.Of u1))) ?_;exact rt [.tmp 4] f
 refine cF f ?_ ?_<;>intro k3 h3 f
 ·refine cRs (F6 a1) ?_;refine cGs (fun gg=>JO a0 a1.Key a1.YS a1.Mark (sg u0) (sg (ZV.Of u1))) ?_;exact rt [.tmp 4] f
 refine cF f ?_ ?_<;>intro k4 h4 f
 ·refine cRs (DL a1) ?_;refine cGs (fun gg=>JO a0 a1.Key a1.YS a1.Mark (sg u0) (sg (ZV.Of u1))) ?_;exact rt [.tmp 4] f
 refine cF f ?_ ?_<;>intro k5 h5 f
 ·refine cRs (S4 a1) ?_;refine cGs (fun gg=>JO a0 a1.Key a1.YS a1.Mark (sg u0) (sg (ZV.Of u1))) ?_;exact rt [.tmp 4] f
 refine cGs (fun gg=>JO a0 a1.Key a1.YS a1.Mark (sg u0) (sg (ZV.Of u1))) ?_;exact rt [.tmp 4] f
theorem Gh(a0 a1:ZV):Sa 350 [a0.row,a1.row] [rB (Rv a0 a1)]:=by
 have f:=me (Rv.eq_1 a0 a1);refine so func350 ntmps350 ?_;refine lp1 (Uv.eq_2 a0 a1) (fun J=>YM 73 [eX 2 (a0.row.map .d),eX 3 (a1.row.map .d),eI 5 (J:Int)]) (fun n1 J=>a0.YS.length<n1+J/\J<=a0.YS.length) (a0.YS.length+1) 0 (fun p1 J e1 j1=>?_);refine cF e1 ?_ ?_<;>intro k2 h1 e1
 ·have i1:J<a0.YS.length:=zBq;have m2:=ml a0.YS (k2 8 _ rfl);have w1:=wr J;refine dIo mixed ?_;have i2:=ik J a1.YS;simp[i1,ZB,i2];refine rpS ?_;refine cF e1 ?_ ?_<;>intro k4 h2 e1
  ·refine okD fun k5=>?_;refine dIo mixed ?_;have f:=ms f e1
   simp[i1,ZB,i2];refine rpS ?_;exact rt [.tmp 4] f
  exact ny1 w1 e1
 have f:=ms f e1;refine cF f ?_ ?_<;>intro k6 h3 f
 ·exact rt [.tmp 4] f
 refine cF f ?_ ?_<;>intro k7 h4 f
 ·exact rt [.tmp 4] f
 exact rt [.tmp 4] f
end Go.Proofs.YtdffgedmahdehaaGreat
