/- Contracts of the functions Uw the abstract machine, part I1. No condition. -/
import Derived.Test.YtdffgedmahdehaaGreatL
import Derived.Test.YtdffgedmahdehaaGreatTy
namespace Go.Proofs.YtdffgedmahdehaaGreat
open Tryz
open Go.Vm Go.Mo
set_option maxHeartbeats 1000000
set_option maxRecDepth 100000
set_option linter.unusedSimpArgs false
set_option linter.unusedVariables false
variable{a b:Prop}
theorem YT(a0 a1 a2:Int):Sa 50 [rI a0,rI a1,rI a2] [rB (Zc a0 a1 a2)]:=by have f:=me (Zc.eq_1 a0 a1 a2);refine so func50 ntmps50 ?_;exact rt [.tmp 6] f
theorem P4(a0:Int):Sa 126 [rI a0] [rB (WA a0)]:=by have f:=me (WA.eq_1 a0);refine so func126 ntmps126 ?_;refine cRs (YT a0 0 10000) ?_;exact rt [.tmp 2] f
theorem qb(a0:ZP):Sa 127 [a0.row] [rB (QK a0)]:=by
 have f:=me (QK.eq_1 a0);refine so func127 ntmps127 ?_;refine cRs (YT a0.zj 0 999) ?_;refine cGs (fun gg=>YT (a0.Zz.length:Int) 1 6) ?_;refine cFo f ?_ ?_<;>intro k1 h1 f
 ·have q1:=h1;try simp[Zc]at q1
  simp;exact rt _ f
 have q1:=h1;try simp[Zc]at q1
 simp;refine lp1 (Jo.eq_2 a0) (fun J=>Ys 46 [eX 1 (a0.row.map .d),eL 26 1 a0.Zz sR,eI 27 (a0.Zz.length:Int),eI 28 (J:Int)]) (fun n1 J=>a0.Zz.length<n1+J/\J<=a0.Zz.length) (a0.Zz.length+1) 0 (fun p1 J e1 j1=>?_);refine cFf e1 ?_ ?_<;>intro k3 h2 e1
 ·have i1:=ix h2;have w1:=wr J;simp[i1,ZI];refine rpS ?_;refine gIf ?_ ?_<;>intro G
  ·have i2:=ik J a0.Yw;simp[i2,ZI,G];refine rpG ?_;refine cGg (fun gg=>YT (nth a0.Yw J) 1 1000000000000) ?_;refine cKo e1 ?_ ?_<;>intro k4 h3 e1
   ·have q3:=h3;try simp[Zc]at q3
    have f:=ms f e1;simp;refine rpG ?_;exact rtg _ f
   ·have q3:=h3;try simp[Zc]at q3
    simp;refine rpG ?_;exact ny1 (an w1 G) e1
  ·refine sGo ?_;simp;refine rpG ?_;refine cKo e1 ?_ ?_<;>intro k5 h4 e1
   ·have q4:=h4;try simp[Zc]at q4
    have f:=ms f e1;simp;refine rpG ?_;exact rtg _ f
   ·simp[G]at h4
 exact rt _ (ms f e1)
theorem Uz(a0 a1:List Int):Sa 26 [rL 1 iR a0,rL 1 iR a1] [rB (y2 a0 a1)]:=by
 have f:=me (y2.eq_1 a0 a1);refine so func26 ntmps26 ?_;refine cF f ?_ ?_<;>intro k1 h1 f
 ·exact rt _ f
 refine lp1 (zZ.eq_2 a0 a1) (fun J=>Ys 26 [eL 0 1 a0 iR,eL 1 1 a1 iR,eI 12 (a0.length:Int),eI 13 (J:Int)]) (fun n1 J=>a0.length<n1+J/\J<=a0.length) (a0.length+1) 0 (fun p1 J e1 j1=>?_);refine cF e1 ?_ ?_<;>intro k3 h2 e1
 ·have i1:=ix h2;have m2:=ml a0 (k3 0 _ rfl);have w1:=wr J;refine dIo mixed ?_;have i2:=ik J a1;simp[i1,ZI,i2];refine rpS ?_;refine cF e1 ?_ ?_<;>intro k5 h3 e1
  ·exact rt _ (ms f e1)
  exact ny1 w1 e1
 exact rt _ (ms f e1)
theorem xf(a0 a1:ZM):Sa 128 [a0.row,a1.row] [rB (JP a0 a1)]:=by have f:=me (JP.eq_1 a0 a1);refine so func128 ntmps128 ?_;refine cGs (fun gg=>Uz a0.zo a1.zo) ?_;exact rt [.tmp 4] f
theorem SB(a0:List ZM)(a1:ZM):Sa 136 [rL 3 ZM.row a0,a1.row] [rB (yW a0 a1)]:=by
 have f:=me (yW.eq_1 a0 a1);refine so func136 ntmps136 ?_;refine lp1 (yD.eq_2 a0 a1) (fun J=>Ys 17 [eX 3 (a1.row.map .d),eL 7 3 a0 ZM.row,eI 8 (a0.length:Int),eI 9 (J:Int)]) (fun n1 J=>a0.length<n1+J/\J<=a0.length) (a0.length+1) 0 (fun p1 J e1 j1=>?_);refine cFf e1 ?_ ?_<;>intro k2 h1 e1
 ·have i1:=ix h1;have m2:=ml a0 (k2 7 _ rfl);have w1:=wr J;simp[i1,ZI];refine rpS ?_;refine cRs (xf (nth a0 J) a1) ?_;refine cF e1 ?_ ?_<;>intro k3 h2 e1
  ·exact rt _ (ms f e1)
  exact ny1 w1 e1
 exact rt _ (ms f e1)
theorem j7(a0:ZH):Sa 77 [a0.row] [rB (JD a0)]:=by
 have f:=me (JD.eq_1 a0);refine so func77 ntmps77 ?_;refine cRs (YT (a0.ZG.length:Int) 1 12) ?_;refine cFo f ?_ ?_<;>intro k1 h1 f
 ·have q1:=h1;try simp[Zc]at q1
  simp;exact rt _ f
 have q1:=h1;try simp[Zc]at q1
 simp;refine lp1 (Js.eq_2 a0) (fun J=>Ys 65 [eX 1 (a0.row.map .d),eL 19 3 a0.ZG ZM.row,eI 20 (a0.ZG.length:Int),eI 21 (J:Int)]) (fun n1 J=>a0.ZG.length<n1+J/\J<=a0.ZG.length) (a0.ZG.length+1) 0 (fun p1 J e1 j1=>?_);refine cFf e1 ?_ ?_<;>intro k3 h2 e1
 ·have i1:=ix h2;have w1:=wr J;simp[i1,ZI];refine rpS ?_;refine dIs mixed ?_;refine cRs (SB (a0.ZG.take J) (nth a0.ZG J)) ?_;refine cF e1 ?_ ?_<;>intro k5 h3 e1
  ·exact rt _ (ms f e1)
  exact ny1 w1 e1
 have f:=ms f e1;refine lp1 (J6.eq_2 a0) (fun wK=>Ys 65 [eX 1 (a0.row.map .d),eL 34 5 a0.ZK ZE.row,eI 35 (a0.ZK.length:Int),eI 36 (wK:Int)]) (fun n2 wK=>a0.ZK.length<n2+wK/\wK<=a0.ZK.length) (a0.ZK.length+1) 0 (fun p2 wK e2 j2=>?_);refine cFf e2 ?_ ?_<;>intro k7 h4 e2
 ·have i2:=ix h4;have w2:=wr wK;simp[i2,ZI];refine rpS ?_;refine dIs mixed ?_;refine cRs (YT (nth a0.ZK wK).Count 1 (a0.ZG.length:Int)) ?_;refine gIf ?_ ?_<;>intro G
  ·have i3:=ik (wK-1) a0.ZK;have w3:IntKind.i64.wrap ((wK:Int)-1)=(wK:Int)-1:=Ya fJ fJ;simp[i3,ZI,w3,G];refine rpG ?_;refine cKo e2 ?_ ?_<;>intro k9 h5 e2
   ·have q5:=h5;try simp[Zc]at q5
    have f:=ms f e2;simp;refine rpG ?_;exact rtg _ f
   ·have q5:=h5;try simp[Zc]at q5
    simp;refine rpG ?_;exact ny1 (an w2 (an w3 G)) e2
  ·refine cKo e2 ?_ ?_<;>intro hQ h6 e2
   ·have q6:=h6;try simp[Zc]at q6
    have f:=ms f e2;simp;refine rpG ?_;exact rtg _ f
   ·have q6:=h6;try simp[Zc]at q6
    simp;refine rpG ?_;exact ny1 (an w2 G) e2
 exact rt _ (ms f e2)
theorem kl(a0:ZY):Sd 203 [a0.row] [rL 1 iR (X8 a0)]:=by have f:=me (X8.eq_1 a0);refine soD func203 ntmps203 ?_;exact rtD [.tmp 2] f
theorem Tu(a0:ZY):Sd 129 [a0.row] [(Kf a0).row]:=by have f:=me (Kf.eq_1 a0);refine soD func129 ntmps129 ?_;refine dIs mixed ?_;refine cDs [false] (kl a0) ?_;exact rtD [.cell 2 98] f
theorem Oc(a0:ZQ):Sa 72 [a0.row] [rB (qo a0)]:=by
 have f:=me (qo.eq_1 a0);refine so func72 ntmps72 ?_;refine dIs mixed ?_;refine cRs (YT a0.Id 1 999) ?_;refine cGs (fun gg=>P4 a0.YL) ?_;refine cGs (fun gg=>qb a0.Doc) ?_;refine cGs (fun gg=>j7 a0.ZJ) ?_;refine gIf ?_ ?_<;>intro G
 ·have g1:=G;try simp[Zc]at g1
  have i1:0<a0.ZJ.ZG.length:=by have:=TZ (a:=a0.ZJ);simp_all
  simp[i1,ZI,G];refine rpG ?_;refine cGg (fun gg=>Zp.rd (Tu a0.Sig)) ?_;refine cGg (fun gg=>xf (nth a0.ZJ.ZG 0) (Kf a0.Sig)) ?_;exact rtg _ f
 ·refine sGo ?_;simp;refine rpG ?_;refine sGo ?_;simp;refine rpG ?_;exact rtg _ f
theorem jQ(a0:ZF):Sa 38 [a0.row] [rB (XZ a0)]:=by
 have f:=me (XZ.eq_1 a0);refine so func38 ntmps38 ?_;refine lp1 (Xr.eq_2 a0) (fun J=>Ys 42 [eX 1 (a0.row.map .d),eL 6 16 a0.ZC ZQ.row,eI 7 (a0.ZC.length:Int),eI 8 (J:Int)]) (fun n1 J=>a0.ZC.length<n1+J/\J<=a0.ZC.length) (a0.ZC.length+1) 0 (fun p1 J e1 j1=>?_);refine cFf e1 ?_ ?_<;>intro k2 h1 e1
 ·have i1:=ix h1;have m2:=ml a0.ZC (k2 6 _ rfl);have w1:=wr J;simp[i1,ZI];refine rpS ?_;refine dIs mixed ?_;refine cRs (Oc (nth a0.ZC J)) ?_;refine gIf ?_ ?_<;>intro G
  ·have i2:=ik (J-1) a0.ZC;have w2:IntKind.i64.wrap ((J:Int)-1)=(J:Int)-1:=Ya fJ fJ;simp[i2,ZI,w2,G];refine rpG ?_;refine cK e1 ?_ ?_<;>intro k4 h2 e1
   ·exact rtg _ (ms f e1)
   ·exact ny1 (an w1 (an w2 G)) e1
  ·refine cK e1 ?_ ?_<;>intro k5 h3 e1
   ·exact rtg _ (ms f e1)
   ·exact ny1 (an w1 G) e1
 have f:=ms f e1;refine cRs (YT a0.Id 0 99) ?_;exact rt _ f
theorem SS(a0:List Int)(u0:Sm 2342912 a0):Sd 64 [rL 1 iR a0] [rL 1 iR (kg a0)]:=by have f:=me (kg.eq_1 a0);have c1:=sl 2342912 a0 u0;refine soD func64 ntmps64 ?_;exact rtD [.tmp 2] f
theorem jh(a0:List Int)(u0:Sm 2342912 a0):Sd 64 [rL 1 iR a0] [rL 1 iR a0]:=by have h:=SS a0 u0;rwa[T8]at h
theorem Wa(a0:ZP)(u0:Sm 2338816 a0):Sd 130 [a0.row] [(ye a0).row]:=by have f:=me (ye.eq_1 a0);refine soD func130 ntmps130 ?_;refine Oi [2,3,4,5,0,1,6,7,8,9,10] mixed fL fL fL ?_;have c1:=sl 2338816 a0.Zz u0;simp;refine rpS ?_;refine cDs [false] (jh a0.Yw (sg (ZP.Pu u0))) ?_;exact rtD [.cell 2 53] f
theorem kT(a0:ZP)(u0:Sm 2338816 a0):Sd 130 [a0.row] [a0.row]:=by have h:=Wa a0 u0;rwa[Wj]at h
theorem TR(a0:ZM)(u0:Sm 2338816 a0):Sd 208 [a0.row] [(jX a0).row]:=by have f:=me (jX.eq_1 a0);refine soD func208 ntmps208 ?_;refine cDs [false] (jh a0.zo (sg (ZM.MI u0))) ?_;exact rtD [.cell 2 98] f
theorem Uc(a0:ZM)(u0:Sm 2338816 a0):Sd 208 [a0.row] [a0.row]:=by have h:=TR a0 u0;rwa[TB]at h
theorem Uf(a0:List ZM)(u0:Sm 2334720 a0):Sd 134 [rL 3 ZM.row a0] [rL 3 ZM.row (yI a0)]:=by
 have f:=me (yI.eq_1 a0);refine soD func134 ntmps134 ?_;refine lp2 (Kw.eq_2 a0) (fun J U=>Ys 19 [(3,.one (.sref 3 0 0 J.length),[.arr true 3 (J.map ZM.row)]),eL 6 3 a0 ZM.row,eI 7 (a0.length:Int),eI 8 (U:Int)]) (fun n1 J U=>a0.length<n1+U/\U<=a0.length/\J.length<=0+1*U) (a0.length+1) ([]:List ZM) 0 (fun p1 J U e1 j1=>?_) (h0:=wkS [((3,0),none)] []);refine cFf e1 ?_ ?_<;>intro k2 h1 e1
 ·have i1:=ix h1;have m2:=ml a0 (k2 6 _ rfl);have c1:=sl 2334720 a0 u0;have w1:=wr U;simp[i1,ZI];refine rpS ?_;refine cDs [true,false] (Uc (nth a0 U) (sg (XR u0))) ?_;refine jU ?_;simp;refine jy (wD:=J.map ZM.row) (news:=([nth a0 U]:List ZM).map ZM.row) (l1:=[(3,0)]) (l2:=[(14,1)]) (size:=3) ?_;simp;exact nx2 e1 (hw:=Y2 [((3,0),some (16,0))] [] rfl ff)
 exact rtD [.tmp 2] (ms f e1)
theorem W3(a0:List ZM)(u0:Sm 2334720 a0):Sd 134 [rL 3 ZM.row a0] [rL 3 ZM.row a0]:=by have h:=Uf a0 u0;rwa[UT]at h
theorem UL(a0:List ZO)(u0:Sm 2342912 a0):Sd 135 [rL 5 ZO.row a0] [rL 5 ZO.row (qQ a0)]:=by have f:=me (qQ.eq_1 a0);have c1:=sl 2342912 a0 u0;refine soD func135 ntmps135 ?_;exact rtD [.tmp 2] f
theorem Vl(a0:List ZO)(u0:Sm 2342912 a0):Sd 135 [rL 5 ZO.row a0] [rL 5 ZO.row a0]:=by have h:=UL a0 u0;rwa[Ud]at h
theorem VO(a0:ZE)(u0:Sm 2338816 a0):Sd 76 [a0.row] [(xR a0).row]:=by have f:=me (xR.eq_1 a0);have c1:=sl 2338816 a0.Path u0;refine soD func76 ntmps76 ?_;refine cDs [false] (Vl a0.YQ (sg (ZE.S4 u0))) ?_;exact rtD [.cell 2 87] f
theorem y8(a0:ZE)(u0:Sm 2338816 a0):Sd 76 [a0.row] [a0.row]:=by have h:=VO a0 u0;rwa[VH]at h
theorem Ub(a0:ZH)(u0:Sm 2330624 a0):Sd 75 [a0.row] [(yA a0).row]:=by
 have f:=me (yA.eq_1 a0);refine soD func75 ntmps75 ?_;refine cDs [] (W3 a0.ZG (sg (ZH.zM u0))) ?_;refine lp2 (Kz.eq_2 a0) (fun J U=>Ys 26 [(2,.one (.bptr 2 0),[.box [.nil 3,.nil 5]]),(3,.one (.bptr 3 0),[.box [.sref 8 0 0 a0.ZG.length,.sref 3 2 0 U.length],.none,.arr true 5 (U.map ZE.row)]),(8,.any,[.arr true 3 (a0.ZG.map ZM.row)]),eL 11 5 a0.ZK ZE.row,eI 12 (a0.ZK.length:Int),eI 13 (J:Int)]) (fun n1 J U=>a0.ZK.length<n1+J/\J<=a0.ZK.length/\U.length<=0+1*J) (a0.ZK.length+1) 0 ([]:List ZE) (fun p1 J U e1 j1=>?_) (h0:=wkS [((3,2),none)] []);refine cFf e1 ?_ ?_<;>intro k2 h1 e1
 ·have i1:=ix h1;have m2:=ml a0.ZK (k2 11 _ rfl);have c1:=sl 2330624 a0.ZK u0;have w1:=wr J;simp[i1,ZI];refine rpS ?_;refine drJ [22] mixed ?_;simp;refine cDs [true,true,true,false,false] (y8 (nth a0.ZK J) (sg (XR (ZH.KK u0)))) ?_;refine jU ?_;simp;refine jy (wD:=U.map ZE.row) (news:=([nth a0.ZK J]:List ZE).map ZE.row) (l1:=[(3,2)]) (l2:=[(20,3),(20,4)]) (size:=5) ?_;simp;exact nx2 e1 (hw:=Y2 [((3,2),some (22,0))] [] rfl ff)
 have c2:=sl 2330624 a0.ZK u0;exact rtD [.cell 2 59] (ms f e1)
theorem zK(a0:ZH)(u0:Sm 2330624 a0):Sd 75 [a0.row] [a0.row]:=by have h:=Ub a0 u0;rwa[UI]at h
theorem Tz(a0:ZQ)(u0:Sm 2326528 a0):Sd 73 [a0.row] [(ka a0).row]:=by have f:=me (ka.eq_1 a0);refine soD func73 ntmps73 ?_;refine cDs [true,false,false] (kT a0.Doc (sg (ZQ.Vh u0))) ?_;refine cDs [] (zK a0.ZJ (sg (ZQ.XJ u0))) ?_;exact rtD [.cell 2 61] f
theorem Tp(a0:ZQ)(u0:Sm 2326528 a0):Sd 73 [a0.row] [a0.row]:=by have h:=Tz a0 u0;rwa[SQ]at h
theorem VQ(a0:ZF)(u0:Sm 2322432 a0):Sd 39 [a0.row] [(zV a0).row]:=by
 have f:=me (zV.eq_1 a0);refine soD func39 ntmps39 ?_;refine lp2 (KN.eq_2 a0) (fun J U=>Ys 25 [(2,.one (.bptr 2 0),[.box [.d (.int .i64 0),.nil 16]]),(3,.one (.bptr 3 0),[.box [.d (.int .i64 a0.Id),.sref 3 2 0 U.length],.none,.arr true 16 (U.map ZQ.row)]),eL 10 16 a0.ZC ZQ.row,eI 11 (a0.ZC.length:Int),eI 12 (J:Int)]) (fun n1 J U=>a0.ZC.length<n1+J/\J<=a0.ZC.length/\U.length<=0+1*J) (a0.ZC.length+1) 0 ([]:List ZQ) (fun p1 J U e1 j1=>?_) (h0:=wkS [((3,2),none)] []);refine cFf e1 ?_ ?_<;>intro k2 h1 e1
 ·have i1:=ix h1;have m2:=ml a0.ZC (k2 10 _ rfl);have c1:=sl 2322432 a0.ZC u0;have w1:=wr J;simp[i1,ZI];refine rpS ?_;refine drJ [21] mixed ?_;simp;refine cDs [true,true,true,false,false] (Tp (nth a0.ZC J) (sg (XR (ZF.Yy u0)))) ?_;refine jU ?_;simp;refine jy (wD:=U.map ZQ.row) (news:=([nth a0.ZC J]:List ZQ).map ZQ.row) (l1:=[(3,2)]) (l2:=[(19,3),(19,4),(19,14),(19,15)]) (size:=16) ?_;simp;exact nx2 e1 (hw:=Y2 [((3,2),some (21,0))] [] rfl ff)
 have c2:=sl 2322432 a0.ZC u0;exact rtD [.cell 2 44] (ms f e1)
theorem JX(a0:ZF)(u0:Sm 2322432 a0):Sd 39 [a0.row] [a0.row]:=by have h:=VQ a0 u0;rwa[VR]at h
theorem Tl(a0:ZO):Sd 204 [a0.row] [rL 1 iR (KY a0)]:=by have f:=me (KY.eq_1 a0);refine soD func204 ntmps204 ?_;exact rtD [.tmp 2] f
theorem LQ(a0 a1:Int):Sa 280 [rI a0,rI a1] [rI (Pt a0 a1)]:=by
 have f:=me (Pt.eq_1 a0 a1);refine so func280 ntmps280 ?_;refine cRs (YT a1 1 1000000000000) ?_;refine cFo f ?_ ?_<;>intro k1 h1 f
 ·have q1:=h1;try simp[Zc]at q1
  simp;exact rt _ f
 have q1:=h1;try simp[Zc]at q1
 simp;refine rpS ?_;exact rt _ f
theorem MQ(a0:List Int):Sa 234 [rL 1 iR a0] [rI (TU a0)]:=by
 have f:=me (TU.eq_1 a0);refine so func234 ntmps234 ?_;refine lp2 (qq.eq_2 a0) (fun J U=>Ys 21 [eI 3 J,eL 6 1 a0 iR,eI 7 (a0.length:Int),eI 8 (U:Int)]) (fun n1 J U=>a0.length<n1+U/\U<=a0.length) (a0.length+1) 11 0 (fun p1 J U e1 j1=>?_);refine cFf e1 ?_ ?_<;>intro k2 h1 e1
 ·have i1:=ix h1;have m2:=ml a0 (k2 6 _ rfl);have w1:=wr U;simp[i1,ZI];refine rpS ?_;refine cRs (LQ (nth a0 U) 2147483647) ?_;exact ny2 w1 e1
 exact rt _ (ms f e1)
theorem QU(a0:Int)(a1:List Int)(u0:Sm 68719476736 a1):Sa 205 [rI a0,rL 1 iR a1] [rI (Xz a0 a1)]:=by have f:=me (Xz.eq_1 a0 a1);have c1:=sl 68719476736 a1 u0;refine so func205 ntmps205 ?_;refine cRs (MQ (([7,a0]:List Int)++a1)) ?_;exact rt _ f
theorem kV(a0:Int)(a1:ZE)(u0:Sm 2326528 a1):Sa 131 [rI a0,a1.row] [rI (X7 a0 a1)]:=by
 have f:=me (X7.eq_1 a0 a1);refine so func131 ntmps131 ?_;refine lp2 (Xb.eq_2 a1) (fun J U=>Ys 59 [eI 0 a0,eX 3 (a1.row.map .d),(5,.one (.sref 5 0 0 J.length),[.arr false 1 (J.map iR)]),eL 19 2 a1.Path Zs.row,eI 20 (a1.Path.length:Int),eI 21 (U:Int)]) (fun n1 J U=>a1.Path.length<n1+U/\U<=a1.Path.length/\J.length<=4+2*U) (a1.Path.length+1) ([4,a1.Count,a1.Method,a1.Mh]:List Int) 0 (fun p1 J U e1 j1=>?_) (h0:=wkS [((5,0),some (17,0))] []);refine cFo e1 ?_ ?_<;>intro k2 h1 e1
 ·have q1:=h1;try simp at q1
  have i1:=ix h1;have m2:=ml a1.Path (k2 19 _ rfl);have c1:=sl 2326528 a1.Path u0;have w1:=wr U;simp[i1,ZI];refine rpS ?_;refine cFo e1 ?_ ?_<;>intro k3 h2 e1
  ·have q2:=h2;try simp at q2
   simp;refine rpS ?_;exact nx2 e1 (hw:=Y2 [((5,0),some (32,0))] [] rfl ff)
  have q2:=h2;try simp at q2
  simp;refine rpS ?_;exact nx2 e1 (hw:=Y2 [((5,0),some (32,0))] [] rfl ff)
 have q1:=h1;try simp at q1
 have c2:=sl 2326528 a1.Path u0;have f:=ms f e1;simp;refine rpS ?_;refine lp2 (QN.eq_2 a1) (fun wK wa=>Ys 59 [eI 0 a0,(5,.one (.sref 5 0 0 wK.length),[.arr false 1 (wK.map iR)]),eL 41 5 a1.YQ ZO.row,eI 42 (a1.YQ.length:Int),eI 43 (wa:Int)]) (fun n2 wK wa=>a1.YQ.length<n2+wa/\wa<=a1.YQ.length/\wK.length<=5+2*2326528+6*wa) (a1.YQ.length+1) (J++([(a1.YQ.length:Int)]:List Int)) 0 (fun p2 wK wa e2 j2=>?_) (hI:=by(have o:a1.Path.length<=2326528:=JA (xs u0);simp at*;omega)) (h0:=wkS [((5,0),some (39,0))] []);refine cFo e2 ?_ ?_<;>intro k5 h3 e2
 ·have q3:=h3;try simp at q3
  have i2:=ix h3;have m4:=ml a1.YQ (k5 41 _ rfl);have c3:=sl 2326528 a1.YQ u0;have w2:=wr wa;simp[i2,ZI];refine rpS ?_;refine dIs mixed ?_;refine cRs (Zp.rd (Tl (nth a1.YQ wa))) ?_;exact nx2 e2 (hI:=by(simp;omega)) (hw:=Y2 [((5,0),some (54,0))] [] rfl (by simp[w2]))
 have q3:=h3;try simp at q3
 have c4:=sl 2326528 a1.YQ u0;have f:=ms f e2;simp;refine cRs (QU a0 wK fS) ?_;exact rt [.tmp 4] f
theorem PJ(a0:List UInt8)(u0:Sm 2342912 a0):Sd 265 [rL 1 bR a0] [rL 1 iR (zO a0)]:=by
 have f:=me (zO.eq_1 a0);refine soD func265 ntmps265 ?_;refine lp2 (Ji.eq_2 a0) (fun J U=>Ys 19 [(3,.one (.sref 3 0 0 J.length),[.arr false 1 (J.map iR)]),eL 6 1 a0 bR,eI 7 (a0.length:Int),eI 8 (U:Int)]) (fun n1 J U=>a0.length<n1+U/\U<=a0.length/\J.length<=0+1*U) (a0.length+1) ([]:List Int) 0 (fun p1 J U e1 j1=>?_) (h0:=wkS [((3,0),none)] []);refine cFf e1 ?_ ?_<;>intro k2 h1 e1
 ·have i1:=ix h1;have m2:=ml a0 (k2 6 _ rfl);have c1:=sl 2342912 a0 u0;have w1:=wr U;simp[i1,ZI];refine rpS ?_;exact nx2 e1 (hw:=Y2 [((3,0),some (16,0))] [] rfl ff)
 exact rtD [.tmp 2] (ms f e1)
theorem Ue(a0:Int)(a1:ByteArray)(a2:Int)(u0:Sm 2326528 a1):Sa 207 [rI a0,rS a1,rI a2] [rI (Kq a0 a1 a2)]:=by have f:=me (Kq.eq_1 a0 a1 a2);refine so func207 ntmps207 ?_;have c1:a1.size<=2326528:=RN (xs u0);refine Iw (s:=a1) rfl rfl rfl fM fM fM fM fJ ?_;simp;refine cRs (Zp.rd (PJ a1.data.toList (by simp[Z9];first|omega|(simp[ByteArray.size]at*;omega)))) ?_;refine cRs (QU a0 (([a2]:List Int)++zO a1.data.toList) fg) ?_;exact rt _ f
theorem qx(a0:Int)(a1:ZP)(u0:Sm 2322432 a1):Sa 133 [rI a0,a1.row] [rI (XD a0 a1)]:=by
 have f:=me (XD.eq_1 a0 a1);refine so func133 ntmps133 ?_;refine cRs (qb a1) ?_;refine cF f ?_ ?_<;>intro k1 h1 f
 ·exact rt [.tmp 4] f
 refine lp2 (KI.eq_2 a0 a1) (fun J U=>Ys 37 [eI 0 a0,eX 3 (a1.row.map .d),(5,.one (.sref 5 0 0 J.length),[.arr false 1 (J.map iR)]),eL 15 1 a1.Zz sR,eI 16 (a1.Zz.length:Int),eI 17 (U:Int)]) (fun n1 J U=>a1.Zz.length<n1+U/\U<=a1.Zz.length/\J.length<=1+1*U) (a1.Zz.length+1) ([a1.zj]:List Int) 0 (fun p1 J U e1 j1=>?_) (h0:=wkS [((5,0),some (13,0))] []);refine cFf e1 ?_ ?_<;>intro k3 h2 e1
 ·have i1:=ix h2;have m2:=ml a1.Zz (k3 15 _ rfl);have c1:=sl 2322432 a1.Zz u0;have w1:=wr U;have i2:U<a1.Yw.length:=by(have:=Vi (a:=a1);first|(simp_all;done)|(simp_all;omega))
  simp[i1,ZI,i2];refine rpS ?_;refine cRs (Ue a0 (nth a1.Zz U) (nth a1.Yw U) (sg (XR (ZP.Ur u0)))) ?_;exact nx2 e1 (hw:=Y2 [((5,0),some (32,0))] [] rfl ff)
 have c2:=sl 2322432 a1.Zz u0;have f:=ms f e1;refine cRs (QU a0 J fS) ?_;exact rt [.tmp 4] f
theorem Wi(a0:Int)(a1:List ZM)(u0:Sm 2326528 a1):Sa 206 [rI a0,rL 3 ZM.row a1] [rI (Qm a0 a1)]:=by
 have f:=me (Qm.eq_1 a0 a1);refine so func206 ntmps206 ?_;refine lp2 (Qf.eq_2 a0 a1) (fun J U=>Ys 32 [eI 0 a0,(5,.one (.sref 5 0 0 J.length),[.arr false 1 (J.map iR)]),eL 9 3 a1 ZM.row,eI 10 (a1.length:Int),eI 11 (U:Int)]) (fun n1 J U=>a1.length<n1+U/\U<=a1.length/\J.length<=1+1*U) (a1.length+1) ([2]:List Int) 0 (fun p1 J U e1 j1=>?_) (h0:=wkS [((5,0),some (8,0))] []);refine cFf e1 ?_ ?_<;>intro k2 h1 e1
 ·have i1:=ix h1;have m2:=ml a1 (k2 9 _ rfl);have c1:=sl 2326528 a1 u0;have w1:=wr U;have c2:=sl 2326528 (nth a1 U).zo u0;simp[i1,ZI];refine rpS ?_;refine cRs (QU a0 (([(nth a1 U).Key,(nth a1 U).Mark]:List Int)++(nth a1 U).zo) fg) ?_;exact nx2 e1 (hw:=Y2 [((5,0),some (27,0))] [] rfl ff)
 have c3:=sl 2326528 a1 u0;have f:=ms f e1;refine cRs (QU a0 J fS) ?_;exact rt [.tmp 4] f
theorem V0(a0 a1:Int)(a2:List ZM)(a3:Int)(u0:Sm 2322432 a2):Sa 132 [rI a0,rI a1,rL 3 ZM.row a2,rI a3] [rI (xr a0 a1 a2 a3)]:=by have f:=me (xr.eq_1 a0 a1 a2 a3);refine so func132 ntmps132 ?_;refine cRs (Wi a0 a2 (sg u0)) ?_;refine cRs (QU a0 ([3,a1,Qm a0 a2,a3]:List Int) fg) ?_;exact rt _ f
theorem RQ(a0:ZQ)(a1:Int)(u0:Sm 2318336 a0):Sa 74 [a0.row,rI a1] [rI (yR a0 a1)]:=by
 have f:=me (yR.eq_1 a0 a1);refine so func74 ntmps74 ?_;refine cFf f ?_ ?_<;>intro k1 h1 f
 ·have i1:=ik (a0.ZJ.ZK.length-1) a0.ZJ.ZK;have m1:=ml a0.ZJ.ZK (k1 9 _ rfl);have w1:IntKind.i64.wrap ((a0.ZJ.ZK.length:Int)-1)=(a0.ZJ.ZK.length:Int)-1:=Ya fJ fJ;simp[i1,ZI,w1];refine rpS ?_;refine cRs (kV a1 (nth a0.ZJ.ZK (a0.ZJ.ZK.length-1)) (sg (XR (ZH.KK (ZQ.XJ u0))))) ?_;refine dIs mixed ?_;refine cRs (qx a1 a0.Doc (sg (ZQ.Vh u0))) ?_;refine cRs (V0 a1 (XD a1 a0.Doc) a0.ZJ.ZG (X7 a1 (nth a0.ZJ.ZK (a0.ZJ.ZK.length-1))) (sg (ZH.zM (ZQ.XJ u0)))) ?_;exact rt _ f
 refine dIs mixed ?_;refine cRs (qx a1 a0.Doc (sg (ZQ.Vh u0))) ?_;refine cRs (V0 a1 (XD a1 a0.Doc) a0.ZJ.ZG 0 (sg (ZH.zM (ZQ.XJ u0)))) ?_;exact rt _ f
theorem jC(a0:ZF)(a1:Int)(u0:Sm 2314240 a0):Sd 40 [a0.row,rI a1] [rL 1 iR (Zo a0 a1)]:=by
 have f:=me (Zo.eq_1 a0 a1);refine soD func40 ntmps40 ?_;refine lp2 (Xp.eq_2 a0 a1) (fun J U=>Ys 23 [eI 1 a1,(5,.one (.sref 5 0 0 J.length),[.arr false 1 (J.map iR)]),eL 9 16 a0.ZC ZQ.row,eI 10 (a0.ZC.length:Int),eI 11 (U:Int)]) (fun n1 J U=>a0.ZC.length<n1+U/\U<=a0.ZC.length/\J.length<=0+1*U) (a0.ZC.length+1) ([]:List Int) 0 (fun p1 J U e1 j1=>?_) (h0:=wkS [((5,0),none)] []);refine cFf e1 ?_ ?_<;>intro k2 h1 e1
 ·have i1:=ix h1;have m2:=ml a0.ZC (k2 9 _ rfl);have c1:=sl 2314240 a0.ZC u0;have w1:=wr U;simp[i1,ZI];refine rpS ?_;refine cRs (RQ (nth a0.ZC U) a1 (sg (XR (ZF.Yy u0)))) ?_;exact nx2 e1 (hw:=Y2 [((5,0),some (20,0))] [] rfl ff)
 exact rtD [.tmp 4] (ms f e1)
theorem UU(a0 a1 a2:Int):Sa 137 [rI a0,rI a1,rI a2] [rI (K6 a0 a1 a2)]:=by have f:=me (K6.eq_1 a0 a1 a2);refine so func137 ntmps137 ?_;refine cRs (QU a0 ([1,a1,a2]:List Int) (by simp(maxDischargeDepth:=12) [QB,Z9];try omega)) ?_;exact rt [.tmp 6] f
theorem KP(a0:Int)(a1:List Int)(u0:Sm 2322432 a1):Sd 79 [rI a0,rL 1 iR a1] [rL 1 iR (Yr a0 a1)]:=by
 have f:=me (Yr.eq_1 a0 a1);refine soD func79 ntmps79 ?_;refine lp2 (XS.eq_2 a0 a1) (fun J U=>Ys 40 [eI 0 a0,eL 1 1 a1 iR,(5,.one (.sref 5 0 0 J.length),[.arr false 1 (J.map iR)]),eI 6 (U:Int)]) (fun n1 J U=>a1.length<n1+U/\U<=a1.length+1/\J.length<=U) (a1.length+1) ([]:List Int) 0 (fun p1 J U e1 j1=>?_) (h0:=wkS [((5,0),none)] []);refine cF e1 ?_ ?_<;>intro k2 h1 e1
 ·have i1:=ix h1;have m2:=ml a1 (k2 1 _ rfl);have c1:=sl 2322432 a1 u0;have w1:=wr U;refine cFt e1 ?_ ?_<;>intro k3 h2 e1
  ·refine okD fun k4=>?_;refine dIo mixed ?_;have i2:=ik (W ((U:Int)+1)).toNat a1
   simp[i1,ZI,i2];refine rpS ?_;refine cRs (UU a0 (nth a1 U) (nth a1 (W ((U:Int)+1)).toNat)) ?_ (wR:=by first|(simp;done)|(simp[W,w1];done));have w2:IntKind.i64.wrap ((U:Int)+2)=(U:Int)+2:=Ya fJ fJ
   exact nx2 e1 (hI:=by first|omega|(simp at*;omega)) (hw:=Y2 [((5,0),some (31,0))] [] rfl (by simp[w1,w2]))
  simp[i1,ZI];refine rpS ?_;have w3:IntKind.i64.wrap ((U:Int)+2)=(U:Int)+2:=Ya fJ fJ
  exact nx2 e1 (hI:=by first|omega|(simp at*;omega)) (hw:=Y2 [((5,0),some (38,0))] [] rfl (by simp[w1,w3]))
 exact rtD [.tmp 4] (ms f e1)
theorem SX(a0:Int)(a1:List Int)(u0:Sm 2318336 a1):Sa 78 [rI a0,rL 1 iR a1] [rI (zG a0 a1)]:=by
 have f:=me (zG.eq_1 a0 a1);refine so func78 ntmps78 ?_;refine cRs (YT (a1.length:Int) 1 16) ?_;refine cFo f ?_ ?_<;>intro k1 h1 f
 ·have q1:=h1;try simp[Zc]at q1
  simp;exact rt _ f
 have q1:=h1;try simp[Zc]at q1
 simp;refine lp1 (Kt.eq_2 a0) (fun J=>Ys 18 [eI 0 a0,eL 1 1 J iR]) (fun n1 J=>J.length<n1/\1<=J.length/\J.length<=16) (a1.length+1) a1 (fun p1 J e1 j1=>?_) (hI:=by first|omega|(simp at*;omega));refine cFt e1 ?_ ?_<;>intro k3 h2 e1
 ·refine cRs (Zp.rd (KP a0 J fQ)) ?_;exact nx1 e1 (hI:=by(have z:=Qt a0 J fJ;(try dsimp only);simp at*;omega))
 have f:=ms f e1;have i1:=ik 0 J;simp[i1,ZI];refine rpS ?_;exact rt _ f
theorem Rh(a0:ZF)(a1:Int)(u0:Sm 2310144 a0):Sa 42 [a0.row,rI a1] [rI (XL a0 a1)]:=by have f:=me (XL.eq_1 a0 a1);refine so func42 ntmps42 ?_;refine cRs (Zp.rd (jC a0 a1 (sg u0))) ?_;refine cRs (SX a1 (Zo a0 a1) (by simp(maxDischargeDepth:=12) [yh,ZN (m:=2318336) fO u0];try omega)) ?_;exact rt _ f
theorem kS(h:b)(k:a:=by(intros;first|omega|with_unfolding_all (first|first|omega|(have tm:=Int.tmod_eq_emod_of_nonneg (b:=2) (show 0<=U by omega);(try simp only[Y5,show ∀x,IntKind.i64.wrap x=W x from fun _=>rfl]at*);(try simp at*);omega))|((try simp only[Y5,show ∀x,IntKind.i64.wrap x=W x from fun _=>rfl]at*);omega))):a/\b:=⟨k,h⟩
theorem SK(a0:Int)(a1:List Int)(a2:Int)(u0:Sm 2318336 a1):Sd 43 [rI a0,rL 1 iR a1,rI a2] [rL 2 Zs.row (YH a0 a1 a2)]:=by
 have f:=me (YH.eq_1 a0 a1 a2);refine soD func43 ntmps43 ?_;refine cRs (YT a2 0 (W ((a1.length:Int)-1))) ?_;have c1:=sl 2318336 a1 u0;have w1:IntKind.i64.wrap ((a1.length:Int)-1)=(a1.length:Int)-1:=Ya fJ fJ;refine cFo f ?_ ?_<;>intro k1 h1 f
 ·have q1:=h1;try simp[Zc,w1]at q1
  simp;exact rtD [.tmp 6] f
 have q1:=h1;try simp[Zc,w1]at q1
 simp;refine lp3 (Yp.eq_2 a0) (fun J U wB=>Ys 54 [eI 0 a0,eL 1 1 J iR,eI 2 U,(7,.one (.sref 7 0 0 wB.length),[.arr false 2 (wB.map Zs.row)])]) (fun n1 J U wB=>J.length<n1/\0<=U/\U<(J.length:Int)/\J.length<=16/\wB.length+n1<=17) (a1.length+1) a1 a2 ([]:List Zs) (fun p1 J U wB e1 j1=>?_) (hI:=by first|omega|(simp at*;omega)) (h0:=wkS [((7,0),none)] []);refine cF e1 ?_ ?_<;>intro k3 h2 e1
 ·refine cFf e1 ?_ ?_<;>intro k4 h3 e1
  ·have i1:(W (U-1)).toNat<J.length:=fY;simp[i1,ZI];repeat with_reducible refine kS ?_
   refine cRs (Zp.rd (KP a0 J fQ)) ?_;exact nx3 e1 (hI:=by(have z:=Qt a0 J fJ;have td:=Int.tdiv_eq_ediv_of_nonneg (b:=2) (show 0<=U by omega);have w2:W (Int.tdiv U 2)=Int.tdiv U 2:=Ya fJ fJ;(try dsimp only);rw[w2];simp at*;omega)) (hw:=Y2 [((7,0),some (33,0))] [] rfl ff)
  refine cFo e1 ?_ ?_<;>intro k5 h4 e1
  ·have q4:=h4;try simp[w1]at q4
   have i2:(W (U+1)).toNat<J.length:=fY;simp[i2,ZI];repeat with_reducible refine kS ?_
   refine cRs (Zp.rd (KP a0 J fQ)) ?_;exact nx3 e1 (hI:=by(have z:=Qt a0 J fJ;have td:=Int.tdiv_eq_ediv_of_nonneg (b:=2) (show 0<=U by omega);have w2:W (Int.tdiv U 2)=Int.tdiv U 2:=Ya fJ fJ;(try dsimp only);rw[w2];simp at*;omega)) (hw:=Y2 [((7,0),some (47,0))] [] rfl ff)
  have q4:=h4;try simp[w1]at q4
  simp;refine cRs (Zp.rd (KP a0 J fQ)) ?_;exact ny3 w1 e1 (hI:=by(have z:=Qt a0 J fJ;have td:=Int.tdiv_eq_ediv_of_nonneg (b:=2) (show 0<=U by omega);have w2:W (Int.tdiv U 2)=Int.tdiv U 2:=Ya fJ fJ;(try dsimp only);rw[w2];simp at*;omega))
 exact rtD [.tmp 6] (ms f e1)
theorem UM(a0:ZH)(a1:ZE)(u0:Sm 2326528 a0)(u1:Sm 2326528 a1):Sd 41 [a0.row,a1.row] [(Z2 a0 a1).1.row,rB (Z2 a0 a1).2]:=by
 have f:=me (Z2.eq_1 a0 a1);refine soD func41 ntmps41 ?_;refine cDs [] (zK a0 (sg u0)) ?_;refine drJ [14] mixed ?_;simp;refine cDs [true,true,true,false,false] (y8 a1 (sg u1)) ?_;refine jU ?_;have c1:=sl 2326528 a0.ZK (an u0 u1);simp;refine jy (wD:=a0.ZK.map ZE.row) (news:=([a1]:List ZE).map ZE.row) (l1:=[(8,1)]) (l2:=[(12,3),(12,4)]) (size:=5) ?_;simp;refine cRs (j7 (ZH.mk a0.ZG (a0.ZK++([a1]:List ZE)))) ?_;refine cF f ?_ ?_<;>intro k2 h1 f
 ·refine cDs [] (zK a0 (sg u0)) ?_;exact rtD [.cell 4 59,.tmp 5] f
 exact rtD [.cell 4 59,.tmp 5] f
theorem Wy(a0:ZF)(a1:Int)(a2:List ZO)(u0:Sm 2306048 a0)(u1:Sm 2306048 a2):Sd 12 [a0.row,rI a1,rL 5 ZO.row a2] [(ZS a0 a1 a2).1.row,rB (ZS a0 a1 a2).2]:=by
 have f:=me (ZS.eq_1 a0 a1 a2);refine soD func12 ntmps12 ?_;refine cGs (fun gg=>jQ a0) ?_;refine cF f ?_ ?_<;>intro k1 h1 f
 ·refine cDs [] (JX a0 (sg u0)) ?_;exact rtD [.cell 6 44,.tmp 7] f
 refine cDs [] (JX a0 (sg u0)) ?_;refine cRs (Zp.rd (jC a0 a1 (sg u0))) ?_;refine lp2 (Zv.eq_2 a0 a1 a2) (fun J U=>Ys 75 [eI 1 a1,eL 2 5 a2 ZO.row,eX 3 (a0.row.map .d),(6,.one (.bptr 6 0),[.box [.d (.int .i64 0),.nil 16]]),(8,.one (.bptr 8 0),[.box [.d (.int .i64 a0.Id),.sref 26 1 0 U.length]]),eL 9 1 (Zo a0 a1) iR,(26,.any,[.none,.arr true 16 (U.map ZQ.row)]),eL 31 16 a0.ZC ZQ.row,eI 32 (a0.ZC.length:Int),eI 33 (J:Int)]) (fun n1 J U=>a0.ZC.length<n1+J/\J<=a0.ZC.length/\U.length=a0.ZC.length) (a0.ZC.length+1) 0 a0.ZC (fun p1 J U e1 j1=>?_);refine cFf e1 ?_ ?_<;>intro k3 h2 e1
 ·have i1:=ix h2;have m2:=ml a0.ZC (k3 31 _ rfl);have c1:=sl 2306048 a0.ZC (an u0 u1);have w1:=wr J;simp[i1,ZI];refine rpS ?_;refine dIs mixed ?_;refine cRs (Rh a0 a1 (sg u0)) ?_;refine cRs (Zp.rd (SK a1 (Zo a0 a1) (J:Int) (by simp(maxDischargeDepth:=12) [yh,ZN (m:=2318336) fO u0,ZN (m:=2318336) fO u1];try omega))) ?_;refine cDs [] (UM (nth a0.ZC J).ZJ (ZE.mk ((nth a0.ZC J).ZJ.ZG.length:Int) a1 (XL a0 a1) (YH a1 (Zo a0 a1) (J:Int)) a2) (sg (ZQ.XJ (XR (ZF.Yy u0)))) (by simp(maxDischargeDepth:=12) [kF,yh,ZN (m:=2326528) fO u0,ZN (m:=2326528) fO u1];try omega)) ?_;refine cFt e1 ?_ ?_<;>intro k5 h3 e1
  ·refine cDs [] (JX a0 (sg u0)) ?_;exact rtD [.cell 6 44,.tmp 7] (ms f e1)
  have i2:=ik J U;simp[i2,ZI];refine rpS ?_;refine H8 (t:=26) (j:=1) (i:=J) (c:=14) (size:=16) (rows:=U.map ZQ.row) (ds:=(Z2 (nth a0.ZC J).ZJ (ZE.mk ((nth a0.ZC J).ZJ.ZG.length:Int) a1 (XL a0 a1) (YH a1 (Zo a0 a1) (J:Int)) a2)).1.row) (L:=[(55,0),(55,1)]) rfl rfl rfl rfl fM fM (by simp;try omega) fM fM fM fM fM fM ?_;simp[Ri (x:=ZQ.mk (nth U J).Id (nth U J).YL (nth U J).Doc (nth U J).Sig (Z2 (nth a0.ZC J).ZJ (ZE.mk ((nth a0.ZC J).ZJ.ZG.length:Int) a1 (XL a0 a1) (YH a1 (Zo a0 a1) (J:Int)) a2)).1) rfl,i2,ZI,yY];refine rpS ?_;exact ny2 w1 e1
 have c2:=sl 2306048 a0.ZC (an u0 u1);have f:=ms f e1;refine cRs (jQ (ZF.mk a0.Id U)) ?_;refine cF f ?_ ?_<;>intro k6 h4 f
 ·refine cDs [] (JX a0 (sg u0)) ?_;exact rtD [.cell 6 44,.tmp 7] f
 exact rtD [.cell 6 44,.tmp 7] f
theorem T5(h:b)(k:a:=by(intros;first|omega|with_unfolding_all (first|first|omega|exact⟨by assumption,by rw[IntKind.wrap_u64];omega⟩)|((try simp only[Y5,show ∀x,IntKind.i64.wrap x=W x from fun _=>rfl]at*);omega))):a/\b:=⟨k,h⟩
theorem j8(a0:Int):Sa 19 [rI a0] [rI (X2 a0)]:=by
 have f:=me (X2.eq_1 a0);refine so func19 ntmps19 ?_;refine lp1 (qI.eq_2 a0) (fun J=>Ys 16 [eI 0 a0,eI 3 (J:Int)]) (fun n1 J=>J+n1=6/\J<=4) 6 0 (fun p1 J e1 j1=>?_) (hI:=by((try dsimp only);omega));try dsimp only at j1
 refine cR (YT a0 1 16) ?_;simp;repeat with_reducible refine T5 ?_
 refine cFo e1 ?_ ?_<;>intro k2 h1 e1
 ·have q1:=h1;try simp[Zc]at q1
  have w1:=wr J;simp[w1];exact ny1 w1 e1 (hI:=by(have z:=PV h1 j1.2.2;(try dsimp only);omega))
 have q1:=h1;try simp[Zc]at q1
 have f:=ms f e1;simp;exact rt [.tmp 2] f
theorem Tw(a0 a1:Int):Sa 14 [rI a0,rI a1] [rI (Xv a0 a1)]:=by
 have f:=me (Xv.eq_1 a0 a1);refine so func14 ntmps14 ?_;refine cRs (YT a0 1 16) ?_;refine cGs (fun gg=>YT a1 0 6) ?_;refine cFo f ?_ ?_<;>intro k1 h1 f
 ·have q1:=h1;try simp[Zc]at q1
  simp;exact rt [.tmp 4] f
 have q1:=h1;try simp[Zc]at q1
 simp;refine cRs (j8 a0) ?_;exact rt [.tmp 4] f
theorem VB(a0:ZE):Sa 51 [a0.row] [rI (KD a0)]:=by have f:=me (KD.eq_1 a0);refine so func51 ntmps51 ?_;exact rt [.tmp 2] f
theorem zw(a0:ZH):Sa 15 [a0.row] [rI (Y6 a0)]:=by
 have f:=me (Y6.eq_1 a0);refine so func15 ntmps15 ?_;refine lp2 (Jm.eq_2 a0) (fun J U=>Ys 35 [eX 1 (a0.row.map .d),eI 3 J,eL 9 5 a0.ZK ZE.row,eI 10 (a0.ZK.length:Int),eI 11 (U:Int)]) (fun n1 J U=>a0.ZK.length<n1+U/\U<=a0.ZK.length) (a0.ZK.length+1) 0 0 (fun p1 J U e1 j1=>?_);refine cFf e1 ?_ ?_<;>intro k2 h1 e1
 ·have i1:=ix h1;have m2:=ml a0.ZK (k2 9 _ rfl);have w1:=wr U;simp[i1,ZI];refine rpS ?_;refine cRs (VB (nth a0.ZK U)) ?_;exact ny2 w1 e1
 have f:=ms f e1;refine lp2 (Jf.eq_2 a0) (fun wK wa=>Ys 35 [eI 3 wK,eL 21 3 a0.ZG ZM.row,eI 22 (a0.ZG.length:Int),eI 23 (wa:Int)]) (fun n2 wK wa=>a0.ZG.length<n2+wa/\wa<=a0.ZG.length) (a0.ZG.length+1) J 0 (fun p2 wK wa e2 j2=>?_);refine cFf e2 ?_ ?_<;>intro k4 h2 e2
 ·have i2:=ix h2;have m4:=ml a0.ZG (k4 21 _ rfl);have w2:=wr wa;simp[i2,ZI];refine rpS ?_;exact ny2 w2 e2
 exact rt [.tmp 2] (ms f e2)
theorem xu(a0:ZF):Sa 16 [a0.row] [rI (Xs a0)]:=by
 have f:=me (Xs.eq_1 a0);refine so func16 ntmps16 ?_;refine lp2 (JF.eq_2 a0) (fun J U=>Ys 20 [eI 3 J,eL 7 16 a0.ZC ZQ.row,eI 8 (a0.ZC.length:Int),eI 9 (U:Int)]) (fun n1 J U=>a0.ZC.length<n1+U/\U<=a0.ZC.length) (a0.ZC.length+1) 0 0 (fun p1 J U e1 j1=>?_);refine cFf e1 ?_ ?_<;>intro k2 h1 e1
 ·have i1:=ix h1;have m2:=ml a0.ZC (k2 7 _ rfl);have w1:=wr U;simp[i1,ZI];refine rpS ?_;refine cRs (zw (nth a0.ZC U).ZJ) ?_;exact ny2 w1 e1
 exact rt [.tmp 2] (ms f e1)
theorem xg(a0:ZF):Sa 17 [a0.row] [rI (YO a0)]:=by
 have f:=me (YO.eq_1 a0);refine so func17 ntmps17 ?_;refine lp2 (Xc.eq_2 a0) (fun J U=>Ys 31 [eI 3 J,eL 9 16 a0.ZC ZQ.row,eI 10 (a0.ZC.length:Int),eI 11 (U:Int)]) (fun n1 J U=>a0.ZC.length<n1+U/\U<=a0.ZC.length) (a0.ZC.length+1) 0 0 (fun p1 J U e1 j1=>?_);refine cFf e1 ?_ ?_<;>intro k2 h1 e1
 ·have i1:=ix h1;have m2:=ml a0.ZC (k2 9 _ rfl);have w1:=wr U;simp[i1,ZI];refine rpS ?_;refine lp2 (XB.eq_2 a0 U) (fun wK wa=>Ys 31 [eI 3 wK,eL 9 16 a0.ZC ZQ.row,eI 10 (a0.ZC.length:Int),eI 11 (U:Int),eL 17 5 (nth a0.ZC U).ZJ.ZK ZE.row,eI 18 ((nth a0.ZC U).ZJ.ZK.length:Int),eI 19 (wa:Int)]) (fun n2 wK wa=>(nth a0.ZC U).ZJ.ZK.length<n2+wa/\wa<=(nth a0.ZC U).ZJ.ZK.length) ((nth a0.ZC U).ZJ.ZK.length+1) J 0 (fun p2 wK wa e2 j2=>?_);refine cFf e2 ?_ ?_<;>intro k4 h2 e2
  ·have i2:=ix h2;have m4:=ml (nth a0.ZC U).ZJ.ZK (k4 17 _ rfl);have w2:=wr wa;simp[i2,ZI];refine rpS ?_;exact ny2 (an w1 w2) e2
  have e1:=ms e1 e2;exact ny2 w1 e1
 exact rt [.tmp 2] (ms f e1)
theorem L9(a0 a1:Int):Sa 18 [rI a0,rI a1] [rI (Tf a0 a1)]:=by have f:=me (Tf.eq_1 a0 a1);refine so func18 ntmps18 ?_;exact rt [.tmp 4] f
end Go.Proofs.YtdffgedmahdehaaGreat
