/- Contracts of the functions M1 the abstract machine, part I1. No condition. -/
import Derived.Test.YthecodaabaaaoaaGreatL
import Derived.Test.YthecodaabaaaoaaGreatTy
namespace Go.Proofs.YthecodaabaaaoaaGreat
open Tryz
open Go.Vm Go.Mo
set_option maxHeartbeats 1000000
set_option maxRecDepth 100000
set_option linter.unusedSimpArgs false
set_option linter.unusedVariables false
variable{a b:Prop}
theorem H5(a0:Zb)(u0:Sm 2342912 a0):Sd 63 [a0.row] [(RX a0).row]:=by have f:=me (RX.eq_1 a0);have c1:=sl 2342912 a0.Z0 u0;have c2:=sl 2342912 a0.ZD u0;have c3:=sl 2342912 a0.Methods u0;refine soD func63 ntmps63 ?_;exact rtD _ f
theorem Ig(a0:Zb)(u0:Sm 2342912 a0):Sd 63 [a0.row] [a0.row]:=by have h:=H5 a0 u0;rwa[HB]at h
theorem Fz(a0:List Int)(u0:Sm 2342912 a0):Sd 64 [rL 1 iR a0] [rL 1 iR (OW a0)]:=by have f:=me (OW.eq_1 a0);have c1:=sl 2342912 a0 u0;refine soD func64 ntmps64 ?_;exact rtD [.tmp 2] f
theorem yB(a0:List Int)(u0:Sm 2342912 a0):Sd 64 [rL 1 iR a0] [rL 1 iR a0]:=by have h:=Fz a0 u0;rwa[FP]at h
theorem NM(a0:ZW)(u0:Sm 2338816 a0):Sd 200 [a0.row] [(UC a0).row]:=by have f:=me (UC.eq_1 a0);refine soD func200 ntmps200 ?_;refine HV [2,3,4,5,0,1,6,7,8,9,10] mixed zAV zAV zAV ?_;have c1:=sl 2338816 a0.X3 u0;simp;refine rpS ?_;refine cDs [false] (yB a0.KS (sg (ZW.CW u0))) ?_;exact rtD [.cell 2 44] f
theorem Ok(a0:ZW)(u0:Sm 2338816 a0):Sd 200 [a0.row] [a0.row]:=by have h:=NM a0 u0;rwa[NR]at h
theorem GO(a0:ZU)(u0:Sm 2338816 a0):Sd 267 [a0.row] [(PF a0).row]:=by have f:=me (PF.eq_1 a0);refine soD func267 ntmps267 ?_;refine cDs [false] (yB a0.YM (sg (ZU.Sn u0))) ?_;exact rtD [.cell 2 154] f
theorem qt(a0:ZU)(u0:Sm 2338816 a0):Sd 267 [a0.row] [a0.row]:=by have h:=GO a0 u0;rwa[HN]at h
theorem Ie(a0:List ZU)(u0:Sm 2334720 a0):Sd 222 [rL 3 ZU.row a0] [rL 3 ZU.row (VB a0)]:=by
 have f:=me (VB.eq_1 a0);refine soD func222 ntmps222 ?_;refine lp2 (kC.eq_2 a0) (fun J U=>Yy 19 [(3,.one (.sref 3 0 0 J.length),[.arr true 3 (J.map ZU.row)]),eL 6 3 a0 ZU.row,eI 7 (a0.length:Int),eI 8 (U:Int)]) (fun n1 J U=>a0.length<n1+U/\U<=a0.length/\J.length<=0+1*U) (a0.length+1) ([]:List ZU) 0 (fun p1 J U e1 j1=>?_) (h0:=wkS [((3,0),none)] []);refine cFf e1 ?_ ?_<;>intro k2 h1 e1
 ·have i1:=ix h1;have m2:=ml a0 (k2 6 _ rfl);have c1:=sl 2334720 a0 u0;have w1:=wr U;simp[i1,ZF];refine rpS ?_;refine cDs [true,false] (qt (nth a0 U) (sg (Zn u0))) ?_;refine jg ?_;simp;refine kX (ng:=J.map ZU.row) (news:=([nth a0 U]:List ZU).map ZU.row) (l1:=[(3,0)]) (l2:=[(14,1)]) (size:=3) ?_;simp;exact nx2 e1 (hw:=XN [((3,0),some (16,0))] [] rfl zAe)
 exact rtD [.tmp 2] (ms f e1)
theorem Mn(a0:List ZU)(u0:Sm 2334720 a0):Sd 222 [rL 3 ZU.row a0] [rL 3 ZU.row a0]:=by have h:=Ie a0 u0;rwa[Lz]at h
theorem Il(a0:List Zm)(u0:Sm 2342912 a0):Sd 233 [rL 5 Zm.row a0] [rL 5 Zm.row (SO a0)]:=by have f:=me (SO.eq_1 a0);have c1:=sl 2342912 a0 u0;refine soD func233 ntmps233 ?_;exact rtD [.tmp 2] f
theorem Mw(a0:List Zm)(u0:Sm 2342912 a0):Sd 233 [rL 5 Zm.row a0] [rL 5 Zm.row a0]:=by have h:=Il a0 u0;rwa[IZ]at h
theorem MM(a0:Ze)(u0:Sm 2338816 a0):Sd 160 [a0.row] [(Ta a0).row]:=by have f:=me (Ta.eq_1 a0);have c1:=sl 2338816 a0.Path u0;refine soD func160 ntmps160 ?_;refine cDs [false] (Mw a0.YV (sg (Ze.EV u0))) ?_;exact rtD [.cell 2 80] f
theorem Ur(a0:Ze)(u0:Sm 2338816 a0):Sd 160 [a0.row] [a0.row]:=by have h:=MM a0 u0;rwa[MO]at h
theorem Io(a0:ZX)(u0:Sm 2330624 a0):Sd 138 [a0.row] [(Wz a0).row]:=by
 have f:=me (Wz.eq_1 a0);refine soD func138 ntmps138 ?_;refine cDs [] (Mn a0.ZM (sg (ZX.QE u0))) ?_;refine lp2 (jy.eq_2 a0) (fun J U=>Yy 26 [(2,.one (.bptr 2 0),[.box [.nil 3,.nil 5]]),(3,.one (.bptr 3 0),[.box [.sref 8 0 0 a0.ZM.length,.sref 3 2 0 U.length],.none,.arr true 5 (U.map Ze.row)]),(8,.any,[.arr true 3 (a0.ZM.map ZU.row)]),eL 11 5 a0.ZQ Ze.row,eI 12 (a0.ZQ.length:Int),eI 13 (J:Int)]) (fun n1 J U=>a0.ZQ.length<n1+J/\J<=a0.ZQ.length/\U.length<=0+1*J) (a0.ZQ.length+1) 0 ([]:List Ze) (fun p1 J U e1 j1=>?_) (h0:=wkS [((3,2),none)] []);refine cFf e1 ?_ ?_<;>intro k2 h1 e1
 ·have i1:=ix h1;have m2:=ml a0.ZQ (k2 11 _ rfl);have c1:=sl 2330624 a0.ZQ u0;have w1:=wr J;simp[i1,ZF];refine rpS ?_;refine drJ [22] mixed ?_;simp;refine cDs [true,true,true,false,false] (Ur (nth a0.ZQ J) (sg (Zn (ZX.zf u0)))) ?_;refine jg ?_;simp;refine kX (ng:=U.map Ze.row) (news:=([nth a0.ZQ J]:List Ze).map Ze.row) (l1:=[(3,2)]) (l2:=[(20,3),(20,4)]) (size:=5) ?_;simp;exact nx2 e1 (hw:=XN [((3,2),some (22,0))] [] rfl zAe)
 have c2:=sl 2330624 a0.ZQ u0;exact rtD [.cell 2 50] (ms f e1)
theorem K1(a0:ZX)(u0:Sm 2330624 a0):Sd 138 [a0.row] [a0.row]:=by have h:=Io a0 u0;rwa[IC]at h
theorem FR(a0:ZR)(u0:Sm 2326528 a0):Sd 126 [a0.row] [(Oh a0).row]:=by have f:=me (Oh.eq_1 a0);refine soD func126 ntmps126 ?_;refine cDs [true,false,false] (Ok a0.Doc (sg (ZR.zt u0))) ?_;refine cDs [] (K1 a0.ZK (sg (ZR.Yv u0))) ?_;exact rtD [.cell 2 52] f
theorem qE(a0:ZR)(u0:Sm 2326528 a0):Sd 126 [a0.row] [a0.row]:=by have h:=FR a0 u0;rwa[Fj]at h
theorem Mi(a0:ZE)(u0:Sm 2322432 a0):Sd 65 [a0.row] [(WG a0).row]:=by
 have f:=me (WG.eq_1 a0);refine soD func65 ntmps65 ?_;refine lp2 (qz.eq_2 a0) (fun J U=>Yy 25 [(2,.one (.bptr 2 0),[.box [.d (.int .i64 0),.nil 16]]),(3,.one (.bptr 3 0),[.box [.d (.int .i64 a0.Id),.sref 3 2 0 U.length],.none,.arr true 16 (U.map ZR.row)]),eL 10 16 a0.ZC ZR.row,eI 11 (a0.ZC.length:Int),eI 12 (J:Int)]) (fun n1 J U=>a0.ZC.length<n1+J/\J<=a0.ZC.length/\U.length<=0+1*J) (a0.ZC.length+1) 0 ([]:List ZR) (fun p1 J U e1 j1=>?_) (h0:=wkS [((3,2),none)] []);refine cFf e1 ?_ ?_<;>intro k2 h1 e1
 ·have i1:=ix h1;have m2:=ml a0.ZC (k2 10 _ rfl);have c1:=sl 2322432 a0.ZC u0;have w1:=wr J;simp[i1,ZF];refine rpS ?_;refine drJ [21] mixed ?_;simp;refine cDs [true,true,true,false,false] (qE (nth a0.ZC J) (sg (Zn (ZE.YC u0)))) ?_;refine jg ?_;simp;refine kX (ng:=U.map ZR.row) (news:=([nth a0.ZC J]:List ZR).map ZR.row) (l1:=[(3,2)]) (l2:=[(19,3),(19,4),(19,14),(19,15)]) (size:=16) ?_;simp;exact nx2 e1 (hw:=XN [((3,2),some (21,0))] [] rfl zAe)
 have c2:=sl 2322432 a0.ZC u0;exact rtD [.cell 2 55] (ms f e1)
theorem Yl(a0:ZE)(u0:Sm 2322432 a0):Sd 65 [a0.row] [a0.row]:=by have h:=Mi a0 u0;rwa[Mt]at h
theorem G2(a0:ZG)(u0:Sm 2318336 a0):Sd 23 [a0.row] [(Uq a0).row]:=by
 have f:=me (Uq.eq_1 a0);refine soD func23 ntmps23 ?_;refine dIs mixed ?_;have c1:=sl 2318336 a0.Zf u0;refine cDs [false,false,false] (Ig a0.Frame (sg (ZG.Xk u0))) ?_;refine cDs [false] (yB a0.Zy (sg (ZG.ux u0))) ?_;refine cDs [false] (yB a0.Y9 (sg (ZG.DM u0))) ?_;refine cDs [false] (yB a0.Yg (sg (ZG.uL u0))) ?_;refine cDs [false] (yB a0.YN (sg (ZG.PY u0))) ?_;refine lp2 (kx.eq_2 a0) (fun J U=>Yy 44 [(2,.one (.bptr 2 0),[.box [.nil 5,.nil 3,.nil 4,.d (.int .i64 0),.d (.int .i64 0),.nil 7,.nil 1,.nil 2,.nil 1,.nil 1,.d (.int .i64 0),.nil 1]]),(3,.one (.bptr 3 0),[.box [.sref 8 0 0 a0.Frame.Z0.length,.sref 8 1 0 a0.Frame.ZD.length,.sref 8 2 0 a0.Frame.Methods.length,.d (.int .i64 a0.Frame.XB),.d (.int .i64 a0.Frame.Now),.sref 12 0 0 a0.Zf.length,.sref 15 0 0 a0.Zy.length,.sref 3 8 0 U.length,.sref 18 0 0 a0.Y9.length,.sref 21 0 0 a0.Yg.length,.d (.int .i64 a0.Next),.sref 26 0 0 a0.YN.length],.none,.none,.none,.none,.none,.none,.none,.arr true 2 (U.map ZE.row)]),(8,.any,[.arr false 5 (a0.Frame.Z0.map Y6.row),.arr false 3 (a0.Frame.ZD.map Zo.row),.arr false 4 (a0.Frame.Methods.map YJ.row)]),(12,.any,[.arr false 7 (a0.Zf.map YO.row)]),(15,.any,[.arr false 1 (a0.Zy.map iR)]),(18,.any,[.arr false 1 (a0.Y9.map iR)]),(21,.any,[.arr false 1 (a0.Yg.map iR)]),(26,.any,[.arr false 1 (a0.YN.map iR)]),eL 29 2 a0.ZB ZE.row,eI 30 (a0.ZB.length:Int),eI 31 (J:Int)]) (fun n1 J U=>a0.ZB.length<n1+J/\J<=a0.ZB.length/\U.length<=0+1*J) (a0.ZB.length+1) 0 ([]:List ZE) (fun p1 J U e1 j1=>?_) (h0:=wkS [((3,8),none)] []);refine cFf e1 ?_ ?_<;>intro k3 h1 e1
 ·have i1:=ix h1;have m2:=ml a0.ZB (k3 29 _ rfl);have c2:=sl 2318336 a0.ZB u0;have w1:=wr J;simp[i1,ZF];refine rpS ?_;refine drJ [40] mixed ?_;simp;refine cDs [] (Yl (nth a0.ZB J) (sg (Zn (ZG.Z5 u0)))) ?_;refine jg ?_;simp;refine kX (ng:=U.map ZE.row) (news:=([nth a0.ZB J]:List ZE).map ZE.row) (l1:=[(3,8)]) (l2:=[(38,1)]) (size:=2) ?_;simp;exact nx2 e1 (hw:=XN [((3,8),some (40,0))] [] rfl zAe)
 exact rtD [.cell 2 33] (ms f e1)
theorem YQ(a0:ZG)(u0:Sm 2318336 a0):Sd 23 [a0.row] [a0.row]:=by have h:=G2 a0 u0;rwa[Hs]at h
theorem Zz(a0 a1 a2:Int):Sa 75 [rI a0,rI a1,rI a2] [rB (ZZ a0 a1 a2)]:=by have f:=me (ZZ.eq_1 a0 a1 a2);refine so func75 ntmps75 ?_;exact rt [.tmp 6] f
theorem EE(a0:ZG)(a1:Int)(u0:Sm 2314240 a0):Sd 31 [a0.row,rI a1] [(K4 a0 a1).1.row,rB (K4 a0 a1).2]:=by
 have f:=me (K4.eq_1 a0 a1);refine soD func31 ntmps31 ?_;refine cDs [false,false,false,true,true,false,false,true,false,false,true,false] (YQ a0 (sg u0)) ?_;refine cRs (Zz a1 0 100) ?_;refine cFo f ?_ ?_<;>intro k1 h1 f
 ·have q1:=h1;try simp[ZZ]at q1
  simp;exact rtD _ f
 have q1:=h1;try simp[ZZ]at q1
 simp;exact rtD _ f
theorem Jf(a0:List Y6)(a1:Int):Sa 76 [rL 5 Y6.row a0,rI a1] [rI (YT a0 a1)]:=by
 have f:=me (YT.eq_1 a0 a1);refine so func76 ntmps76 ?_;refine lp1 (UN.eq_2 a0 a1) (fun J=>Yy 20 [eI 1 a1,eL 7 5 a0 Y6.row,eI 8 (a0.length:Int),eI 9 (J:Int)]) (fun n1 J=>a0.length<n1+J/\J<=a0.length) (a0.length+1) 0 (fun p1 J e1 j1=>?_);refine cFf e1 ?_ ?_<;>intro k2 h1 e1
 ·have i1:=ix h1;have m2:=ml a0 (k2 7 _ rfl);have w1:=wr J;simp[i1,ZF];refine rpS ?_;refine cF e1 ?_ ?_<;>intro k3 h2 e1
  ·exact rt _ (ms f e1)
  exact ny1 w1 e1
 exact rt _ (ms f e1)
theorem jA(a0:List YJ)(a1:Int):Sa 80 [rL 4 YJ.row a0,rI a1] [rI (ZY a0 a1)]:=by
 have f:=me (ZY.eq_1 a0 a1);refine so func80 ntmps80 ?_;refine lp2 (jj.eq_2 a0 a1) (fun J U=>Yy 48 [eL 0 4 a0 YJ.row,eI 1 a1,eI 5 J,eL 8 4 a0 YJ.row,eI 9 (a0.length:Int),eI 10 (U:Int)]) (fun n1 J U=>a0.length<n1+U/\U<=a0.length/\-1<=J/\J<(a0.length:Int)) (a0.length+1) (-1) 0 (fun p1 J U e1 j1=>?_);refine cFf e1 ?_ ?_<;>intro k2 h1 e1
 ·have i1:=ix h1;have m2:=ml a0 (k2 0 _ rfl);have w1:=wr U;simp[i1,ZF];refine rpS ?_;refine dIs mixed ?_;refine gIf ?_ ?_<;>intro G
  ·have i2:=ik J.toNat a0;simp[i2,ZF,G];refine rpG ?_;refine cK e1 ?_ ?_<;>intro k4 h2 e1
   ·exact ny2 (an w1 G) e1
   ·exact ny2 (an w1 G) e1
  ·refine cK e1 ?_ ?_<;>intro k5 h3 e1
   ·exact ny2 (an w1 G) e1
   ·exact ny2 (an w1 G) e1
 have f:=ms f e1;refine cFt f ?_ ?_<;>intro k6 h4 f
 ·exact rt _ f
 have i4:=ik J.toNat a0;simp[i4,ZF];refine rpS ?_;exact rt _ f
theorem yO(a0:ZG)(a1:Int):Sa 81 [a0.row,rI a1] [rB (Yt a0 a1)]:=by have f:=me (Yt.eq_1 a0 a1);refine so func81 ntmps81 ?_;refine cRs (Zz a1 0 (W ((a0.ZB.length:Int)-1))) ?_;exact rt [.tmp 4] f
theorem Sq(a0:ZW):Sa 70 [a0.row] [rB (qM a0)]:=by
 have f:=me (qM.eq_1 a0);refine so func70 ntmps70 ?_;refine cRs (Zz a0.Vi 0 999) ?_;refine cGs (fun gg=>Zz (a0.X3.length:Int) 1 6) ?_;refine cFo f ?_ ?_<;>intro k1 h1 f
 ·have q1:=h1;try simp[ZZ]at q1
  simp;exact rt _ f
 have q1:=h1;try simp[ZZ]at q1
 simp;refine lp1 (V8.eq_2 a0) (fun J=>Yy 46 [eX 1 (a0.row.map .d),eL 26 1 a0.X3 sR,eI 27 (a0.X3.length:Int),eI 28 (J:Int)]) (fun n1 J=>a0.X3.length<n1+J/\J<=a0.X3.length) (a0.X3.length+1) 0 (fun p1 J e1 j1=>?_);refine cFf e1 ?_ ?_<;>intro k3 h2 e1
 ·have i1:=ix h2;have w1:=wr J;simp[i1,ZF];refine rpS ?_;refine gIf ?_ ?_<;>intro G
  ·have i2:=ik J a0.KS;simp[i2,ZF,G];refine rpG ?_;refine cGg (fun gg=>Zz (nth a0.KS J) 1 1000000000000) ?_;refine cKo e1 ?_ ?_<;>intro k4 h3 e1
   ·have q3:=h3;try simp[ZZ]at q3
    have f:=ms f e1;simp;refine rpG ?_;exact rtg _ f
   ·have q3:=h3;try simp[ZZ]at q3
    simp;refine rpG ?_;exact ny1 (an w1 G) e1
  ·refine sGo ?_;simp;refine rpG ?_;refine cKo e1 ?_ ?_<;>intro k5 h4 e1
   ·have q4:=h4;try simp[ZZ]at q4
    have f:=ms f e1;simp;refine rpG ?_;exact rtg _ f
   ·simp[G]at h4
 exact rt _ (ms f e1)
theorem DE(a0:List UInt8)(u0:Sm 2342912 a0):Sd 134 [rL 1 bR a0] [rL 1 iR (VK a0)]:=by
 have f:=me (VK.eq_1 a0);refine soD func134 ntmps134 ?_;refine lp2 (WN.eq_2 a0) (fun J U=>Yy 19 [(3,.one (.sref 3 0 0 J.length),[.arr false 1 (J.map iR)]),eL 6 1 a0 bR,eI 7 (a0.length:Int),eI 8 (U:Int)]) (fun n1 J U=>a0.length<n1+U/\U<=a0.length/\J.length<=0+1*U) (a0.length+1) ([]:List Int) 0 (fun p1 J U e1 j1=>?_) (h0:=wkS [((3,0),none)] []);refine cFf e1 ?_ ?_<;>intro k2 h1 e1
 ·have i1:=ix h1;have m2:=ml a0 (k2 6 _ rfl);have c1:=sl 2342912 a0 u0;have w1:=wr U;simp[i1,ZF];refine rpS ?_;exact nx2 e1 (hw:=XN [((3,0),some (16,0))] [] rfl zAe)
 exact rtD [.tmp 2] (ms f e1)
theorem uk(a0 a1:Int):Sa 207 [rI a0,rI a1] [rI (uS a0 a1)]:=by
 have f:=me (uS.eq_1 a0 a1);refine so func207 ntmps207 ?_;refine cRs (Zz a1 1 1000000000000) ?_;refine cFo f ?_ ?_<;>intro k1 h1 f
 ·have q1:=h1;try simp[ZZ]at q1
  simp;exact rt _ f
 have q1:=h1;try simp[ZZ]at q1
 simp;refine rpS ?_;exact rt _ f
theorem Ex(a0:List Int):Sa 135 [rL 1 iR a0] [rI (CJ a0)]:=by
 have f:=me (CJ.eq_1 a0);refine so func135 ntmps135 ?_;refine lp2 (Gv.eq_2 a0) (fun J U=>Yy 21 [eI 3 J,eL 6 1 a0 iR,eI 7 (a0.length:Int),eI 8 (U:Int)]) (fun n1 J U=>a0.length<n1+U/\U<=a0.length) (a0.length+1) 11 0 (fun p1 J U e1 j1=>?_);refine cFf e1 ?_ ?_<;>intro k2 h1 e1
 ·have i1:=ix h1;have m2:=ml a0 (k2 6 _ rfl);have w1:=wr U;simp[i1,ZF];refine rpS ?_;refine cRs (uk (nth a0 U) 2147483647) ?_;exact ny2 w1 e1
 exact rt _ (ms f e1)
theorem KA(a0:Int)(a1:List Int)(u0:Sm 68719476736 a1):Sa 72 [rI a0,rL 1 iR a1] [rI (Kc a0 a1)]:=by have f:=me (Kc.eq_1 a0 a1);have c1:=sl 68719476736 a1 u0;refine so func72 ntmps72 ?_;refine cRs (Ex (([7,a0]:List Int)++a1)) ?_;exact rt _ f
theorem IH(a0:Int)(a1:ByteArray)(a2:Int)(u0:Sm 2326528 a1):Sa 71 [rI a0,rS a1,rI a2] [rI (SA a0 a1 a2)]:=by have f:=me (SA.eq_1 a0 a1 a2);refine so func71 ntmps71 ?_;have c1:a1.size<=2326528:=CQ (xs u0);refine tW (s:=a1) rfl rfl rfl zAG zAG zAG zAG zAD ?_;simp;refine cRs (Yb.rd (DE a1.data.toList (by simp[XH];first|omega|(simp[ByteArray.size]at*;omega)))) ?_;refine cRs (KA a0 (([a2]:List Int)++VK a1.data.toList) zAk) ?_;exact rt _ f
theorem yN(a0:Int)(a1:ZW)(u0:Sm 2322432 a1):Sa 29 [rI a0,a1.row] [rI (Yx a0 a1)]:=by
 have f:=me (Yx.eq_1 a0 a1);refine so func29 ntmps29 ?_;refine cRs (Sq a1) ?_;refine cF f ?_ ?_<;>intro k1 h1 f
 ·exact rt [.tmp 4] f
 refine lp2 (TQ.eq_2 a0 a1) (fun J U=>Yy 37 [eI 0 a0,eX 3 (a1.row.map .d),(5,.one (.sref 5 0 0 J.length),[.arr false 1 (J.map iR)]),eL 15 1 a1.X3 sR,eI 16 (a1.X3.length:Int),eI 17 (U:Int)]) (fun n1 J U=>a1.X3.length<n1+U/\U<=a1.X3.length/\J.length<=1+1*U) (a1.X3.length+1) ([a1.Vi]:List Int) 0 (fun p1 J U e1 j1=>?_) (h0:=wkS [((5,0),some (13,0))] []);refine cFf e1 ?_ ?_<;>intro k3 h2 e1
 ·have i1:=ix h2;have m2:=ml a1.X3 (k3 15 _ rfl);have c1:=sl 2322432 a1.X3 u0;have w1:=wr U;have i2:U<a1.KS.length:=by(have:=MY (a:=a1);first|(simp_all;done)|(simp_all;omega))
  simp[i1,ZF,i2];refine rpS ?_;refine cRs (IH a0 (nth a1.X3 U) (nth a1.KS U) (sg (Zn (ZW.Hm u0)))) ?_;exact nx2 e1 (hw:=XN [((5,0),some (32,0))] [] rfl zAe)
 have c2:=sl 2322432 a1.X3 u0;have f:=ms f e1;refine cRs (KA a0 J zAM) ?_;exact rt [.tmp 4] f
theorem jI(a0:Zp):Sd 223 [a0.row] [rL 1 iR (QQ a0)]:=by have f:=me (QQ.eq_1 a0);refine soD func223 ntmps223 ?_;exact rtD [.tmp 2] f
theorem GL(a0:Int)(a1:List Int)(u0:Sm 2330624 a1):Sa 276 [rI a0,rL 1 iR a1] [rI (RO a0 a1)]:=by have f:=me (RO.eq_1 a0 a1);have c1:=sl 2330624 a1 u0;refine so func276 ntmps276 ?_;refine cRs (Ex ((([a0]:List Int)++a1)++([a0]:List Int))) ?_;exact rt _ f
theorem Fc(a0:Y6)(a1:List Int)(u0:Sm 2326528 a1):Sa 229 [a0.row,rL 1 iR a1] [rI (Oc a0 a1)]:=by have f:=me (Oc.eq_1 a0 a1);refine so func229 ntmps229 ?_;refine HV [2,3,4,5,6,0,1,7,8] mixed zAV zAV zAV ?_;have c1:=sl 2326528 a1 u0;simp;refine rpS ?_;refine cRs (GL a0.Ri (([a0.Method]:List Int)++a1) zAk) ?_;exact rt _ f
theorem U2(a0:List Y6)(a1:Int)(a2:List Int)(u0:Sm 2322432 a0)(u1:Sm 2322432 a2):Sa 151 [rL 5 Y6.row a0,rI a1,rL 1 iR a2] [rI (y8 a0 a1 a2).1,rB (y8 a0 a1 a2).2]:=by
 have f:=me (y8.eq_1 a0 a1 a2);refine so func151 ntmps151 ?_;refine cRs (Jf a0 a1) ?_;refine cFt f ?_ ?_<;>intro k1 h1 f
 ·exact rt _ f
 have i1:(YT a0 a1).toNat<a0.length:=by have:=zc a0 a1;exact il
 simp[i1,ZF];refine rpS ?_;refine cRs (Fc (nth a0 (YT a0 a1).toNat) a2 (sg u1)) ?_;exact rt _ f
theorem kj(a0:Zp):Sa 209 [a0.row] [rB (xL a0)]:=by have f:=me (xL.eq_1 a0);refine so func209 ntmps209 ?_;refine cRs (Zz a0.Key 1 99) ?_;refine cGs (fun gg=>Zz a0.Zc 1 999) ?_;refine cGs (fun gg=>Zz a0.Method 0 99) ?_;refine cGs (fun gg=>Zz a0.Org 0 99) ?_;refine cGs (fun gg=>Zz a0.VU 1 3) ?_;refine cGs (fun gg=>Zz a0.QI 0 1000000000000) ?_;refine cGs (fun gg=>Zz a0.V3 0 1000000000000) ?_;refine cGs (fun gg=>Zz a0.UF 0 1000000000000) ?_;exact rt _ f
theorem IQ(a0:List Y6)(a1:Zp)(u0:Sm 2318336 a0):Sa 139 [rL 5 Y6.row a0,a1.row] [(Xg a0 a1).1.row,rB (Xg a0 a1).2]:=by
 have f:=me (Xg.eq_1 a0 a1);refine so func139 ntmps139 ?_;refine dIs mixed ?_;refine cRs (Yb.rd (jI a1)) ?_;refine cRs (U2 a0 a1.Key (QQ a1) (sg u0) (by simp(maxDischargeDepth:=12) [jJ,ZH (m:=2322432) zAE u0];try omega)) ?_;refine cRs (kj a1) ?_;refine cF f ?_ ?_<;>intro k2 h1 f
 ·exact rt [.cell 4 46,.tmp 5] f
 exact rt [.cell 4 46,.tmp 5] f
theorem Vq(a0:Zp):Sd 140 [a0.row] [(Yo a0).row]:=by have f:=me (Yo.eq_1 a0);refine soD func140 ntmps140 ?_;refine dIs mixed ?_;refine cDs [false] (jI a0) ?_;exact rtD [.cell 2 154] f
theorem OE(a0:YO):Sd 193 [a0.row] [rL 1 iR (xv a0)]:=by have f:=me (xv.eq_1 a0);refine soD func193 ntmps193 ?_;exact rtD [.tmp 2] f
theorem Gx(a0:YO):Sd 141 [a0.row] [(Ju a0).row]:=by have f:=me (Ju.eq_1 a0);refine soD func141 ntmps141 ?_;refine dIs mixed ?_;refine cDs [false] (OE a0) ?_;exact rtD [.cell 2 154] f
theorem qp(a0:ZE)(a1:Int):Sa 26 [a0.row,rI a1] [rI (Zg a0 a1)]:=by
 have f:=me (Zg.eq_1 a0 a1);refine so func26 ntmps26 ?_;refine lp1 (kF.eq_2 a0 a1) (fun J=>Yy 21 [eI 1 a1,eL 8 16 a0.ZC ZR.row,eI 9 (a0.ZC.length:Int),eI 10 (J:Int)]) (fun n1 J=>a0.ZC.length<n1+J/\J<=a0.ZC.length) (a0.ZC.length+1) 0 (fun p1 J e1 j1=>?_);refine cFf e1 ?_ ?_<;>intro k2 h1 e1
 ·have i1:=ix h1;have m2:=ml a0.ZC (k2 8 _ rfl);have w1:=wr J;simp[i1,ZF];refine rpS ?_;refine cF e1 ?_ ?_<;>intro k3 h2 e1
  ·exact rt _ (ms f e1)
  exact ny1 w1 e1
 exact rt _ (ms f e1)
theorem Kp(a0:Int):Sa 150 [rI a0] [rB (Kd a0)]:=by have f:=me (Kd.eq_1 a0);refine so func150 ntmps150 ?_;refine cRs (Zz a0 0 10000) ?_;exact rt [.tmp 2] f
theorem GA(a0 a1:List Int):Sa 284 [rL 1 iR a0,rL 1 iR a1] [rB (Ub a0 a1)]:=by
 have f:=me (Ub.eq_1 a0 a1);refine so func284 ntmps284 ?_;refine cF f ?_ ?_<;>intro k1 h1 f
 ·exact rt _ f
 refine lp1 (WD.eq_2 a0 a1) (fun J=>Yy 26 [eL 0 1 a0 iR,eL 1 1 a1 iR,eI 12 (a0.length:Int),eI 13 (J:Int)]) (fun n1 J=>a0.length<n1+J/\J<=a0.length) (a0.length+1) 0 (fun p1 J e1 j1=>?_);refine cF e1 ?_ ?_<;>intro k3 h2 e1
 ·have i1:=ix h2;have m2:=ml a0 (k3 0 _ rfl);have w1:=wr J;refine dIo mixed ?_;have i2:=ik J a1;simp[i1,ZF,i2];refine rpS ?_;refine cF e1 ?_ ?_<;>intro k5 h3 e1
  ·exact rt _ (ms f e1)
  exact ny1 w1 e1
 exact rt _ (ms f e1)
theorem km(a0 a1:ZU):Sa 255 [a0.row,a1.row] [rB (KB a0 a1)]:=by have f:=me (KB.eq_1 a0 a1);refine so func255 ntmps255 ?_;refine cGs (fun gg=>GA a0.YM a1.YM) ?_;exact rt [.tmp 4] f
theorem WH(a0:List ZU)(a1:ZU):Sa 234 [rL 3 ZU.row a0,a1.row] [rB (K8 a0 a1)]:=by
 have f:=me (K8.eq_1 a0 a1);refine so func234 ntmps234 ?_;refine lp1 (Wv.eq_2 a0 a1) (fun J=>Yy 17 [eX 3 (a1.row.map .d),eL 7 3 a0 ZU.row,eI 8 (a0.length:Int),eI 9 (J:Int)]) (fun n1 J=>a0.length<n1+J/\J<=a0.length) (a0.length+1) 0 (fun p1 J e1 j1=>?_);refine cFf e1 ?_ ?_<;>intro k2 h1 e1
 ·have i1:=ix h1;have m2:=ml a0 (k2 7 _ rfl);have w1:=wr J;simp[i1,ZF];refine rpS ?_;refine cRs (km (nth a0 J) a1) ?_;refine cF e1 ?_ ?_<;>intro k3 h2 e1
  ·exact rt _ (ms f e1)
  exact ny1 w1 e1
 exact rt _ (ms f e1)
theorem TZ(a0:ZX):Sa 161 [a0.row] [rB (Xv a0)]:=by
 have f:=me (Xv.eq_1 a0);refine so func161 ntmps161 ?_;refine cRs (Zz (a0.ZM.length:Int) 1 12) ?_;refine cFo f ?_ ?_<;>intro k1 h1 f
 ·have q1:=h1;try simp[ZZ]at q1
  simp;exact rt _ f
 have q1:=h1;try simp[ZZ]at q1
 simp;refine lp1 (kD.eq_2 a0) (fun J=>Yy 65 [eX 1 (a0.row.map .d),eL 19 3 a0.ZM ZU.row,eI 20 (a0.ZM.length:Int),eI 21 (J:Int)]) (fun n1 J=>a0.ZM.length<n1+J/\J<=a0.ZM.length) (a0.ZM.length+1) 0 (fun p1 J e1 j1=>?_);refine cFf e1 ?_ ?_<;>intro k3 h2 e1
 ·have i1:=ix h2;have w1:=wr J;simp[i1,ZF];refine rpS ?_;refine dIs mixed ?_;refine cRs (WH (a0.ZM.take J) (nth a0.ZM J)) ?_;refine cF e1 ?_ ?_<;>intro k5 h3 e1
  ·exact rt _ (ms f e1)
  exact ny1 w1 e1
 have f:=ms f e1;refine lp1 (jn.eq_2 a0) (fun nc=>Yy 65 [eX 1 (a0.row.map .d),eL 34 5 a0.ZQ Ze.row,eI 35 (a0.ZQ.length:Int),eI 36 (nc:Int)]) (fun n2 nc=>a0.ZQ.length<n2+nc/\nc<=a0.ZQ.length) (a0.ZQ.length+1) 0 (fun p2 nc e2 j2=>?_);refine cFf e2 ?_ ?_<;>intro k7 h4 e2
 ·have i2:=ix h4;have w2:=wr nc;simp[i2,ZF];refine rpS ?_;refine dIs mixed ?_;refine cRs (Zz (nth a0.ZQ nc).Count 1 (a0.ZM.length:Int)) ?_;refine gIf ?_ ?_<;>intro G
  ·have i3:=ik (nc-1) a0.ZQ;have w3:IntKind.i64.wrap ((nc:Int)-1)=(nc:Int)-1:=YZ zAD zAD;simp[i3,ZF,w3,G];refine rpG ?_;refine cKo e2 ?_ ?_<;>intro k9 h5 e2
   ·have q5:=h5;try simp[ZZ]at q5
    have f:=ms f e2;simp;refine rpG ?_;exact rtg _ f
   ·have q5:=h5;try simp[ZZ]at q5
    simp;refine rpG ?_;exact ny1 (an w2 (an w3 G)) e2
  ·refine cKo e2 ?_ ?_<;>intro cS h6 e2
   ·have q6:=h6;try simp[ZZ]at q6
    have f:=ms f e2;simp;refine rpG ?_;exact rtg _ f
   ·have q6:=h6;try simp[ZZ]at q6
    simp;refine rpG ?_;exact ny1 (an w2 G) e2
 exact rt _ (ms f e2)
theorem LY(a0:ZR):Sa 195 [a0.row] [rB (Jy a0)]:=by
 have f:=me (Jy.eq_1 a0);refine so func195 ntmps195 ?_;refine dIs mixed ?_;refine cRs (Zz a0.Id 1 999) ?_;refine cGs (fun gg=>Kp a0.XI) ?_;refine cGs (fun gg=>Sq a0.Doc) ?_;refine cGs (fun gg=>TZ a0.ZK) ?_;refine gIf ?_ ?_<;>intro G
 ·have g1:=G;try simp[ZZ]at g1
  have i1:0<a0.ZK.ZM.length:=by have:=HY (a:=a0.ZK);simp_all
  simp[i1,ZF,G];refine rpG ?_;refine cGg (fun gg=>Yb.rd (Vq a0.Sig)) ?_;refine cGg (fun gg=>km (nth a0.ZK.ZM 0) (Yo a0.Sig)) ?_;exact rtg _ f
 ·refine sGo ?_;simp;refine rpG ?_;refine sGo ?_;simp;refine rpG ?_;exact rtg _ f
theorem xt(a0:ZE):Sa 121 [a0.row] [rB (Y7 a0)]:=by
 have f:=me (Y7.eq_1 a0);refine so func121 ntmps121 ?_;refine lp1 (WA.eq_2 a0) (fun J=>Yy 42 [eX 1 (a0.row.map .d),eL 6 16 a0.ZC ZR.row,eI 7 (a0.ZC.length:Int),eI 8 (J:Int)]) (fun n1 J=>a0.ZC.length<n1+J/\J<=a0.ZC.length) (a0.ZC.length+1) 0 (fun p1 J e1 j1=>?_);refine cFf e1 ?_ ?_<;>intro k2 h1 e1
 ·have i1:=ix h1;have m2:=ml a0.ZC (k2 6 _ rfl);have w1:=wr J;simp[i1,ZF];refine rpS ?_;refine dIs mixed ?_;refine cRs (LY (nth a0.ZC J)) ?_;refine gIf ?_ ?_<;>intro G
  ·have i2:=ik (J-1) a0.ZC;have w2:IntKind.i64.wrap ((J:Int)-1)=(J:Int)-1:=YZ zAD zAD;simp[i2,ZF,w2,G];refine rpG ?_;refine cK e1 ?_ ?_<;>intro k4 h2 e1
   ·exact rtg _ (ms f e1)
   ·exact ny1 (an w1 (an w2 G)) e1
  ·refine cK e1 ?_ ?_<;>intro k5 h3 e1
   ·exact rtg _ (ms f e1)
   ·exact ny1 (an w1 G) e1
 have f:=ms f e1;refine cRs (Zz a0.Id 0 99) ?_;exact rt _ f
theorem NP(a0:ZE)(a1:ZR)(u0:Sm 2318336 a0)(u1:Sm 2318336 a1):Sd 142 [a0.row,a1.row] [(Yr a0 a1).1.row,rB (Yr a0 a1).2]:=by
 have f:=me (Yr.eq_1 a0 a1);refine soD func142 ntmps142 ?_;refine cRs (qp a0 a1.Id) ?_;refine cGs (fun gg=>xt a0) ?_;refine cF f ?_ ?_<;>intro k1 h1 f
 ·refine cDs [] (Yl a0 (sg u0)) ?_;exact rtD [.cell 4 55,.tmp 5] f
 refine cDs [] (Yl a0 (sg u0)) ?_;refine lp1 (Ul.eq_2 a0 a1) (fun J=>Yy 62 [eX 2 (a0.row.map .d),eX 3 (a1.row.map .d),(4,.one (.bptr 4 0),[.box [.d (.int .i64 0),.nil 16]]),(6,.one (.bptr 6 0),[.box [.d (.int .i64 a0.Id),.sref 21 1 0 a0.ZC.length]]),eI 7 (J:Int),(21,.any,[.none,.arr true 16 (a0.ZC.map ZR.row)])]) (fun n1 J=>a0.ZC.length<n1+J/\J<=a0.ZC.length) (a0.ZC.length+1) 0 (fun p1 J e1 j1=>?_);refine dIs mixed ?_;refine gIf ?_ ?_<;>intro G
 ·have i1:=ik J a0.ZC;simp[i1,ZF,G];refine rpG ?_;refine cK e1 ?_ ?_<;>intro k4 h2 e1
  ·try(simp[G]at h2;done)
   all_goals
    have i2:J<a0.ZC.length:=by(simp at h2;omega)
    have m2:=ml a0.ZC (k4 24 _ rfl);have c1:=sl 2318336 a0.ZC (an u0 u1);have w1:=wr J;exact ny1 (an w1 G) e1
  ·try(simp[G]at h2;done)
   all_goals
    have c2:=sl 2318336 a0.ZC (an u0 u1);have f:=ms f e1;refine wR [(3,3),(6,6),(41,6),(50,6),(55,6)] [] [45,49,54] mixed zAV zAV zAV zAV zAV zAV zAV ?_;simp[G];refine rpG ?_;refine jg ?_;simp[G];refine rpG ?_;refine tX (ng:=([]:List ZR).map ZR.row) (rows:=a0.ZC.map ZR.row) (news:=(a0.ZC.take J).map ZR.row) (l1:=[(40,0)]) (size:=16) (u:=21) (j:=1) (lo:=0) (n:=J) rfl rfl rfl rfl zAG zAG zAG zAG zAG zAG zAv (by simp[cut]) zAG zAv ?_;simp[G];refine rpG ?_;refine cDg [true,true,true,false,false] (qE a1 (sg u1)) ?_;refine jg ?_;have c3:=sl 2318336 (a0.ZC.take J) (an u0 u1);simp[G];refine rpG ?_;refine kX (ng:=(a0.ZC.take J).map ZR.row) (news:=([a1]:List ZR).map ZR.row) (l1:=[(45,0)]) (l2:=[(47,3),(47,4),(47,14),(47,15)]) (size:=16) ?_;simp[G];refine rpG ?_;refine tX (ng:=(a0.ZC.take J++([a1]:List ZR)).map ZR.row) (rows:=JY (a0.ZC.map ZR.row) 0 J) (news:=(a0.ZC.drop J).map ZR.row) (l1:=[(49,0)]) (size:=16) (u:=21) (j:=1) (lo:=J) (n:=a0.ZC.length-J) rfl rfl rfl rfl zAG zAG zAG zAG zAG zAG zBe ((LG zAv zAv).trans (Rm _ _ _)) zAG zAv ?_;simp[G];refine rpG ?_;refine cRg (xt (ZE.mk a0.Id ((a0.ZC.take J++([a1]:List ZR))++a0.ZC.drop J))) ?_;refine cK f ?_ ?_<;>intro k6 h3 f
    ·try(simp[G]at h3;done)
     all_goals
      refine cDg [] (Yl a0 (sg u0)) ?_;exact z9 [.cell 4 55,.tmp 5] f
    ·try(simp[G]at h3;done)
     all_goals
      exact z9 [.cell 4 55,.tmp 5] f
 ·refine cK e1 ?_ ?_<;>intro k7 h4 e1
  ·try(simp[G]at h4;done)
   all_goals
    have i4:J<a0.ZC.length:=by(simp at h4;omega)
    have m4:=ml a0.ZC (k7 24 _ rfl);have c4:=sl 2318336 a0.ZC (an u0 u1);have w2:=wr J;exact ny1 (an w2 G) e1
  ·try(simp[G]at h4;done)
   all_goals
    have c5:=sl 2318336 a0.ZC (an u0 u1);have f:=ms f e1;refine wR [(3,3),(6,6),(41,6),(50,6),(55,6)] [] [45,49,54] mixed zAV zAV zAV zAV zAV zAV zAV ?_;simp[G];refine rpG ?_;refine jg ?_;simp[G];refine rpG ?_;refine tX (ng:=([]:List ZR).map ZR.row) (rows:=a0.ZC.map ZR.row) (news:=(a0.ZC.take J).map ZR.row) (l1:=[(40,0)]) (size:=16) (u:=21) (j:=1) (lo:=0) (n:=J) rfl rfl rfl rfl zAG zAG zAG zAG zAG zAG zAv (by simp[cut]) zAG zAv ?_;simp[G];refine rpG ?_;refine cDg [true,true,true,false,false] (qE a1 (sg u1)) ?_;refine jg ?_;have c6:=sl 2318336 (a0.ZC.take J) (an u0 u1);simp[G];refine rpG ?_;refine kX (ng:=(a0.ZC.take J).map ZR.row) (news:=([a1]:List ZR).map ZR.row) (l1:=[(45,0)]) (l2:=[(47,3),(47,4),(47,14),(47,15)]) (size:=16) ?_;simp[G];refine rpG ?_;refine tX (ng:=(a0.ZC.take J++([a1]:List ZR)).map ZR.row) (rows:=JY (a0.ZC.map ZR.row) 0 J) (news:=(a0.ZC.drop J).map ZR.row) (l1:=[(49,0)]) (size:=16) (u:=21) (j:=1) (lo:=J) (n:=a0.ZC.length-J) rfl rfl rfl rfl zAG zAG zAG zAG zAG zAG zBe ((LG zAv zAv).trans (Rm _ _ _)) zAG zAv ?_;simp[G];refine rpG ?_;refine cRg (xt (ZE.mk a0.Id ((a0.ZC.take J++([a1]:List ZR))++a0.ZC.drop J))) ?_;refine cK f ?_ ?_<;>intro k9 h5 f
    ·try(simp[G]at h5;done)
     all_goals
      refine cDg [] (Yl a0 (sg u0)) ?_;exact z9 [.cell 4 55,.tmp 5] f
    ·try(simp[G]at h5;done)
     all_goals
      exact z9 [.cell 4 55,.tmp 5] f
theorem P1(a0:ZG)(a1 a2:Int)(a3:ZW)(a4 a5:Int)(u0:Sm 2314240 a0)(u1:Sm 2314240 a3):Sa 77 [a0.row,rI a1,rI a2,a3.row,rI a4,rI a5] [(Xa a0 a1 a2 a3 a4 a5).1.row,rB (Xa a0 a1 a2 a3 a4 a5).2]:=by
 have f:=me (Xa.eq_1 a0 a1 a2 a3 a4 a5);refine so func77 ntmps77 ?_;refine cRs (jA a0.Frame.Methods a0.Frame.Now) ?_;refine cRs (yO a0 a1) ?_;refine cGs (fun gg=>Jf a0.Frame.Z0 a2) ?_;have c1:=sl 2314240 a0.ZB (an u0 u1);have w1:IntKind.i64.wrap ((a0.ZB.length:Int)-1)=(a0.ZB.length:Int)-1:=YZ zAD zAD;refine cFo f ?_ ?_<;>intro k1 h1 f
 ·have q1:=h1;try simp[w1,Yt,ZZ]at q1
  simp;exact rt [.cell 12 33,.tmp 13] f
 have q1:=h1;try simp[w1,Yt,ZZ]at q1
 simp;refine lp1 (Jh.eq_2 a0 a1 a2 a3 a4 a5) (fun J=>Yy 116 [eI 1 a1,eI 2 a2,eI 4 a4,eI 5 a5,eX 6 (a0.row.map .d),eX 9 (a3.row.map .d),(12,.one (.bptr 12 0),[.box [.nil 5,.nil 3,.nil 4,.d (.int .i64 0),.d (.int .i64 0),.nil 7,.nil 1,.nil 2,.nil 1,.nil 1,.d (.int .i64 0),.nil 1]]),eX 14 (a0.Frame.row.map .d),eI 15 (ZY a0.Frame.Methods a0.Frame.Now),eL 48 7 a0.Zf YO.row,eI 49 (a0.Zf.length:Int),eI 50 (J:Int)]) (fun n1 J=>a0.Zf.length<n1+J/\J<=a0.Zf.length) (a0.Zf.length+1) 0 (fun p1 J e1 j1=>?_);refine cFf e1 ?_ ?_<;>intro k3 h2 e1
 ·have i1:=ix h2;have m2:=ml a0.Zf (k3 48 _ rfl);have c2:=sl 2314240 a0.Zf (an u0 u1);have w2:=wr J;simp[i1,ZF];refine rpS ?_;refine cF e1 ?_ ?_<;>intro k4 h3 e1
  ·exact ny1 (an w1 w2) e1
  refine dIs mixed ?_;refine cRs (yN (ZY a0.Frame.Methods a0.Frame.Now) a3 (sg u1)) ?_;refine cRs (IQ a0.Frame.Z0 (Zp.mk a2 (nth a0.Zf J).Zc (ZY a0.Frame.Methods a0.Frame.Now) (Yx (ZY a0.Frame.Methods a0.Frame.Now) a3) 1 a4 0 0 0) (sg (Zb.Xd (ZG.Xk u0)))) ?_;refine dIs mixed ?_;refine cRs (Yb.rd (Vq (Xg a0.Frame.Z0 (Zp.mk a2 (nth a0.Zf J).Zc (ZY a0.Frame.Methods a0.Frame.Now) (Yx (ZY a0.Frame.Methods a0.Frame.Now) a3) 1 a4 0 0 0)).1)) ?_;refine cRs (Yb.rd (Gx (nth a0.Zf J))) ?_;refine eIs ?_;refine dIo mixed ?_;have i2:=ik a1.toNat a0.ZB
  simp[i2,ZF];refine rpS ?_;refine cDs [] (NP (nth a0.ZB a1.toNat) (ZR.mk a0.Next a5 a3 (Xg a0.Frame.Z0 (Zp.mk a2 (nth a0.Zf J).Zc (ZY a0.Frame.Methods a0.Frame.Now) (Yx (ZY a0.Frame.Methods a0.Frame.Now) a3) 1 a4 0 0 0)).1 (ZX.mk ([Yo (Xg a0.Frame.Z0 (Zp.mk a2 (nth a0.Zf J).Zc (ZY a0.Frame.Methods a0.Frame.Now) (Yx (ZY a0.Frame.Methods a0.Frame.Now) a3) 1 a4 0 0 0)).1,Ju (nth a0.Zf J)]:List ZU) ([]:List Ze))) (sg (Zn (ZG.Z5 u0))) (by simp(maxDischargeDepth:=12) [Tx,XH,RG,Yz,ZH (m:=2318336) zAE u0,ZH (m:=2318336) zAE u1];try omega)) ?_;refine cF e1 ?_ ?_<;>intro k8 h4 e1
  ·exact rt [.cell 12 33,.tmp 13] (ms f e1)
  refine cDf i2 [false,false,false,true,true,false,false,true,false,false,true,false] (YQ a0 (sg u0)) ?_;refine N4 (t:=103) (j:=7) (i:=a1.toNat) (size:=2) (rows:=a0.ZB.map ZE.row) (ds:=(Yr (nth a0.ZB a1.toNat) (ZR.mk a0.Next a5 a3 (Xg a0.Frame.Z0 (Zp.mk a2 (nth a0.Zf J).Zc (ZY a0.Frame.Methods a0.Frame.Now) (Yx (ZY a0.Frame.Methods a0.Frame.Now) a3) 1 a4 0 0 0)).1 (ZX.mk ([Yo (Xg a0.Frame.Z0 (Zp.mk a2 (nth a0.Zf J).Zc (ZY a0.Frame.Methods a0.Frame.Now) (Yx (ZY a0.Frame.Methods a0.Frame.Now) a3) 1 a4 0 0 0)).1,Ju (nth a0.Zf J)]:List ZU) ([]:List Ze)))).1.row) (L:=[(92,1)]) ?_;have f:=ms f e1
  simp[Kh (x:=(Yr (nth a0.ZB a1.toNat) (ZR.mk a0.Next a5 a3 (Xg a0.Frame.Z0 (Zp.mk a2 (nth a0.Zf J).Zc (ZY a0.Frame.Methods a0.Frame.Now) (Yx (ZY a0.Frame.Methods a0.Frame.Now) a3) 1 a4 0 0 0)).1 (ZX.mk ([Yo (Xg a0.Frame.Z0 (Zp.mk a2 (nth a0.Zf J).Zc (ZY a0.Frame.Methods a0.Frame.Now) (Yx (ZY a0.Frame.Methods a0.Frame.Now) a3) 1 a4 0 0 0)).1,Ju (nth a0.Zf J)]:List ZU) ([]:List Ze)))).1) rfl,c1,i2,ZF,XT];refine rpS ?_;exact rt [.cell 12 33,.tmp 13] f
 exact rt [.cell 12 33,.tmp 13] (ms f e1)
theorem Fh(a0:ZG)(a1 a2:Int)(a3:ZW)(a4 a5:Int)(u0:Sm 2310144 a0)(u1:Sm 2310144 a3):Sd 32 [a0.row,rI a1,rI a2,a3.row,rI a4,rI a5] [(J2 a0 a1 a2 a3 a4 a5).1.row,rB (J2 a0 a1 a2 a3 a4 a5).2]:=by
 have f:=me (J2.eq_1 a0 a1 a2 a3 a4 a5);refine soD func32 ntmps32 ?_;refine cRs (Jf a0.Frame.Z0 a2) ?_;refine dIs mixed ?_;refine gIf ?_ ?_<;>intro G
 ·have i1:(YT a0.Frame.Z0 a2).toNat<a0.Frame.Z0.length:=by have:=zc a0.Frame.Z0 a2;exact il
  simp[i1,ZF,G];refine rpG ?_;refine cK f ?_ ?_<;>intro k2 h1 f
  ·refine cDg [false,false,false,true,true,false,false,true,false,false,true,false] (YQ a0 zAj) ?_;exact z9 _ f
  ·refine cRg (P1 a0 a1 a2 a3 a4 a5 (sg u0) (sg u1)) ?_;refine cDg [false,false,false,true,true,false,false,true,false,false,true,false] (YQ (Xa a0 a1 a2 a3 a4 a5).1 zA5) ?_;exact z9 _ f
 ·refine cK f ?_ ?_<;>intro k3 h2 f
  ·refine cDg [false,false,false,true,true,false,false,true,false,false,true,false] (YQ a0 zAj) ?_;exact z9 _ f
  ·simp[G]at h2
theorem jX(a0:ZG)(a1:Int):Sa 11 [a0.row,rI a1] [rI (ZO a0 a1).1,rI (ZO a0 a1).2]:=by
 have f:=me (ZO.eq_1 a0 a1);refine so func11 ntmps11 ?_;refine lp1 (kZ.eq_2 a0 a1) (fun J=>Yy 25 [eI 1 a1,eL 10 2 a0.ZB ZE.row,eI 11 (a0.ZB.length:Int),eI 12 (J:Int)]) (fun n1 J=>a0.ZB.length<n1+J/\J<=a0.ZB.length) (a0.ZB.length+1) 0 (fun p1 J e1 j1=>?_);refine cFf e1 ?_ ?_<;>intro k2 h1 e1
 ·have i1:=ix h1;have m2:=ml a0.ZB (k2 10 _ rfl);have w1:=wr J;simp[i1,ZF];refine rpS ?_;refine cRs (qp (nth a0.ZB J) a1) ?_;refine cF e1 ?_ ?_<;>intro k3 h2 e1
  ·exact rt _ (ms f e1)
  exact ny1 w1 e1
 exact rt _ (ms f e1)
theorem Kz(a0:ZU):Sa 224 [a0.row] [rI (Y0 a0)]:=by
 have f:=me (Y0.eq_1 a0);refine so func224 ntmps224 ?_;refine dIs mixed ?_;refine gIf ?_ ?_<;>intro G
 ·have i1:=ik 0 a0.YM;simp[i1,ZF,G];refine rpG ?_;refine cGg (fun gg=>Zz (nth a0.YM 0) 101 105) ?_;refine gJf G ?_ ?_<;>intro G
  ·all_goals
    have g2:=G.2;try simp[ZZ]at g2
    all_goals
     simp[i1,ZF,G];refine rpG ?_;refine gK (fun _=>?_);have r1:∀i:Nat,i<5->cut [At.d (.int .i64 7),At.d (.int .i64 5),At.d (.int .i64 5),At.d (.int .i64 9),At.d (.int .i64 6)] i 1=[At.d (.int .i64 (nth ([7,5,5,9,6]:List Int) i))]:=zBA
     have i2:(W (nth a0.YM 0-101)).toNat<5:=by first|omega|((try simp only[Yw]at*);omega)
     have r1b:=r1 _ i2;simp only[cut]at r1b;simp[r1b];refine rpG ?_;refine cKo f ?_ ?_<;>intro k2 h1 f
     ·have q1:=h1;try simp[ZZ]at q1
      simp;refine rpG ?_;exact rtg _ f
     ·have q1:=h1;try simp[ZZ]at q1
      simp[i1,ZF];refine rpG ?_;exact rtg _ f
  ·all_goals
    refine sGg ?_;refine cKo f ?_ ?_<;>intro k3 h2 f
    ·have q2:=h2;try simp[ZZ]at q2
     simp;refine rpG ?_;exact rtg _ f
    ·simp[G]at h2
 ·refine sGo ?_;simp;refine rpG ?_;refine gJf G ?_ ?_<;>intro G
  ·try(simp at G;done)
   all_goals
    have g3:=G.2;try simp[ZZ]at g3
    all_goals
     have i5:=ik 0 a0.YM;simp[i5,ZF,G];refine rpG ?_;refine gK (fun _=>?_);have r3:∀i:Nat,i<5->cut [At.d (.int .i64 7),At.d (.int .i64 5),At.d (.int .i64 5),At.d (.int .i64 9),At.d (.int .i64 6)] i 1=[At.d (.int .i64 (nth ([7,5,5,9,6]:List Int) i))]:=zBA;have i6:(W (nth a0.YM 0-101)).toNat<5:=by first|omega|((try simp only[Yw,show ∀x,IntKind.i64.wrap x=W x from fun _=>rfl]at*);omega)
     have r3b:=r3 _ i6;simp only[cut]at r3b;simp[r3 _ i6,r3b,G];refine rpG ?_;refine cKo f ?_ ?_<;>intro k4 h3 f
     ·simp[G]at h3
     ·simp[G]at h3
  ·all_goals
    refine sGg ?_;refine cKo f ?_ ?_<;>intro k5 h4 f
    ·have q4:=h4;try simp[ZZ]at q4
     simp;refine rpG ?_;exact rtg _ f
    ·simp[G]at h4
theorem UB(a0:ZU):Sa 143 [a0.row] [(YK a0).1.row,rB (YK a0).2]:=by
 have f:=me (YK.eq_1 a0);refine so func143 ntmps143 ?_;refine dIs mixed ?_;refine cRs (Kz a0) ?_;refine gIf ?_ ?_<;>intro G
 ·have l3:=G;have g1:=G;try simp at g1
  have i1:6<a0.YM.length:=zAJ;simp[i1,ZF,G];refine rpG ?_;refine cK f ?_ ?_<;>intro k2 h1 f
  ·try(simp[G]at h1;done)
   all_goals
    exact rtg [.cell 2 124,.tmp 3] f
  ·try(simp[G]at h1;done)
   all_goals
    refine dIo mixed ?_;have i2:1<a0.YM.length:=zAJ
    have i3:2<a0.YM.length:=zAJ;have i4:3<a0.YM.length:=zAJ;have i5:4<a0.YM.length:=zAJ;have i6:5<a0.YM.length:=zAJ;simp[i2,ZF,i3,i4,i5,i6,i1,G];refine rpG ?_;exact rtg [.cell 2 124,.tmp 3] f
 ·have l3:=G;refine cK f ?_ ?_<;>intro k4 h2 f
  ·try(simp[G]at h2;done)
   all_goals
    exact rtg [.cell 2 124,.tmp 3] f
  ·try(simp[G]at h2;done)
   all_goals
    refine dIo mixed ?_;have i8:1<a0.YM.length:=zAJ
    have i9:2<a0.YM.length:=zAJ;have i10:3<a0.YM.length:=zAJ;have i11:4<a0.YM.length:=zAJ;have i12:5<a0.YM.length:=zAJ;have i13:6<a0.YM.length:=zAJ;simp[i8,ZF,i9,i10,i11,i12,i13,G];refine rpG ?_;exact rtg [.cell 2 124,.tmp 3] f
theorem F1(a0:List YO)(a1:Int):Sa 120 [rL 7 YO.row a0,rI a1] [rI (jG a0 a1)]:=by
 have f:=me (jG.eq_1 a0 a1);refine so func120 ntmps120 ?_;refine lp1 (Wu.eq_2 a0 a1) (fun J=>Yy 20 [eI 1 a1,eL 7 7 a0 YO.row,eI 8 (a0.length:Int),eI 9 (J:Int)]) (fun n1 J=>a0.length<n1+J/\J<=a0.length) (a0.length+1) 0 (fun p1 J e1 j1=>?_);refine cFf e1 ?_ ?_<;>intro k2 h1 e1
 ·have i1:=ix h1;have m2:=ml a0 (k2 7 _ rfl);have w1:=wr J;simp[i1,ZF];refine rpS ?_;refine cF e1 ?_ ?_<;>intro k3 h2 e1
  ·exact rt _ (ms f e1)
  exact ny1 w1 e1
 exact rt _ (ms f e1)
theorem PE(h:b)(k:a:=by(intros;first|omega|with_unfolding_all (first|first|omega|(have fi:=Ym a0 a1 zAZ;omega)|(simp only[Bool.or_eq_false_iff,decide_eq_false_iff_not]at*;omega))|(simp_all;done)|(simp_all;omega)|grind|((try simp only[Yw,show ∀x,IntKind.i64.wrap x=W x from fun _=>rfl]at*);omega))):a/\b:=⟨k,h⟩
theorem Ld(a0:ZG)(a1:Int):Sa 78 [a0.row,rI a1] [rI (YW a0 a1).1,rI (YW a0 a1).2.1,rB (YW a0 a1).2.2]:=by
 have f:=me (YW.eq_1 a0 a1);refine so func78 ntmps78 ?_;refine cRs (jX a0 a1) ?_;refine gIo ?_ ?_<;>intro G
 ·have g1:=G;try simp at g1
  have i1:(ZO a0 a1).1.toNat<a0.ZB.length:=zAl;simp[i1,ZF,G];repeat with_reducible refine PE ?_
  refine gK (fun _=>?_);have i2:(ZO a0 a1).2.toNat<(nth a0.ZB (ZO a0 a1).1.toNat).ZC.length:=zAl
  simp[i2,ZF];repeat with_reducible refine PE ?_
  refine cKo f ?_ ?_<;>intro k1 h1 f
  ·simp;exact rtg _ f
  ·have i3:1<(nth (nth a0.ZB (ZO a0 a1).1.toNat).ZC (ZO a0 a1).2.toNat).ZK.ZM.length:=zAl;simp[i1,ZF,i2,i3];repeat with_reducible refine PE ?_
   refine cR (UB (nth (nth (nth a0.ZB (ZO a0 a1).1.toNat).ZC (ZO a0 a1).2.toNat).ZK.ZM 1)) ?_;simp;refine cR (F1 a0.Zf (YK (nth (nth (nth a0.ZB (ZO a0 a1).1.toNat).ZC (ZO a0 a1).2.toNat).ZK.ZM 1)).1.Zc) ?_;simp;exact rtg _ f
 ·simp[G];refine sGo ?_;simp;refine cKo f ?_ ?_<;>intro k2 h2 f
  ·simp;exact rtg _ f
  ·simp[G]at h2
theorem Ss(a0:Zs):Sd 225 [a0.row] [rL 1 iR (Kg a0)]:=by have f:=me (Kg.eq_1 a0);refine soD func225 ntmps225 ?_;exact rtD [.tmp 2] f
theorem F7(a0:Zs):Sa 226 [a0.row] [rB (SE a0)]:=by have f:=me (SE.eq_1 a0);refine so func226 ntmps226 ?_;refine cRs (Zz a0.Zc 1 999) ?_;refine cGs (fun gg=>Kp a0.xP) ?_;refine cGs (fun gg=>Zz a0.Zy (-1) (W (a0.xP+1))) ?_;refine cGs (fun gg=>Zz a0.YA 1 99) ?_;exact rt _ f
theorem Ib(a0:List Y6)(a1:Zs)(u0:Sm 2318336 a0):Sa 144 [rL 5 Y6.row a0,a1.row] [(XS a0 a1).1.row,rB (XS a0 a1).2]:=by
 have f:=me (XS.eq_1 a0 a1);refine so func144 ntmps144 ?_;refine dIs mixed ?_;refine cRs (Yb.rd (Ss a1)) ?_;refine cRs (U2 a0 a1.YA (Kg a1) (sg u0) (by simp(maxDischargeDepth:=12) [Sv,ZH (m:=2322432) zAE u0];try omega)) ?_;refine cRs (F7 a1) ?_;refine cF f ?_ ?_<;>intro k2 h1 f
 ·exact rt [.cell 4 127,.tmp 5] f
 exact rt [.cell 4 127,.tmp 5] f
theorem MN(a0:Zs):Sd 146 [a0.row] [(XX a0).row]:=by have f:=me (XX.eq_1 a0);refine soD func146 ntmps146 ?_;refine dIs mixed ?_;refine cDs [false] (Ss a0) ?_;exact rtD [.cell 2 154] f
theorem Fi(a0:ZX)(a1:ZU)(u0:Sm 2326528 a0)(u1:Sm 2326528 a1):Sd 227 [a0.row,a1.row] [(J3 a0 a1).1.row,rB (J3 a0 a1).2]:=by
 have f:=me (J3.eq_1 a0 a1);refine soD func227 ntmps227 ?_;refine cDs [] (K1 a0 (sg u0)) ?_;refine drJ [14] mixed ?_;simp;refine cDs [true,false] (qt a1 (sg u1)) ?_;refine jg ?_;have c1:=sl 2326528 a0.ZM (an u0 u1);simp;refine kX (ng:=a0.ZM.map ZU.row) (news:=([a1]:List ZU).map ZU.row) (l1:=[(8,0)]) (l2:=[(12,1)]) (size:=3) ?_;simp;refine cRs (TZ (ZX.mk (a0.ZM++([a1]:List ZU)) a0.ZQ)) ?_;refine cF f ?_ ?_<;>intro k2 h1 f
 ·refine cDs [] (K1 a0 (sg u0)) ?_;exact rtD [.cell 4 50,.tmp 5] f
 exact rtD [.cell 4 50,.tmp 5] f
theorem Gr(a0:ZE)(a1:Int)(a2:ZU)(u0:Sm 2318336 a0)(u1:Sm 2318336 a2):Sd 145 [a0.row,rI a1,a2.row] [(Jv a0 a1 a2).1.row,rB (Jv a0 a1 a2).2]:=by
 have f:=me (Jv.eq_1 a0 a1 a2);refine soD func145 ntmps145 ?_;refine cDs [] (Yl a0 (sg u0)) ?_;refine cRs (qp a0 a1) ?_;refine cF f ?_ ?_<;>intro k1 h1 f
 ·exact rtD [.cell 6 55,.tmp 7] f
 refine dIo mixed ?_;have i1:(Zg a0 a1).toNat<a0.ZC.length:=by have:=KE a0 a1;exact il
 simp[i1,ZF];refine rpS ?_;refine cDf i1 [] (Fi (nth a0.ZC (Zg a0 a1).toNat).ZK a2 (sg (ZR.Yv (Zn (ZE.YC u0)))) (sg u1)) ?_;refine sN (t:=13) (j:=1) (i:=(Zg a0 a1).toNat) (c:=14) (size:=16) (rows:=a0.ZC.map ZR.row) (ds:=(J3 (nth a0.ZC (Zg a0 a1).toNat).ZK a2).1.row) (L:=[(28,0),(28,1)]) rfl rfl rfl rfl zAG zAG (by simp;try omega) zAG zAG zAG zAG zAG zAG ?_;simp[Kh (x:=ZR.mk (nth a0.ZC (Zg a0 a1).toNat).Id (nth a0.ZC (Zg a0 a1).toNat).XI (nth a0.ZC (Zg a0 a1).toNat).Doc (nth a0.ZC (Zg a0 a1).toNat).Sig (J3 (nth a0.ZC (Zg a0 a1).toNat).ZK a2).1) rfl,i1,ZF,XT];refine rpS ?_;exact rtD [.cell 6 55,.tmp 7] f
theorem TC(a0:ZG)(a1 a2:Int)(a3:Zs)(u0:Sm 2314240 a0)(u1:0<=a1/\a1<(a0.ZB.length:Int)):Sd 79 [a0.row,rI a1,rI a2,a3.row] [(JI a0 a1 a2 a3).1.row,rB (JI a0 a1 a2 a3).2]:=by
 have f:=me (JI.eq_1 a0 a1 a2 a3);refine soD func79 ntmps79 ?_;refine cRs (Ib a0.Frame.Z0 a3 (sg (Zb.Xd (ZG.Xk u0)))) ?_;refine dIo mixed ?_;have i1:=ik a1.toNat a0.ZB;simp[i1,ZF];refine rpS ?_;refine cRs (Yb.rd (MN (XS a0.Frame.Z0 a3).1)) ?_;refine cDs [] (Gr (nth a0.ZB a1.toNat) a2 (XX (XS a0.Frame.Z0 a3).1) (sg (Zn (ZG.Z5 u0))) (by simp(maxDischargeDepth:=12) [Tv,ZH (m:=2318336) zAE u0];try omega)) ?_;refine cDs [false,false,false,true,true,false,false,true,false,false,true,false] (YQ a0 (sg u0)) ?_;refine cFt f ?_ ?_<;>intro k2 h1 f
 ·exact rtD [.cell 8 33,.tmp 9] f
 simp;refine rpS ?_;refine N4 (t:=36) (j:=7) (i:=a1.toNat) (size:=2) (rows:=a0.ZB.map ZE.row) (ds:=(Jv (nth a0.ZB a1.toNat) a2 (XX (XS a0.Frame.Z0 a3).1)).1.row) (L:=[(32,1)]) ?_;simp;refine rpS ?_;exact rtD [.cell 8 33,.tmp 9] f
theorem IP(h:b)(k:a:=by(intros;first|omega|with_unfolding_all (first|first|omega|(have z:=Qd a0 a1 zBj;(try simp at*);omega))|((try simp only[Yw,show ∀x,IntKind.i64.wrap x=W x from fun _=>rfl]at*);omega))):a/\b:=⟨k,h⟩
theorem qu(h:b)(k:a:=by(intros;first|omega|with_unfolding_all (first|first|omega|(have z:=Qd a0 a1 zBj;(try simp at*);omega))|(simp_all;done)|(simp_all;omega)|grind|((try simp only[Yw,show ∀x,IntKind.i64.wrap x=W x from fun _=>rfl]at*);omega))):a/\b:=⟨k,h⟩
theorem IB(a0:ZG)(a1:Int)(u0:Sm 2310144 a0):Sd 33 [a0.row,rI a1] [(Qv a0 a1).1.row,rB (Qv a0 a1).2]:=by
 have f:=me (Qv.eq_1 a0 a1);refine soD func33 ntmps33 ?_;refine cRs (Ld a0 a1) ?_;refine cF f ?_ ?_<;>intro k1 h1 f
 ·refine cDs [false,false,false,true,true,false,false,true,false,false,true,false] (YQ a0 (sg u0)) ?_;exact rtD _ f
 refine dIo mixed ?_;have i1:(YW a0 a1).2.1.toNat<a0.Zf.length:=zBH
 simp[i1,ZF];repeat with_reducible refine IP ?_
 refine cRs (Jf a0.Frame.Z0 (nth a0.Zf (YW a0 a1).2.1.toNat).YA) ?_;refine dIs mixed ?_;refine gIo ?_ ?_<;>intro G
 ·have g1:=G;try simp at g1
  have i2:(YT a0.Frame.Z0 (nth a0.Zf (YW a0 a1).2.1.toNat).YA).toNat<a0.Frame.Z0.length:=by have:=zc a0.Frame.Z0 (nth a0.Zf (YW a0 a1).2.1.toNat).YA;first|omega|(have z:=Qd a0 a1 zBj;(try simp at*);omega)
  simp[i2,ZF,G];repeat with_reducible refine qu ?_
  refine cKo f ?_ ?_<;>intro k4 h2 f
  ·simp;refine cD [false,false,false,true,true,false,false,true,false,false,true,false] (YQ a0 (sg u0)) ?_;simp;exact z9 _ f
  ·have i3:(YW a0 a1).2.1.toNat<a0.Zy.length:=zBH;simp[i3,ZF];repeat with_reducible refine qu ?_
   refine cKo f ?_ ?_<;>intro k5 h3 f
   ·simp;refine dIo mixed ?_;simp[i1,ZF];repeat with_reducible refine qu ?_
    refine cD [false,false,false,true,true,false,false,true,false,false,true,false] (TC a0 (YW a0 a1).1 a1 (Zs.mk (nth a0.Zf (YW a0 a1).2.1.toNat).Zc a0.Frame.Now (-1) (nth a0.Zf (YW a0 a1).2.1.toNat).YA 0) (sg u0) zBS) ?_;simp;exact z9 _ f
   ·simp;refine dIo mixed ?_;simp[i1,ZF];repeat with_reducible refine qu ?_
    refine cD [false,false,false,true,true,false,false,true,false,false,true,false] (TC a0 (YW a0 a1).1 a1 (Zs.mk (nth a0.Zf (YW a0 a1).2.1.toNat).Zc a0.Frame.Now (nth a0.Zy (YW a0 a1).2.1.toNat) (nth a0.Zf (YW a0 a1).2.1.toNat).YA 0) (sg u0) zBS) ?_;simp;exact z9 _ f
 ·simp[G];refine cKo f ?_ ?_<;>intro k8 h4 f
  ·simp;refine cD [false,false,false,true,true,false,false,true,false,false,true,false] (YQ a0 (sg u0)) ?_;simp;exact z9 _ f
  ·simp[G]at h4
theorem IT(a0:ZG)(a1:Int)(u0:Sm 2314240 a0):Sd 34 [a0.row,rI a1] [(QO a0 a1).1.row,rB (QO a0 a1).2]:=by
 have f:=me (QO.eq_1 a0 a1);refine soD func34 ntmps34 ?_;refine cDs [false,false,false,true,true,false,false,true,false,false,true,false] (YQ a0 (sg u0)) ?_;refine cRs (Zz a1 0 (W ((a0.Zy.length:Int)-1))) ?_;refine gIf ?_ ?_<;>intro G
 ·have c1:=sl 2314240 a0.Zy u0;have w1:IntKind.i64.wrap ((a0.Zy.length:Int)-1)=(a0.Zy.length:Int)-1:=YZ zAD zAD;have g1:=G;try simp[ZZ,w1]at g1
  have i1:=ik a1.toNat a0.Zy;simp[i1,ZF,G];refine rpG ?_;refine cKo f ?_ ?_<;>intro k1 h1 f
  ·have q1:=h1;try simp[ZZ,w1]at q1
   simp;refine rpG ?_;exact z9 _ f
  ·have q1:=h1;try simp[ZZ,w1]at q1
   simp[i1,ZF];refine rpG ?_;refine Ir (rv:=[.cell 4 33,.tmp 5]) rfl ?_;simp[f.h];all_goals(repeat' (first|exact GU zAG zAG|refine And.intro ?_ ?_))
 ·have c2:=sl 2314240 a0.Zy u0;refine cKo f ?_ ?_<;>intro k2 h2 f
  ·have q2:=h2;try simp[ZZ,w2]at q2
   simp;refine rpG ?_;exact z9 _ f
  ·simp[G]at h2
theorem Gb(a0:List Int):Sa 82 [rL 1 iR a0] [rB (JV a0)]:=by
 have f:=me (JV.eq_1 a0);refine so func82 ntmps82 ?_;refine lp1 (kr.eq_2 a0) (fun J=>Yy 20 [eL 0 1 a0 iR,eI 3 (J:Int)]) (fun n1 J=>a0.length<n1+J/\1<=J) (a0.length+1) 1 (fun p1 J e1 j1=>?_);refine cF e1 ?_ ?_<;>intro k2 h1 e1
 ·have i1:=ix h1;have m2:=ml a0 (k2 0 _ rfl);have w1:=wr J;refine dIo mixed ?_;have i2:=ik (J-1) a0;have w2:IntKind.i64.wrap ((J:Int)-1)=(J:Int)-1:=YZ zAD zAD;simp[i2,ZF,w2,i1];refine rpS ?_;refine cF e1 ?_ ?_<;>intro k4 h2 e1
  ·exact rt _ (ms f e1)
  exact ny1 (an w1 w2) e1
 exact rt _ (ms f e1)
theorem VV(a0:Zm):Sd 152 [a0.row] [rL 1 iR (KH a0)]:=by have f:=me (KH.eq_1 a0);refine soD func152 ntmps152 ?_;exact rtD [.tmp 2] f
theorem jD(a0:Int)(a1:Ze)(u0:Sm 2326528 a1):Sa 158 [rI a0,a1.row] [rI (KZ a0 a1)]:=by
 have f:=me (KZ.eq_1 a0 a1);refine so func158 ntmps158 ?_;refine lp2 (xV.eq_2 a1) (fun J U=>Yy 59 [eI 0 a0,eX 3 (a1.row.map .d),(5,.one (.sref 5 0 0 J.length),[.arr false 1 (J.map iR)]),eL 19 2 a1.Path X4.row,eI 20 (a1.Path.length:Int),eI 21 (U:Int)]) (fun n1 J U=>a1.Path.length<n1+U/\U<=a1.Path.length/\J.length<=4+2*U) (a1.Path.length+1) ([4,a1.Count,a1.Method,a1.BX]:List Int) 0 (fun p1 J U e1 j1=>?_) (h0:=wkS [((5,0),some (17,0))] []);refine cFo e1 ?_ ?_<;>intro k2 h1 e1
 ·have q1:=h1;try simp at q1
  have i1:=ix h1;have m2:=ml a1.Path (k2 19 _ rfl);have c1:=sl 2326528 a1.Path u0;have w1:=wr U;simp[i1,ZF];refine rpS ?_;refine cFo e1 ?_ ?_<;>intro k3 h2 e1
  ·have q2:=h2;try simp at q2
   simp;refine rpS ?_;exact nx2 e1 (hw:=XN [((5,0),some (32,0))] [] rfl zAe)
  have q2:=h2;try simp at q2
  simp;refine rpS ?_;exact nx2 e1 (hw:=XN [((5,0),some (32,0))] [] rfl zAe)
 have q1:=h1;try simp at q1
 have c2:=sl 2326528 a1.Path u0;have f:=ms f e1;simp;refine rpS ?_;refine lp2 (ju.eq_2 a1) (fun nc nh=>Yy 59 [eI 0 a0,(5,.one (.sref 5 0 0 nc.length),[.arr false 1 (nc.map iR)]),eL 41 5 a1.YV Zm.row,eI 42 (a1.YV.length:Int),eI 43 (nh:Int)]) (fun n2 nc nh=>a1.YV.length<n2+nh/\nh<=a1.YV.length/\nc.length<=5+2*2326528+6*nh) (a1.YV.length+1) (J++([(a1.YV.length:Int)]:List Int)) 0 (fun p2 nc nh e2 j2=>?_) (hI:=by(have o:a1.Path.length<=2326528:=YX (xs u0);simp at*;omega)) (h0:=wkS [((5,0),some (39,0))] []);refine cFo e2 ?_ ?_<;>intro k5 h3 e2
 ·have q3:=h3;try simp at q3
  have i2:=ix h3;have m4:=ml a1.YV (k5 41 _ rfl);have c3:=sl 2326528 a1.YV u0;have w2:=wr nh;simp[i2,ZF];refine rpS ?_;refine dIs mixed ?_;refine cRs (Yb.rd (VV (nth a1.YV nh))) ?_;exact nx2 e2 (hI:=by(simp;omega)) (hw:=XN [((5,0),some (54,0))] [] rfl (by simp[w2]))
 have q3:=h3;try simp at q3
 have c4:=sl 2326528 a1.YV u0;have f:=ms f e2;simp;refine cRs (KA a0 nc zAM) ?_;exact rt [.tmp 4] f
theorem Uz(a0:Int)(a1:List ZU)(u0:Sm 2326528 a1):Sa 232 [rI a0,rL 3 ZU.row a1] [rI (yU a0 a1)]:=by
 have f:=me (yU.eq_1 a0 a1);refine so func232 ntmps232 ?_;refine lp2 (kn.eq_2 a0 a1) (fun J U=>Yy 32 [eI 0 a0,(5,.one (.sref 5 0 0 J.length),[.arr false 1 (J.map iR)]),eL 9 3 a1 ZU.row,eI 10 (a1.length:Int),eI 11 (U:Int)]) (fun n1 J U=>a1.length<n1+U/\U<=a1.length/\J.length<=1+1*U) (a1.length+1) ([2]:List Int) 0 (fun p1 J U e1 j1=>?_) (h0:=wkS [((5,0),some (8,0))] []);refine cFf e1 ?_ ?_<;>intro k2 h1 e1
 ·have i1:=ix h1;have m2:=ml a1 (k2 9 _ rfl);have c1:=sl 2326528 a1 u0;have w1:=wr U;have c2:=sl 2326528 (nth a1 U).YM u0;simp[i1,ZF];refine rpS ?_;refine cRs (KA a0 (([(nth a1 U).Key,(nth a1 U).Mark]:List Int)++(nth a1 U).YM) zAk) ?_;exact nx2 e1 (hw:=XN [((5,0),some (27,0))] [] rfl zAe)
 have c3:=sl 2326528 a1 u0;have f:=ms f e1;refine cRs (KA a0 J zAM) ?_;exact rt [.tmp 4] f
theorem U0(a0 a1:Int)(a2:List ZU)(a3:Int)(u0:Sm 2322432 a2):Sa 159 [rI a0,rI a1,rL 3 ZU.row a2,rI a3] [rI (Tm a0 a1 a2 a3)]:=by have f:=me (Tm.eq_1 a0 a1 a2 a3);refine so func159 ntmps159 ?_;refine cRs (Uz a0 a2 (sg u0)) ?_;refine cRs (KA a0 ([3,a1,yU a0 a2,a3]:List Int) zAk) ?_;exact rt _ f
theorem Nq(a0:ZR)(a1:Int)(u0:Sm 2318336 a0):Sa 92 [a0.row,rI a1] [rI (KV a0 a1)]:=by
 have f:=me (KV.eq_1 a0 a1);refine so func92 ntmps92 ?_;refine cFf f ?_ ?_<;>intro k1 h1 f
 ·have i1:=ik (a0.ZK.ZQ.length-1) a0.ZK.ZQ;have m1:=ml a0.ZK.ZQ (k1 9 _ rfl);have w1:IntKind.i64.wrap ((a0.ZK.ZQ.length:Int)-1)=(a0.ZK.ZQ.length:Int)-1:=YZ zAD zAD;simp[i1,ZF,w1];refine rpS ?_;refine cRs (jD a1 (nth a0.ZK.ZQ (a0.ZK.ZQ.length-1)) (sg (Zn (ZX.zf (ZR.Yv u0))))) ?_;refine dIs mixed ?_;refine cRs (yN a1 a0.Doc (sg (ZR.zt u0))) ?_;refine cRs (U0 a1 (Yx a1 a0.Doc) a0.ZK.ZM (KZ a1 (nth a0.ZK.ZQ (a0.ZK.ZQ.length-1))) (sg (ZX.QE (ZR.Yv u0)))) ?_;exact rt _ f
 refine dIs mixed ?_;refine cRs (yN a1 a0.Doc (sg (ZR.zt u0))) ?_;refine cRs (U0 a1 (Yx a1 a0.Doc) a0.ZK.ZM 0 (sg (ZX.QE (ZR.Yv u0)))) ?_;exact rt _ f
theorem Rn(a0:ZE)(a1:Int)(u0:Sm 2314240 a0):Sd 148 [a0.row,rI a1] [rL 1 iR (QK a0 a1)]:=by
 have f:=me (QK.eq_1 a0 a1);refine soD func148 ntmps148 ?_;refine lp2 (ks.eq_2 a0 a1) (fun J U=>Yy 23 [eI 1 a1,(5,.one (.sref 5 0 0 J.length),[.arr false 1 (J.map iR)]),eL 9 16 a0.ZC ZR.row,eI 10 (a0.ZC.length:Int),eI 11 (U:Int)]) (fun n1 J U=>a0.ZC.length<n1+U/\U<=a0.ZC.length/\J.length<=0+1*U) (a0.ZC.length+1) ([]:List Int) 0 (fun p1 J U e1 j1=>?_) (h0:=wkS [((5,0),none)] []);refine cFf e1 ?_ ?_<;>intro k2 h1 e1
 ·have i1:=ix h1;have m2:=ml a0.ZC (k2 9 _ rfl);have c1:=sl 2314240 a0.ZC u0;have w1:=wr U;simp[i1,ZF];refine rpS ?_;refine cRs (Nq (nth a0.ZC U) a1 (sg (Zn (ZE.YC u0)))) ?_;exact nx2 e1 (hw:=XN [((5,0),some (20,0))] [] rfl zAe)
 exact rtD [.tmp 4] (ms f e1)
theorem Wf(a0 a1 a2:Int):Sa 260 [rI a0,rI a1,rI a2] [rI (jw a0 a1 a2)]:=by have f:=me (jw.eq_1 a0 a1 a2);refine so func260 ntmps260 ?_;refine cRs (KA a0 ([1,a1,a2]:List Int) (by simp(maxDischargeDepth:=12) [Tx,XH];try omega)) ?_;exact rt [.tmp 6] f
theorem jC(a0:Int)(a1:List Int)(u0:Sm 2322432 a1):Sd 228 [rI a0,rL 1 iR a1] [rL 1 iR (zQ a0 a1)]:=by
 have f:=me (zQ.eq_1 a0 a1);refine soD func228 ntmps228 ?_;refine lp2 (yS.eq_2 a0 a1) (fun J U=>Yy 40 [eI 0 a0,eL 1 1 a1 iR,(5,.one (.sref 5 0 0 J.length),[.arr false 1 (J.map iR)]),eI 6 (U:Int)]) (fun n1 J U=>a1.length<n1+U/\U<=a1.length+1/\J.length<=U) (a1.length+1) ([]:List Int) 0 (fun p1 J U e1 j1=>?_) (h0:=wkS [((5,0),none)] []);refine cF e1 ?_ ?_<;>intro k2 h1 e1
 ·have i1:=ix h1;have m2:=ml a1 (k2 1 _ rfl);have c1:=sl 2322432 a1 u0;have w1:=wr U;refine cFt e1 ?_ ?_<;>intro k3 h2 e1
  ·refine okD fun k4=>?_;refine dIo mixed ?_;have i2:=ik (W ((U:Int)+1)).toNat a1
   simp[i1,ZF,i2];refine rpS ?_;refine cRs (Wf a0 (nth a1 U) (nth a1 (W ((U:Int)+1)).toNat)) ?_ (ny:=by first|(simp;done)|(simp[W,w1];done));have w2:IntKind.i64.wrap ((U:Int)+2)=(U:Int)+2:=YZ zAD zAD
   exact nx2 e1 (hI:=by first|omega|(simp at*;omega)) (hw:=XN [((5,0),some (31,0))] [] rfl zB6)
  simp[i1,ZF];refine rpS ?_;have w3:IntKind.i64.wrap ((U:Int)+2)=(U:Int)+2:=YZ zAD zAD
  exact nx2 e1 (hI:=by first|omega|(simp at*;omega)) (hw:=XN [((5,0),some (38,0))] [] rfl (by simp[w1,w3]))
 exact rtD [.tmp 4] (ms f e1)
theorem P9(a0:Int)(a1:List Int)(u0:Sm 2318336 a1):Sa 147 [rI a0,rL 1 iR a1] [rI (SW a0 a1)]:=by
 have f:=me (SW.eq_1 a0 a1);refine so func147 ntmps147 ?_;refine cRs (Zz (a1.length:Int) 1 16) ?_;refine cFo f ?_ ?_<;>intro k1 h1 f
 ·have q1:=h1;try simp[ZZ]at q1
  simp;exact rt _ f
 have q1:=h1;try simp[ZZ]at q1
 simp;refine lp1 (Sg.eq_2 a0) (fun J=>Yy 18 [eI 0 a0,eL 1 1 J iR]) (fun n1 J=>J.length<n1/\1<=J.length/\J.length<=16) (a1.length+1) a1 (fun p1 J e1 j1=>?_) (hI:=by first|omega|(simp at*;omega));refine cFt e1 ?_ ?_<;>intro k3 h2 e1
 ·refine cRs (Yb.rd (jC a0 J zAR)) ?_;exact nx1 e1 (hI:=by(have z:=qW a0 J zAD;(try dsimp only);simp at*;omega))
 have f:=ms f e1;have i1:=ik 0 J;simp[i1,ZF];refine rpS ?_;exact rt _ f
theorem NY(a0:ZE)(a1:Int)(u0:Sm 2310144 a0):Sa 83 [a0.row,rI a1] [rI (Qt a0 a1)]:=by have f:=me (Qt.eq_1 a0 a1);refine so func83 ntmps83 ?_;refine cRs (Yb.rd (Rn a0 a1 (sg u0))) ?_;refine cRs (P9 a1 (QK a0 a1) (by simp(maxDischargeDepth:=12) [Vj,ZH (m:=2318336) zAE u0];try omega)) ?_;exact rt _ f
theorem yo(a0:List Zo)(a1:Int):Sa 84 [rL 3 Zo.row a0,rI a1] [rI (Zk a0 a1)]:=by
 have f:=me (Zk.eq_1 a0 a1);refine so func84 ntmps84 ?_;refine lp1 (xW.eq_2 a0 a1) (fun J=>Yy 20 [eI 1 a1,eL 7 3 a0 Zo.row,eI 8 (a0.length:Int),eI 9 (J:Int)]) (fun n1 J=>a0.length<n1+J/\J<=a0.length) (a0.length+1) 0 (fun p1 J e1 j1=>?_);refine cFf e1 ?_ ?_<;>intro k2 h1 e1
 ·have i1:=ix h1;have m2:=ml a0 (k2 7 _ rfl);have w1:=wr J;simp[i1,ZF];refine rpS ?_;refine cF e1 ?_ ?_<;>intro k3 h2 e1
  ·exact rt _ (ms f e1)
  exact ny1 w1 e1
 exact rt _ (ms f e1)
theorem Dv(a0:List Int)(a1:Int):Sa 149 [rL 1 iR a0,rI a1] [rI (PZ a0 a1)]:=by
 have f:=me (PZ.eq_1 a0 a1);refine so func149 ntmps149 ?_;refine lp1 (US.eq_2 a0 a1) (fun J=>Yy 19 [eI 1 a1,eL 7 1 a0 iR,eI 8 (a0.length:Int),eI 9 (J:Int)]) (fun n1 J=>a0.length<n1+J/\J<=a0.length) (a0.length+1) 0 (fun p1 J e1 j1=>?_);refine cFf e1 ?_ ?_<;>intro k2 h1 e1
 ·have i1:=ix h1;have m2:=ml a0 (k2 7 _ rfl);have w1:=wr J;simp[i1,ZF];refine rpS ?_;refine cF e1 ?_ ?_<;>intro k3 h2 e1
  ·exact rt _ (ms f e1)
  exact ny1 w1 e1
 exact rt _ (ms f e1)
theorem PA(a0:List Int)(a1:Int):Sa 85 [rL 1 iR a0,rI a1] [rB (Qj a0 a1)]:=by have f:=me (Qj.eq_1 a0 a1);refine so func85 ntmps85 ?_;refine cRs (Dv a0 a1) ?_;exact rt [.tmp 4] f
theorem jx(a0:List Y6)(a1:List Zo)(a2:Zm)(u0:Sm 2318336 a0)(u1:Sm 2318336 a1):Sa 86 [rL 5 Y6.row a0,rL 3 Zo.row a1,a2.row] [(Xy a0 a1 a2).1.row,rB (Xy a0 a1 a2).2]:=by
 have f:=me (Xy.eq_1 a0 a1 a2);refine so func86 ntmps86 ?_;refine cRs (yo a1 a2.Authority) ?_;refine cGs (fun gg=>Kp a2.Time) ?_;refine cF f ?_ ?_<;>intro k1 h1 f
 ·exact rt [.cell 6 135,.tmp 7] f
 refine dIo mixed ?_;have i1:(Zk a1 a2.Authority).toNat<a1.length:=by have:=QN a1 a2.Authority;exact il
 simp[i1,ZF];refine rpS ?_;refine cRs (Yb.rd (VV a2)) ?_;refine cRs (U2 a0 (nth a1 (Zk a1 a2.Authority).toNat).Key (KH a2) (sg u0) (by simp(maxDischargeDepth:=12) [Gn,ZH (m:=2322432) zAE u0,ZH (m:=2322432) zAE u1];try omega)) ?_;refine cF f ?_ ?_<;>intro k3 h2 f
 ·exact rt [.cell 6 135,.tmp 7] f
 exact rt [.cell 6 135,.tmp 7] f
theorem OD(h:b)(k:a:=by(intros;first|omega|with_unfolding_all (first|first|omega|(have tm:=Int.tmod_eq_emod_of_nonneg (b:=2) (show 0<=U by omega);(try simp only[Yw,show ∀x,IntKind.i64.wrap x=W x from fun _=>rfl]at*);(try simp at*);omega))|((try simp only[Yw,show ∀x,IntKind.i64.wrap x=W x from fun _=>rfl]at*);omega))):a/\b:=⟨k,h⟩
theorem Fb(a0:Int)(a1:List Int)(a2:Int)(u0:Sm 2318336 a1):Sd 153 [rI a0,rL 1 iR a1,rI a2] [rL 2 X4.row (J0 a0 a1 a2)]:=by
 have f:=me (J0.eq_1 a0 a1 a2);refine soD func153 ntmps153 ?_;refine cRs (Zz a2 0 (W ((a1.length:Int)-1))) ?_;have c1:=sl 2318336 a1 u0;have w1:IntKind.i64.wrap ((a1.length:Int)-1)=(a1.length:Int)-1:=YZ zAD zAD;refine cFo f ?_ ?_<;>intro k1 h1 f
 ·have q1:=h1;try simp[ZZ,w1]at q1
  simp;exact rtD [.tmp 6] f
 have q1:=h1;try simp[ZZ,w1]at q1
 simp;refine lp3 (ym.eq_2 a0) (fun J U nb=>Yy 54 [eI 0 a0,eL 1 1 J iR,eI 2 U,(7,.one (.sref 7 0 0 nb.length),[.arr false 2 (nb.map X4.row)])]) (fun n1 J U nb=>J.length<n1/\0<=U/\U<(J.length:Int)/\J.length<=16/\nb.length+n1<=17) (a1.length+1) a1 a2 ([]:List X4) (fun p1 J U nb e1 j1=>?_) (hI:=by first|omega|(simp at*;omega)) (h0:=wkS [((7,0),none)] []);refine cF e1 ?_ ?_<;>intro k3 h2 e1
 ·refine cFf e1 ?_ ?_<;>intro k4 h3 e1
  ·have i1:(W (U-1)).toNat<J.length:=zAr;simp[i1,ZF];repeat with_reducible refine OD ?_
   refine cRs (Yb.rd (jC a0 J zAR)) ?_;exact nx3 e1 (hI:=by(have z:=qW a0 J zAD;have td:=Int.tdiv_eq_ediv_of_nonneg (b:=2) (show 0<=U by omega);have w2:W (Int.tdiv U 2)=Int.tdiv U 2:=YZ zAD zAD;(try dsimp only);rw[w2];simp at*;omega)) (hw:=XN [((7,0),some (33,0))] [] rfl zAe)
  refine cFo e1 ?_ ?_<;>intro k5 h4 e1
  ·have q4:=h4;try simp[w1]at q4
   have i2:(W (U+1)).toNat<J.length:=zAr;simp[i2,ZF];repeat with_reducible refine OD ?_
   refine cRs (Yb.rd (jC a0 J zAR)) ?_;exact nx3 e1 (hI:=by(have z:=qW a0 J zAD;have td:=Int.tdiv_eq_ediv_of_nonneg (b:=2) (show 0<=U by omega);have w2:W (Int.tdiv U 2)=Int.tdiv U 2:=YZ zAD zAD;(try dsimp only);rw[w2];simp at*;omega)) (hw:=XN [((7,0),some (47,0))] [] rfl zAe)
  have q4:=h4;try simp[w1]at q4
  simp;refine cRs (Yb.rd (jC a0 J zAR)) ?_;exact ny3 w1 e1 (hI:=by(have z:=qW a0 J zAD;have td:=Int.tdiv_eq_ediv_of_nonneg (b:=2) (show 0<=U by omega);have w2:W (Int.tdiv U 2)=Int.tdiv U 2:=YZ zAD zAD;(try dsimp only);rw[w2];simp at*;omega))
 exact rtD [.tmp 6] (ms f e1)
theorem S3(a0:ZX)(a1:Ze)(u0:Sm 2326528 a0)(u1:Sm 2326528 a1):Sd 93 [a0.row,a1.row] [(XK a0 a1).1.row,rB (XK a0 a1).2]:=by
 have f:=me (XK.eq_1 a0 a1);refine soD func93 ntmps93 ?_;refine cDs [] (K1 a0 (sg u0)) ?_;refine drJ [14] mixed ?_;simp;refine cDs [true,true,true,false,false] (Ur a1 (sg u1)) ?_;refine jg ?_;have c1:=sl 2326528 a0.ZQ (an u0 u1);simp;refine kX (ng:=a0.ZQ.map Ze.row) (news:=([a1]:List Ze).map Ze.row) (l1:=[(8,1)]) (l2:=[(12,3),(12,4)]) (size:=5) ?_;simp;refine cRs (TZ (ZX.mk a0.ZM (a0.ZQ++([a1]:List Ze)))) ?_;refine cF f ?_ ?_<;>intro k2 h1 f
 ·refine cDs [] (K1 a0 (sg u0)) ?_;exact rtD [.cell 4 50,.tmp 5] f
 exact rtD [.cell 4 50,.tmp 5] f
theorem MW(a0:ZE)(a1:Int)(a2:List Zm)(u0:Sm 2306048 a0)(u1:Sm 2306048 a2):Sd 87 [a0.row,rI a1,rL 5 Zm.row a2] [(XW a0 a1 a2).1.row,rB (XW a0 a1 a2).2]:=by
 have f:=me (XW.eq_1 a0 a1 a2);refine soD func87 ntmps87 ?_;refine cGs (fun gg=>xt a0) ?_;refine cF f ?_ ?_<;>intro k1 h1 f
 ·refine cDs [] (Yl a0 (sg u0)) ?_;exact rtD [.cell 6 55,.tmp 7] f
 refine cDs [] (Yl a0 (sg u0)) ?_;refine cRs (Yb.rd (Rn a0 a1 (sg u0))) ?_;refine lp2 (Qo.eq_2 a0 a1 a2) (fun J U=>Yy 75 [eI 1 a1,eL 2 5 a2 Zm.row,eX 3 (a0.row.map .d),(6,.one (.bptr 6 0),[.box [.d (.int .i64 0),.nil 16]]),(8,.one (.bptr 8 0),[.box [.d (.int .i64 a0.Id),.sref 26 1 0 U.length]]),eL 9 1 (QK a0 a1) iR,(26,.any,[.none,.arr true 16 (U.map ZR.row)]),eL 31 16 a0.ZC ZR.row,eI 32 (a0.ZC.length:Int),eI 33 (J:Int)]) (fun n1 J U=>a0.ZC.length<n1+J/\J<=a0.ZC.length/\U.length=a0.ZC.length) (a0.ZC.length+1) 0 a0.ZC (fun p1 J U e1 j1=>?_);refine cFf e1 ?_ ?_<;>intro k3 h2 e1
 ·have i1:=ix h2;have m2:=ml a0.ZC (k3 31 _ rfl);have c1:=sl 2306048 a0.ZC (an u0 u1);have w1:=wr J;simp[i1,ZF];refine rpS ?_;refine dIs mixed ?_;refine cRs (NY a0 a1 (sg u0)) ?_;refine cRs (Yb.rd (Fb a1 (QK a0 a1) (J:Int) (by simp(maxDischargeDepth:=12) [Vj,ZH (m:=2318336) zAE u0,ZH (m:=2318336) zAE u1];try omega))) ?_;refine cDs [] (S3 (nth a0.ZC J).ZK (Ze.mk ((nth a0.ZC J).ZK.ZM.length:Int) a1 (Qt a0 a1) (J0 a1 (QK a0 a1) (J:Int)) a2) (sg (ZR.Yv (Zn (ZE.YC u0)))) (by simp(maxDischargeDepth:=12) [Ps,Vj,ZH (m:=2326528) zAE u0,ZH (m:=2326528) zAE u1];try omega)) ?_;refine cFt e1 ?_ ?_<;>intro k5 h3 e1
  ·refine cDs [] (Yl a0 (sg u0)) ?_;exact rtD [.cell 6 55,.tmp 7] (ms f e1)
  have i2:=ik J U;simp[i2,ZF];refine rpS ?_;refine sN (t:=26) (j:=1) (i:=J) (c:=14) (size:=16) (rows:=U.map ZR.row) (ds:=(XK (nth a0.ZC J).ZK (Ze.mk ((nth a0.ZC J).ZK.ZM.length:Int) a1 (Qt a0 a1) (J0 a1 (QK a0 a1) (J:Int)) a2)).1.row) (L:=[(55,0),(55,1)]) rfl rfl rfl rfl zAG zAG (by simp;try omega) zAG zAG zAG zAG zAG zAG ?_;simp[Kh (x:=ZR.mk (nth U J).Id (nth U J).XI (nth U J).Doc (nth U J).Sig (XK (nth a0.ZC J).ZK (Ze.mk ((nth a0.ZC J).ZK.ZM.length:Int) a1 (Qt a0 a1) (J0 a1 (QK a0 a1) (J:Int)) a2)).1) rfl,i2,ZF,XT];refine rpS ?_;exact ny2 w1 e1
 have c2:=sl 2306048 a0.ZC (an u0 u1);have f:=ms f e1;refine cRs (xt (ZE.mk a0.Id U)) ?_;refine cF f ?_ ?_<;>intro k6 h4 f
 ·refine cDs [] (Yl a0 (sg u0)) ?_;exact rtD [.cell 6 55,.tmp 7] f
 exact rtD [.cell 6 55,.tmp 7] f
theorem G6(a0:ZG)(a1:Int)(a2:List Int)(a3:Int)(u0:Sm 2301952 a0)(u1:Sm 2301952 a2):Sd 35 [a0.row,rI a1,rL 1 iR a2,rI a3] [(Q6 a0 a1 a2 a3).1.row,rB (Q6 a0 a1 a2 a3).2]:=by
 have f:=me (Q6.eq_1 a0 a1 a2 a3);refine soD func35 ntmps35 ?_;refine cDs [false,false,false,true,true,false,false,true,false,false,true,false] (YQ a0 (sg u0)) ?_;refine cRs (jA a0.Frame.Methods a0.Frame.Now) ?_;refine cRs (yO a0 a1) ?_;refine cGs (fun gg=>Gb a2) ?_;refine cGs (fun gg=>Zz a3 (-10000) 10000) ?_;have c1:=sl 2301952 a0.ZB (an u0 u1);have w1:IntKind.i64.wrap ((a0.ZB.length:Int)-1)=(a0.ZB.length:Int)-1:=YZ zAD zAD;refine cFo f ?_ ?_<;>intro k1 h1 f
 ·have q1:=h1;try simp[ZZ,w1,Yt]at q1
  simp;exact rtD [.cell 8 33,.tmp 9] f
 have q1:=h1;try simp[ZZ,w1,Yt]at q1
 have i1:=ik a1.toNat a0.ZB;simp[i1,ZF];refine rpS ?_;refine cRs (NY (nth a0.ZB a1.toNat) (ZY a0.Frame.Methods a0.Frame.Now) (sg (Zn (ZG.Z5 u0)))) ?_;refine lp3 (QH.eq_2 a0 a1 a2 a3) (fun J U nb=>Yy 175 [eI 1 a1,eI 3 a3,eX 4 (a0.row.map .d),(8,.one (.bptr 8 0),[.box [.nil 5,.nil 3,.nil 4,.d (.int .i64 0),.d (.int .i64 0),.nil 7,.nil 1,.nil 2,.nil 1,.nil 1,.d (.int .i64 0),.nil 1]]),eX 10 (a0.Frame.row.map .d),(11,.one (.bptr 11 0),[.box [.sref 27 0 0 a0.Frame.Z0.length,.sref 27 1 0 a0.Frame.ZD.length,.sref 27 2 0 a0.Frame.Methods.length,.d (.int .i64 a0.Frame.XB),.d (.int .i64 a0.Frame.Now),.sref 27 5 0 a0.Zf.length,.sref 27 6 0 a0.Zy.length,.sref 27 7 0 a0.ZB.length,.sref 27 8 0 nb.length,.sref 27 9 0 a0.Yg.length,.d (.int .i64 a0.Next),.sref 27 11 0 a0.YN.length]]),eI 12 (ZY a0.Frame.Methods a0.Frame.Now),eI 13 (Qt (nth a0.ZB a1.toNat) (ZY a0.Frame.Methods a0.Frame.Now)),(14,.one (.sref 14 0 0 J.length),[.arr false 5 (J.map Zm.row)]),(27,.any,[.arr false 5 (a0.Frame.Z0.map Y6.row),.arr false 3 (a0.Frame.ZD.map Zo.row),.arr false 4 (a0.Frame.Methods.map YJ.row),.none,.none,.arr false 7 (a0.Zf.map YO.row),.arr false 1 (a0.Zy.map iR),.arr true 2 (a0.ZB.map ZE.row),.arr false 1 (nb.map iR),.arr false 1 (a0.Yg.map iR),.none,.arr false 1 (a0.YN.map iR)]),eL 64 1 a2 iR,eI 65 (a2.length:Int),eI 66 (U:Int)]) (fun n1 J U nb=>a2.length<n1+U/\U<=a2.length/\J.length<=0+1*U/\nb.length=a0.Y9.length) (a2.length+1) ([]:List Zm) 0 a0.Y9 (fun p1 J U nb e1 j1=>?_) (h0:=wkS [((14,0),none)] []);refine cFo e1 ?_ ?_<;>intro k3 h2 e1
 ·have i2:=ix h2;have m2:=ml a2 (k3 64 _ rfl);have c2:=sl 2301952 a2 (an u0 u1);have w2:=wr U;simp[i2,ZF];refine rpS ?_;refine cRs (yo a0.Frame.ZD (nth a2 U)) ?_;refine cF e1 ?_ ?_<;>intro k4 h3 e1
  ·refine cDs [false,false,false,true,true,false,false,true,false,false,true,false] (YQ a0 (sg u0)) ?_;exact rtD [.cell 8 33,.tmp 9] (ms f e1)
  refine dIo mixed ?_;have i3:(Zk a0.Frame.ZD (nth a2 U)).toNat<a0.Frame.ZD.length:=zBJ
  simp[i3,ZF];refine rpS ?_;refine cRs (Jf a0.Frame.Z0 (nth a0.Frame.ZD (Zk a0.Frame.ZD (nth a2 U)).toNat).Key) ?_;refine dIs mixed ?_;refine gIf ?_ ?_<;>intro G
  ·have i4:(YT a0.Frame.Z0 (nth a0.Frame.ZD (Zk a0.Frame.ZD (nth a2 U)).toNat).Key).toNat<a0.Frame.Z0.length:=by have:=zc a0.Frame.Z0 (nth a0.Frame.ZD (Zk a0.Frame.ZD (nth a2 U)).toNat).Key;exact il
   simp[i4,ZF,G];refine rpG ?_;refine cK e1 ?_ ?_<;>intro k7 h4 e1
   ·refine cDg [false,false,false,true,true,false,false,true,false,false,true,false] (YQ a0 (sg u0)) ?_;exact z9 [.cell 8 33,.tmp 9] (ms f e1)
   ·refine cRg (PA a0.Yg (nth a2 U)) ?_;refine cK e1 ?_ ?_<;>intro k8 h5 e1
    ·refine dIo mixed ?_;have i5:(Zk a0.Frame.ZD (nth a2 U)).toNat<a0.Y9.length:=zBJ
     simp[i5,ZF,G];refine rpG ?_;refine cRg (jx a0.Frame.Z0 a0.Frame.ZD (Zm.mk (nth a2 U) (nth a0.Y9 (Zk a0.Frame.ZD (nth a2 U)).toNat) (if(if W (a0.Frame.Now+a3)<10000 then W (a0.Frame.Now+a3)else 10000)>0 then(if W (a0.Frame.Now+a3)<10000 then W (a0.Frame.Now+a3)else 10000)else 0) (Qt (nth a0.ZB a1.toNat) (ZY a0.Frame.Methods a0.Frame.Now)) 0) (sg (Zb.Xd (ZG.Xk u0))) (sg (Zb.XJ (ZG.Xk u0)))) ?_ (ny:=by first|(simp;done)|(simp[W,w1,w2];done));refine cKo e1 ?_ ?_<;>intro cS h6 e1
     ·have q6:=h6;try simp[w1]at q6
      simp[G];refine rpG ?_;refine cDg [false,false,false,true,true,false,false,true,false,false,true,false] (YQ a0 (sg u0)) ?_;exact z9 [.cell 8 33,.tmp 9] (ms f e1)
     ·have q6:=h6;try simp[w1]at q6
      have i6:(Zk a0.Frame.ZD (nth a2 U)).toNat<nb.length:=zBJ;simp[i6,ZF,Kh (x:=W (nth nb (Zk a0.Frame.ZD (nth a2 U)).toNat+1)) rfl,G];refine rpG ?_;exact nx3 e1 (hw:=XN [((14,0),some (145,0))] [] rfl (by simp[w1,w2,G]))
    ·refine dIo mixed ?_;have i7:(Zk a0.Frame.ZD (nth a2 U)).toNat<a0.Y9.length:=zBJ
     simp[i7,ZF,G];refine rpG ?_;refine cRg (jx a0.Frame.Z0 a0.Frame.ZD (Zm.mk (nth a2 U) (nth a0.Y9 (Zk a0.Frame.ZD (nth a2 U)).toNat) a0.Frame.Now (Qt (nth a0.ZB a1.toNat) (ZY a0.Frame.Methods a0.Frame.Now)) 0) (sg (Zb.Xd (ZG.Xk u0))) (sg (Zb.XJ (ZG.Xk u0)))) ?_;refine cKt e1 ?_ ?_<;>intro k12 h7 e1
     ·refine cDg [false,false,false,true,true,false,false,true,false,false,true,false] (YQ a0 (sg u0)) ?_;exact z9 [.cell 8 33,.tmp 9] (ms f e1)
     ·have i8:(Zk a0.Frame.ZD (nth a2 U)).toNat<nb.length:=zBJ;simp[i8,ZF,Kh (x:=W (nth nb (Zk a0.Frame.ZD (nth a2 U)).toNat+1)) rfl,G];refine rpG ?_;exact nx3 e1 (hw:=XN [((14,0),some (145,0))] [] rfl (by simp[w1,w2,G]))
  ·refine cK e1 ?_ ?_<;>intro cf h8 e1
   ·refine cDg [false,false,false,true,true,false,false,true,false,false,true,false] (YQ a0 (sg u0)) ?_;exact z9 [.cell 8 33,.tmp 9] (ms f e1)
   ·simp[G]at h8
 have c3:=sl 2301952 a2 (an u0 u1);have f:=ms f e1;simp[i1,ZF];refine rpS ?_;refine cDs [] (MW (nth a0.ZB a1.toNat) (ZY a0.Frame.Methods a0.Frame.Now) J (sg (Zn (ZG.Z5 u0))) (by first|(simp(maxDischargeDepth:=12) [XH];omega)|(simp(maxDischargeDepth:=12) [ZH (m:=2306048) zAE u0,ZH (m:=2306048) zAE u1];done))) ?_;refine cFt f ?_ ?_<;>intro k19 dn f
 ·refine cDs [false,false,false,true,true,false,false,true,false,false,true,false] (YQ a0 (sg u0)) ?_;exact rtD [.cell 8 33,.tmp 9] f
 simp[i1,ZF];refine rpS ?_;refine N4 (t:=27) (j:=7) (i:=a1.toNat) (size:=2) (rows:=a0.ZB.map ZE.row) (ds:=(XW (nth a0.ZB a1.toNat) (ZY a0.Frame.Methods a0.Frame.Now) J).1.row) (L:=[(162,1)]) ?_;simp[Kh (x:=(XW (nth a0.ZB a1.toNat) (ZY a0.Frame.Methods a0.Frame.Now) J).1) rfl,c1,i1,ZF,XT];refine rpS ?_;exact rtD [.cell 8 33,.tmp 9] f
theorem L3(a0:Int)(a1:ZR)(u0:Sm 2318336 a1):Sa 277 [rI a0,a1.row] [rI (SL a0 a1)]:=by
 have f:=me (SL.eq_1 a0 a1);refine so func277 ntmps277 ?_;refine dIs mixed ?_;refine cRs (yN a0 a1.Doc (sg (ZR.zt u0))) ?_;refine cRs (Uz a0 a1.ZK.ZM (sg (ZX.QE (ZR.Yv u0)))) ?_;refine lp2 (VP.eq_2 a0 a1) (fun J U=>Yy 40 [eI 0 a0,(5,.one (.sref 5 0 0 J.length),[.arr false 1 (J.map iR)]),eL 24 5 a1.ZK.ZQ Ze.row,eI 25 (a1.ZK.ZQ.length:Int),eI 26 (U:Int)]) (fun n1 J U=>a1.ZK.ZQ.length<n1+U/\U<=a1.ZK.ZQ.length/\J.length<=5+1*U) (a1.ZK.ZQ.length+1) ([5,a1.Id,a1.XI,Yx a0 a1.Doc,yU a0 a1.ZK.ZM]:List Int) 0 (fun p1 J U e1 j1=>?_) (h0:=wkS [((5,0),some (21,0))] []);refine cFf e1 ?_ ?_<;>intro k3 h1 e1
 ·have i1:=ix h1;have m2:=ml a1.ZK.ZQ (k3 24 _ rfl);have c1:=sl 2318336 a1.ZK.ZQ u0;have w1:=wr U;simp[i1,ZF];refine rpS ?_;refine cRs (jD a0 (nth a1.ZK.ZQ U) (sg (Zn (ZX.zf (ZR.Yv u0))))) ?_;exact nx2 e1 (hw:=XN [((5,0),some (35,0))] [] rfl zAe)
 have c2:=sl 2318336 a1.ZK.ZQ u0;have f:=ms f e1;refine cRs (KA a0 J zAM) ?_;exact rt [.tmp 4] f
theorem Vo(a0:Int)(a1:List ZR)(u0:Sm 2314240 a1):Sa 230 [rI a0,rL 16 ZR.row a1] [rI (JF a0 a1)]:=by
 have f:=me (JF.eq_1 a0 a1);refine so func230 ntmps230 ?_;refine lp2 (kH.eq_2 a0 a1) (fun J U=>Yy 24 [eI 0 a0,(5,.one (.sref 5 0 0 J.length),[.arr false 1 (J.map iR)]),eL 8 16 a1 ZR.row,eI 9 (a1.length:Int),eI 10 (U:Int)]) (fun n1 J U=>a1.length<n1+U/\U<=a1.length/\J.length<=0+1*U) (a1.length+1) ([]:List Int) 0 (fun p1 J U e1 j1=>?_) (h0:=wkS [((5,0),none)] []);refine cFf e1 ?_ ?_<;>intro k2 h1 e1
 ·have i1:=ix h1;have m2:=ml a1 (k2 8 _ rfl);have c1:=sl 2314240 a1 u0;have w1:=wr U;simp[i1,ZF];refine rpS ?_;refine cRs (L3 a0 (nth a1 U) (sg (Zn u0))) ?_;exact nx2 e1 (hw:=XN [((5,0),some (19,0))] [] rfl zAe)
 have c2:=sl 2314240 a1 u0;have f:=ms f e1;refine cRs (P9 a0 J zA9) ?_;exact rt [.tmp 4] f
theorem ID(a0:ZE)(a1:Int)(a2:List Int)(a3:Int)(u0:Sm 2310144 a0)(u1:Sm 2310144 a2):Sd 154 [a0.row,rI a1,rL 1 iR a2,rI a3] [(Xo a0 a1 a2 a3).1.row,rB (Xo a0 a1 a2 a3).2]:=by
 have f:=me (Xo.eq_1 a0 a1 a2 a3);refine soD func154 ntmps154 ?_;refine lp2 (Jd.eq_2 a0 a2) (fun J U=>Yy 52 [eL 2 1 a2 iR,eI 3 a3,eX 4 (a0.row.map .d),(8,.one (.bptr 8 0),[.box [.d (.int .i64 0),.d (.int .i64 0),.nil 16,.d (.int .i64 0)]]),(10,.one (.bptr 10 0),[.box [.d (.int .i64 a0.Id),.d (.int .i64 a1),.sref 10 3 0 U.length,.d (.int .i64 0)],.none,.none,.arr true 16 (U.map ZR.row)]),eL 18 1 a2 iR,eI 19 (a2.length:Int),eI 20 (J:Int)]) (fun n1 J U=>a2.length<n1+J/\J<=a2.length/\U.length<=J/\(∀x∈U,Sm 2310144 x)) (a2.length+1) 0 ([]:List ZR) (fun p1 J U e1 j1=>?_) (hI:=by exact⟨zAD,zAD,Nat.zero_le _,Nat.zero_le _,fun x h=>by cases h⟩) (h0:=wkS [((10,3),none)] []);try dsimp only at j1
 refine cFf e1 ?_ ?_<;>intro k2 h1 e1
 ·have i1:=ix h1;have m2:=ml a2 (k2 2 _ rfl);have c1:=sl 2310144 a2 (an u0 u1);have w1:=wr J;simp[i1,ZF];refine rpS ?_;refine cRs (qp a0 (nth a2 J)) ?_;refine cF e1 ?_ ?_<;>intro k3 h2 e1
  ·exact rtD [.cell 8 197,.tmp 9] (ms f e1)
  refine drJ [39] mixed ?_;have i2:(Zg a0 (nth a2 J)).toNat<a0.ZC.length:=by have:=KE a0 (nth a2 J);exact il
  simp[i2,ZF];refine rpS ?_;refine cDs [true,true,true,false,false] (qE (nth a0.ZC (Zg a0 (nth a2 J)).toNat) (sg (Zn (ZE.YC u0)))) ?_;refine jg ?_;simp;refine kX (ng:=U.map ZR.row) (news:=([nth a0.ZC (Zg a0 (nth a2 J)).toNat]:List ZR).map ZR.row) (l1:=[(10,3)]) (l2:=[(37,3),(37,4),(37,14),(37,15)]) (size:=16) ?_;simp;exact nx2 e1 (hI:=by((try dsimp only);refine⟨zAD,zAD,zAD,by simp;omega,fun x hx=>?_⟩;rcases List.mem_append.1 hx with hx|hx;exact j1.2.2.2.2 x hx;have e:=List.mem_singleton.1 hx;subst e;exact Zn (ZE.YC u0))) (hw:=XN [((10,3),some (39,0))] [] rfl zAe)
 have c2:=sl 2310144 a2 (an u0 u1);have f:=ms f e1;refine cF f ?_ ?_<;>intro k5 h3 f
 ·exact rtD [.cell 8 197,.tmp 9] f
 refine cRs (Vo a3 U zBI) ?_;exact rtD [.cell 8 197,.tmp 9] f
theorem MA(a0:Yk)(a1:Int)(u0:Sm 2310144 a0):Sa 231 [a0.row,rI a1] [rB (xE a0 a1)]:=by
 have f:=me (xE.eq_1 a0 a1);refine so func231 ntmps231 ?_;refine lp1 (zO.eq_2 a0) (fun J=>Yy 31 [eI 1 a1,eX 2 (a0.row.map .d),eL 8 16 a0.ZC ZR.row,eI 9 (a0.ZC.length:Int),eI 10 (J:Int)]) (fun n1 J=>a0.ZC.length<n1+J/\J<=a0.ZC.length) (a0.ZC.length+1) 0 (fun p1 J e1 j1=>?_);refine cFf e1 ?_ ?_<;>intro k2 h1 e1
 ·have i1:=ix h1;have m2:=ml a0.ZC (k2 8 _ rfl);have c1:=sl 2310144 a0.ZC u0;have w1:=wr J;simp[i1,ZF];refine rpS ?_;refine cRs (LY (nth a0.ZC J)) ?_;refine cF e1 ?_ ?_<;>intro k3 h2 e1
  ·exact rt [.tmp 4] (ms f e1)
  exact ny1 w1 e1
 have f:=ms f e1;refine dIs mixed ?_;refine cRs (Zz (a0.ZC.length:Int) 1 8) ?_;refine cGs (fun gg=>Vo a1 a0.ZC (sg (Yk.YC u0))) ?_;exact rt [.tmp 4] f
theorem NX(a0:ZE)(a1:Yk)(a2:Int)(u0:Sm 2306048 a0)(u1:Sm 2306048 a1):Sd 155 [a0.row,a1.row,rI a2] [(Xs a0 a1 a2).1.row,rB (Xs a0 a1 a2).2]:=by
 have f:=me (Xs.eq_1 a0 a1 a2);refine soD func155 ntmps155 ?_;refine cRs (MA a1 a2 (sg u1)) ?_;refine cF f ?_ ?_<;>intro k1 h1 f
 ·refine cDs [] (Yl a0 (sg u0)) ?_;exact rtD [.cell 6 55,.tmp 7] f
 refine cDs [] (Yl a0 (sg u0)) ?_;refine lp3 (JL.eq_2 a0 a1) (fun J U nb=>Yy 48 [eX 3 (a0.row.map .d),(6,.one (.bptr 6 0),[.box [.d (.int .i64 0),.nil 16]]),(8,.one (.bptr 8 0),[.box [.d (.int .i64 U),.sref 8 2 0 nb.length],.none,.arr true 16 (nb.map ZR.row)]),eL 29 16 a1.ZC ZR.row,eI 30 (a1.ZC.length:Int),eI 31 (J:Int)]) (fun n1 J U nb=>a1.ZC.length<n1+J/\J<=a1.ZC.length/\Sm (2306048+J) (ZE.mk U nb)) (a1.ZC.length+1) 0 a0.Id a0.ZC (fun p1 J U nb e1 j1=>?_) (hI:=by exact⟨zAD,zAD,Nat.zero_le _,u0⟩) (h0:=wkS [((8,2),some (27,1))] []);try dsimp only at j1
 refine cFf e1 ?_ ?_<;>intro k3 h2 e1
 ·have i1:=ix h2;have m2:=ml a1.ZC (k3 29 _ rfl);have c1:=sl 2306048 a1.ZC (an u0 u1);have w1:=wr J;simp[i1,ZF];refine rpS ?_;refine cDs [] (NP (ZE.mk U nb) (nth a1.ZC J) zA8 zA8) ?_;refine cF e1 ?_ ?_<;>intro k4 h3 e1
  ·refine cDs [] (Yl a0 (sg u0)) ?_;exact rtD [.cell 6 55,.tmp 7] (ms f e1)
  exact nx3 e1 (hI:=by((try dsimp only);refine⟨zAD,zAD,zAD,?_⟩;exact SR (n:=2306048+J) j1.2.2.2 (ZH (n:=2306048) zAD (Zn (Yk.YC u1))))) (hw:=XN [((8,2),some (38,1))] [] rfl zAe)
 have c2:=sl 2306048 a1.ZC (an u0 u1);exact rtD [.cell 6 55,.tmp 7] (ms f e1)
theorem FO(h:b)(k:a:=by(intros;first|omega|with_unfolding_all (first|first|omega|(have h0:=h1;simp only[decide_eq_false_iff_not]at h0;have z:=KE a0 a1;have hc:=YX (ZE.YC u0);have w2:IntKind.i64.wrap ((Zg a0 a1)+1)=(Zg a0 a1)+1:=(YZ zAD zAD);have w:W ((Zg a0 a1)+1)=(Zg a0 a1)+1:=w2;omega))|((try simp only[Yw,show ∀x,IntKind.i64.wrap x=W x from fun _=>rfl]at*);omega))):a/\b:=⟨k,h⟩
theorem Fo(a0:ZE)(a1:Int)(u0:Sm 2318336 a0):Sd 156 [a0.row,rI a1] [(Qf a0 a1).1.row,rB (Qf a0 a1).2]:=by
 have f:=me (Qf.eq_1 a0 a1);refine soD func156 ntmps156 ?_;refine cDs [] (Yl a0 (sg u0)) ?_;refine cRs (qp a0 a1) ?_;refine cF f ?_ ?_<;>intro k1 h1 f
 ·exact rtD [.cell 4 55,.tmp 5] f
 refine drJ [25] mixed ?_;have c1:=sl 2318336 a0.ZC u0
 simp;repeat with_reducible refine FO ?_
 refine oJ (rows:=a0.ZC.map ZR.row) (news:=(a0.ZC.drop (W (Zg a0 a1+1)).toNat).map ZR.row) (size:=16) (u:=9) (j:=1) (len:=(Zg a0 a1).toNat) (lo:=(W (Zg a0 a1+1)).toNat) (n:=a0.ZC.length-(W (Zg a0 a1+1)).toNat) rfl rfl rfl rfl zAG zAG zAG zAG zAG (by first|omega|(first|omega|(have h0:=h1;simp only[decide_eq_false_iff_not]at h0;have z:=KE a0 a1;have hc:=YX (ZE.YC u0);have w2:IntKind.i64.wrap (Zg a0 a1+1)=Zg a0 a1+1:=YZ zAD zAD;have w:W (Zg a0 a1+1)=Zg a0 a1+1:=w2;omega))|(simp;first|omega|(have h0:=h1;simp only[decide_eq_false_iff_not]at h0;have z:=KE a0 a1;have hc:=YX (ZE.YC u0);have w2:IntKind.i64.wrap (Zg a0 a1+1)=Zg a0 a1+1:=YZ zAD zAD;have w:W (Zg a0 a1+1)=Zg a0 a1+1:=w2;omega))) (by first|omega|(simp;done)|(simp;first|omega|(have h0:=h1;simp only[decide_eq_false_iff_not]at h0;have z:=KE a0 a1;have hc:=YX (ZE.YC u0);have w2:IntKind.i64.wrap (Zg a0 a1+1)=Zg a0 a1+1:=YZ zAD zAD;have w:W (Zg a0 a1+1)=Zg a0 a1+1:=w2;omega))) (Rm _ _ _) zAG (by first|omega|(simp;first|omega|(have h0:=h1;simp only[decide_eq_false_iff_not]at h0;have z:=KE a0 a1;have hc:=YX (ZE.YC u0);have w2:IntKind.i64.wrap (Zg a0 a1+1)=Zg a0 a1+1:=YZ zAD zAD;have w:W (Zg a0 a1+1)=Zg a0 a1+1:=w2;omega))) ?_;simp;exact rtD [.cell 4 55,.tmp 5] f
theorem HT(a0 a1:ZE)(a2:List Int)(a3:Int)(u0:Sm 2301952 a0)(u1:Sm 2301952 a1)(u2:Sm 2301952 a2):Sd 88 [a0.row,a1.row,rL 1 iR a2,rI a3] [(XZ a0 a1 a2 a3).1.row,(XZ a0 a1 a2 a3).2.1.row,rB (XZ a0 a1 a2 a3).2.2]:=by
 have f:=me (XZ.eq_1 a0 a1 a2 a3);refine soD func88 ntmps88 ?_;refine cRs (Yb.rd (ID a0 a1.Id a2 a3 zBk zBk)) ?_;refine cDs [] (NX a1 (Xo a0 a1.Id a2 a3).1 a3 zBl zBl) ?_;refine cF f ?_ ?_<;>intro k1 h1 f
 ·refine okD fun k2=>?_;refine dIs mixed ?_;refine cDs [] (Yl a0 (sg u0)) ?_;refine cDs [] (Yl a1 (sg u1)) ?_;exact rtD [.cell 8 55,.cell 9 55,.tmp 10] f
 refine cDs [] (Yl a0 (sg u0)) ?_;refine lp3 (Kn.eq_2 a0 a1 a2) (fun J U nb=>Yy 70 [eX 4 (a0.row.map .d),eX 5 (a1.row.map .d),(8,.one (.bptr 8 0),[.box [.d (.int .i64 0),.nil 16]]),(9,.one (.bptr 9 0),[.box [.d (.int .i64 0),.nil 16]]),(13,.one (.bptr 13 0),[.box [.d (.int .i64 (Xs a1 (Xo a0 a1.Id a2 a3).1 a3).1.Id),.sref 33 1 0 (Xs a1 (Xo a0 a1.Id a2 a3).1 a3).1.ZC.length]]),(15,.one (.bptr 15 0),[.box [.d (.int .i64 U),.sref 15 2 0 nb.length],.none,.arr true 16 (nb.map ZR.row)]),(33,.any,[.none,.arr true 16 ((Xs a1 (Xo a0 a1.Id a2 a3).1 a3).1.ZC.map ZR.row)]),eL 48 1 a2 iR,eI 49 (a2.length:Int),eI 50 (J:Int)]) (fun n1 J U nb=>a2.length<n1+J/\J<=a2.length/\Sm 2301952 (ZE.mk U nb)) (a2.length+1) 0 a0.Id a0.ZC (fun p1 J U nb e1 j1=>?_) (hI:=by exact⟨zAD,zAD,Nat.zero_le _,u0⟩) (h0:=wkS [((15,2),some (47,1))] []);try dsimp only at j1
 refine cFf e1 ?_ ?_<;>intro k4 h2 e1
 ·have i1:=ix h2;have m2:=ml a2 (k4 48 _ rfl);have c1:=sl 2301952 a2 (an u0 (an u1 u2));have w1:=wr J;simp[i1,ZF];refine rpS ?_;refine cDs [] (Fo (ZE.mk U nb) (nth a2 J) (by exact ZH (n:=2301952) zAE j1.2.2.2)) ?_;refine cF e1 ?_ ?_<;>intro k5 h3 e1
  ·refine okD fun k6=>?_;refine dIs mixed ?_;refine cDs [] (Yl a0 (sg u0)) ?_;refine cDs [] (Yl a1 (sg u1)) ?_;exact rtD [.cell 8 55,.cell 9 55,.tmp 10] (ms f e1)
  exact nx3 e1 (hI:=by((try dsimp only);refine⟨zAD,zAD,zAD,?_⟩;exact P7 zAE j1.2.2.2)) (hw:=XN [((15,2),some (57,1))] [] rfl zAe)
 have c2:=sl 2301952 a2 (an u0 (an u1 u2));have f:=ms f e1;refine vv [(8,8),(9,9),(13,13),(15,15)] mixed zAV zAV zAV zAV ?_;simp;exact rtD [.cell 8 55,.cell 9 55,.tmp 10] f
theorem F5(a0:ZG)(a1 a2 a3:Int)(u0:Sm 2297856 a0):Sd 36 [a0.row,rI a1,rI a2,rI a3] [(K3 a0 a1 a2 a3).1.row,rB (K3 a0 a1 a2 a3).2]:=by
 have f:=me (K3.eq_1 a0 a1 a2 a3);refine soD func36 ntmps36 ?_;refine cDs [false,false,false,true,true,false,false,true,false,false,true,false] (YQ a0 (sg u0)) ?_;refine cRs (jA a0.Frame.Methods a0.Frame.Now) ?_;refine cRs (yO a0 a1) ?_;refine cGs (fun gg=>yO a0 a2) ?_;have c1:=sl 2297856 a0.ZB u0;have w1:IntKind.i64.wrap ((a0.ZB.length:Int)-1)=(a0.ZB.length:Int)-1:=YZ zAD zAD;refine cFo f ?_ ?_<;>intro k1 h1 f
 ·have q1:=h1;try simp[w1,Yt,ZZ]at q1
  simp;exact rtD [.cell 8 33,.tmp 9] f
 have q1:=h1;try simp[w1,Yt,ZZ]at q1
 simp;refine dIo mixed ?_;have i1:=ik a1.toNat a0.ZB
 have i2:=ik a2.toNat a0.ZB;simp[i1,ZF,i2];refine rpS ?_;refine cDs [] (HT (nth a0.ZB a1.toNat) (nth a0.ZB a2.toNat) ([a3]:List Int) (ZY a0.Frame.Methods a0.Frame.Now) (sg (Zn (ZG.Z5 u0))) (sg (Zn (ZG.Z5 u0))) (by simp(maxDischargeDepth:=12) [Tx,XH,ZH (m:=2301952) zAE u0];try omega)) ?_;refine cF f ?_ ?_<;>intro k3 h2 f
 ·refine okD fun k4=>?_;refine wR [(10,10),(12,12),(13,13),(63,10),(66,10)] [71,72] [] mixed zAV zAV zAV zAV zAV zAV zAV ?_;simp[i1,ZF];refine rpS ?_;refine N4 (t:=16) (j:=7) (i:=a1.toNat) (size:=2) (rows:=a0.ZB.map ZE.row) (ds:=(XZ (nth a0.ZB a1.toNat) (nth a0.ZB a2.toNat) ([a3]:List Int) (ZY a0.Frame.Methods a0.Frame.Now)).1.row) (L:=[(58,1)]) ?_;simp[Kh (x:=(XZ (nth a0.ZB a1.toNat) (nth a0.ZB a2.toNat) ([a3]:List Int) (ZY a0.Frame.Methods a0.Frame.Now)).1) rfl,c1,i1,i2,ZF,XT];refine rpS ?_;refine N4 (t:=16) (j:=7) (i:=a2.toNat) (size:=2) (rows:=(a0.ZB.set a1.toNat (XZ (nth a0.ZB a1.toNat) (nth a0.ZB a2.toNat) ([a3]:List Int) (ZY a0.Frame.Methods a0.Frame.Now)).1).map ZE.row) (ds:=(XZ (nth a0.ZB a1.toNat) (nth a0.ZB a2.toNat) ([a3]:List Int) (ZY a0.Frame.Methods a0.Frame.Now)).2.1.row) (L:=[(58,3)]) ?_;simp[Kh (x:=(XZ (nth a0.ZB a1.toNat) (nth a0.ZB a2.toNat) ([a3]:List Int) (ZY a0.Frame.Methods a0.Frame.Now)).1) rfl,c1,i1,i2,ZF,XT];refine rpS ?_;exact rtD [.cell 8 33,.tmp 9] f
 exact rtD [.cell 8 33,.tmp 9] f
theorem IJ(a0:ZE)(a1:Int)(u0:Sm 2322432 a0):Sd 89 [a0.row,rI a1] [(yj a0 a1).1.row,rI (yj a0 a1).2]:=by
 have f:=me (yj.eq_1 a0 a1);refine soD func89 ntmps89 ?_;refine lp2 (Q8.eq_2 a0 a1) (fun J U=>Yy 39 [eI 1 a1,eX 2 (a0.row.map .d),(4,.one (.bptr 4 0),[.box [.d (.int .i64 0),.nil 16]]),(6,.one (.bptr 6 0),[.box [.d (.int .i64 a0.Id),.sref 6 2 0 U.length],.none,.arr true 16 (U.map ZR.row)]),eL 13 16 a0.ZC ZR.row,eI 14 (a0.ZC.length:Int),eI 15 (J:Int)]) (fun n1 J U=>a0.ZC.length<n1+J/\J<=a0.ZC.length/\U.length<=0+1*J) (a0.ZC.length+1) 0 ([]:List ZR) (fun p1 J U e1 j1=>?_) (h0:=wkS [((6,2),none)] []);refine cFf e1 ?_ ?_<;>intro k2 h1 e1
 ·have i1:=ix h1;have m2:=ml a0.ZC (k2 13 _ rfl);have c1:=sl 2322432 a0.ZC u0;have w1:=wr J;simp[i1,ZF];refine rpS ?_;refine cF e1 ?_ ?_<;>intro k3 h2 e1
  ·refine okD fun k4=>?_;refine drJ [28] mixed ?_;simp;refine cDs [true,true,true,false,false] (qE (nth a0.ZC J) (sg (Zn (ZE.YC u0)))) ?_;refine jg ?_;simp;refine kX (ng:=U.map ZR.row) (news:=([nth a0.ZC J]:List ZR).map ZR.row) (l1:=[(6,2)]) (l2:=[(26,3),(26,4),(26,14),(26,15)]) (size:=16) ?_;simp;exact nx2 e1 (hw:=XN [((6,2),some (28,0))] [] rfl zAe)
  exact ny2 w1 e1
 have c2:=sl 2322432 a0.ZC u0;have f:=ms f e1;refine vv [(2,2),(4,4),(6,6),(32,2),(35,6)] mixed zAV zAV zAV zAV ?_;simp;exact rtD [.cell 4 55,.tmp 5] f
theorem IA(a0:ZG)(a1:Int)(u0:Sm 2314240 a0):Sd 37 [a0.row,rI a1] [(JZ a0 a1).1.row,rB (JZ a0 a1).2]:=by
 have f:=me (JZ.eq_1 a0 a1);refine soD func37 ntmps37 ?_;refine cDs [false,false,false,true,true,false,false,true,false,false,true,false] (YQ a0 (sg u0)) ?_;refine cRs (yO a0 a1) ?_;have c1:=sl 2314240 a0.ZB u0;have w1:IntKind.i64.wrap ((a0.ZB.length:Int)-1)=(a0.ZB.length:Int)-1:=YZ zAD zAD;refine cFo f ?_ ?_<;>intro k1 h1 f
 ·have q1:=h1;try simp[w1,Yt,ZZ]at q1
  simp;exact rtD [.cell 4 33,.tmp 5] f
 have q1:=h1;try simp[w1,Yt,ZZ]at q1
 simp;refine drJ [] mixed ?_;have i1:=ik a1.toNat a0.ZB
 simp[i1,ZF];refine rpS ?_;refine cDf i1 [] (IJ (nth a0.ZB a1.toNat) a0.Frame.Now (sg (Zn (ZG.Z5 u0)))) ?_;refine N4 (t:=8) (j:=7) (i:=a1.toNat) (size:=2) (rows:=a0.ZB.map ZE.row) (ds:=(yj (nth a0.ZB a1.toNat) a0.Frame.Now).1.row) (L:=[(26,1)]) ?_;simp;refine rpS ?_;exact rtD [.cell 4 33,.tmp 5] f
theorem Lo(a0:List YJ)(a1:Int):Sa 264 [rL 4 YJ.row a0,rI a1] [rI (qc a0 a1)]:=by
 have f:=me (qc.eq_1 a0 a1);refine so func264 ntmps264 ?_;refine lp1 (kE.eq_2 a0 a1) (fun J=>Yy 20 [eI 1 a1,eL 7 4 a0 YJ.row,eI 8 (a0.length:Int),eI 9 (J:Int)]) (fun n1 J=>a0.length<n1+J/\J<=a0.length) (a0.length+1) 0 (fun p1 J e1 j1=>?_);refine cFf e1 ?_ ?_<;>intro k2 h1 e1
 ·have i1:=ix h1;have m2:=ml a0 (k2 7 _ rfl);have w1:=wr J;simp[i1,ZF];refine rpS ?_;refine cF e1 ?_ ?_<;>intro k3 h2 e1
  ·exact rt [.tmp 4] (ms f e1)
  exact ny1 w1 e1
 exact rt [.tmp 4] (ms f e1)
theorem Wr(a0:List YJ)(a1:Int):Sa 213 [rL 4 YJ.row a0,rI a1] [rI (yL a0 a1)]:=by
 have f:=me (yL.eq_1 a0 a1);refine so func213 ntmps213 ?_;refine cRs (Lo a0 a1) ?_;refine cFf f ?_ ?_<;>intro k1 h1 f
 ·have i1:(qc a0 a1).toNat<a0.length:=by have:=IG a0 a1;exact il
  simp[i1,ZF];refine rpS ?_;exact rt [.tmp 4] f
 exact rt [.tmp 4] f
theorem Wh(a0:Zb)(a1:Int):Sa 157 [a0.row,rI a1] [rI (YS a0 a1)]:=by
 have f:=me (YS.eq_1 a0 a1);refine so func157 ntmps157 ?_;refine cRs (Jf a0.Z0 a1) ?_;refine cF f ?_ ?_<;>intro k1 h1 f
 ·exact rt [.tmp 4] f
 refine dIo mixed ?_;have i1:(YT a0.Z0 a1).toNat<a0.Z0.length:=by have:=zc a0.Z0 a1;exact il
 simp[i1,ZF];refine rpS ?_;refine cRs (Wr a0.Methods (nth a0.Z0 (YT a0.Z0 a1).toNat).Method) ?_;exact rt [.tmp 4] f
theorem TF(a0:Zb)(a1:Int):Sa 90 [a0.row,rI a1] [rB (J4 a0 a1)]:=by have f:=me (J4.eq_1 a0 a1);refine so func90 ntmps90 ?_;refine dIs mixed ?_;refine cRs (Jf a0.Z0 a1) ?_;refine cGs (fun gg=>Wh a0 a1) ?_;exact rt [.tmp 4] f
theorem G3(h:b)(k:a:=by(intros;first|omega|with_unfolding_all (first|first|omega|(have o:=YX (ZG.PY (Kv (n:=2310144) (a1:=a1) (a2:=a2) (a4:=0) (a5:=10000) u0 u1 zAE));(try simp);omega))|((try simp only[Yw,show ∀x,IntKind.i64.wrap x=W x from fun _=>rfl]at*);omega))):a/\b:=⟨k,h⟩
theorem Hx(a0:ZG)(a1 a2:Int)(a3:ZW)(u0:Sm 2310144 a0)(u1:Sm 2310144 a3):Sd 38 [a0.row,rI a1,rI a2,a3.row] [(Jt a0 a1 a2 a3).1.row,rB (Jt a0 a1 a2 a3).2]:=by
 have f:=me (Jt.eq_1 a0 a1 a2 a3);refine soD func38 ntmps38 ?_;refine cRs (TF a0.Frame a2) ?_;refine cFo f ?_ ?_<;>intro k1 h1 f
 ·have q1:=h1;try simp at q1
  simp;refine cDs [false,false,false,true,true,false,false,true,false,false,true,false] (YQ a0 zAj) ?_;refine Ir (rv:=[.cell 8 33,.tmp 9]) rfl ?_;simp[f.h];all_goals((try simp only[q2,true_and]);(try(rintro r (⟨a,_,rfl⟩|rfl) x hx<;>simp at hx<;>subst hx<;>rfl)))
 have q1:=h1;try simp at q1
 simp;refine cRs (P1 a0 a1 a2 a3 0 10000 (sg u0) (sg u1)) ?_;refine cDs [false,false,false,true,true,false,false,true,false,false,true,false] (YQ (Xa a0 a1 a2 a3 0 10000).1 zA5) ?_;refine cFo f ?_ ?_<;>intro k2 h2 f
 ·have q2:=h2;try simp at q2
  simp;repeat with_reducible refine G3 ?_
  refine Ir (rv:=[.cell 8 33,.tmp 9]) rfl ?_;simp[f.h];all_goals((try simp only[q2,true_and]);(try(rintro r (⟨a,_,rfl⟩|rfl) x hx<;>simp at hx<;>subst hx<;>rfl)))
 have q2:=h2;try simp at q2
 simp;refine Ir (rv:=[.cell 8 33,.tmp 9]) rfl ?_;simp[f.h];all_goals((try simp only[q2,true_and]);(try(rintro r (⟨a,_,rfl⟩|rfl) x hx<;>simp at hx<;>subst hx<;>rfl)))
theorem RE(a0:ZG)(u0:Sm 2326528 a0):Sd 91 [a0.row] [rL 1 iR (Zv a0)]:=by
 have f:=me (Zv.eq_1 a0);refine soD func91 ntmps91 ?_;refine lp2 (Qg.eq_2 a0) (fun J U=>Yy 33 [eX 1 (a0.row.map .d),(3,.one (.sref 3 0 0 J.length),[.arr false 1 (J.map iR)]),eL 8 3 a0.Frame.ZD Zo.row,eI 9 (a0.Frame.ZD.length:Int),eI 10 (U:Int)]) (fun n1 J U=>a0.Frame.ZD.length<n1+U/\U<=a0.Frame.ZD.length/\J.length<=0+1*U) (a0.Frame.ZD.length+1) ([]:List Int) 0 (fun p1 J U e1 j1=>?_) (h0:=wkS [((3,0),none)] []);refine cFf e1 ?_ ?_<;>intro k2 h1 e1
 ·have i1:=ix h1;have m2:=ml a0.Frame.ZD (k2 8 _ rfl);have c1:=sl 2326528 a0.Frame.ZD u0;have w1:=wr U;simp[i1,ZF];refine rpS ?_;refine cRs (PA a0.Yg (nth a0.Frame.ZD U).Id) ?_;refine cGs (fun gg=>TF a0.Frame (nth a0.Frame.ZD U).Key) ?_;refine cF e1 ?_ ?_<;>intro k3 h2 e1
  ·exact nx2 e1 (hw:=XN [((3,0),some (30,0))] [] rfl zAe)
  exact ny2 w1 e1
 exact rtD [.tmp 2] (ms f e1)
theorem zV(h:b)(k:a:=by(intros;first|omega|with_unfolding_all (first|first|omega|(have f0:0<=(ZO a0 a1).1:=(by first|omega|(simp at*;omega));have fi:=Ym a0 a1 f0;omega)|(have fl:=Jl a0;have fm:=YX (Zb.XJ (ZG.Xk u0));(try dsimp only at*);omega))|((try simp only[Yw,show ∀x,IntKind.i64.wrap x=W x from fun _=>rfl]at*);omega))):a/\b:=⟨k,h⟩
theorem ND(a0:ZG)(a1 a2:Int)(u0:Sm 2314240 a0):Sd 39 [a0.row,rI a1,rI a2] [(QS a0 a1 a2).1.row,rB (QS a0 a1 a2).2]:=by
 have f:=me (QS.eq_1 a0 a1 a2);refine soD func39 ntmps39 ?_;refine cDs [false,false,false,true,true,false,false,true,false,false,true,false] (YQ a0 (sg u0)) ?_;refine cRs (jX a0 a1) ?_;refine cRs (jA a0.Frame.Methods a0.Frame.Now) ?_;refine cRs (Yb.rd (RE a0 (sg u0))) ?_;refine cRs (PA a0.YN a1) ?_;refine cFt f ?_ ?_<;>intro k1 h1 f
 ·exact rtD [.cell 6 33,.tmp 7] f
 have i1:(ZO a0 a1).1.toNat<a0.ZB.length:=zBE;have i2:(ZO a0 a1).2.toNat<(nth a0.ZB (ZO a0 a1).1.toNat).ZC.length:=zBE;simp[i1,ZF,i2];repeat with_reducible refine zV ?_
 refine dIs mixed ?_;refine cRs (Nq (nth (nth a0.ZB (ZO a0 a1).1.toNat).ZC (ZO a0 a1).2.toNat) (ZY a0.Frame.Methods a0.Frame.Now) (sg (Zn (ZE.YC (Zn (ZG.Z5 u0)))))) ?_;refine lp2 (Xh.eq_2 a0 a1 a2) (fun J U=>Yy 124 [eI 2 a2,(6,.one (.bptr 6 0),[.box [.nil 5,.nil 3,.nil 4,.d (.int .i64 0),.d (.int .i64 0),.nil 7,.nil 1,.nil 2,.nil 1,.nil 1,.d (.int .i64 0),.nil 1]]),eX 8 (a0.Frame.row.map .d),(9,.one (.bptr 9 0),[.box [.sref 25 0 0 a0.Frame.Z0.length,.sref 25 1 0 a0.Frame.ZD.length,.sref 25 2 0 a0.Frame.Methods.length,.d (.int .i64 a0.Frame.XB),.d (.int .i64 a0.Frame.Now),.sref 25 5 0 a0.Zf.length,.sref 25 6 0 a0.Zy.length,.sref 25 7 0 a0.ZB.length,.sref 25 8 0 a0.Y9.length,.sref 25 9 0 a0.Yg.length,.d (.int .i64 a0.Next),.sref 25 11 0 a0.YN.length]]),eI 10 (ZO a0 a1).1,eI 11 (ZO a0 a1).2,eX 14 ((nth (nth a0.ZB (ZO a0 a1).1.toNat).ZC (ZO a0 a1).2.toNat).row.map .d),(15,.one (.bptr 15 0),[.box [.d (.int .i64 ((nth (nth a0.ZB (ZO a0 a1).1.toNat).ZC (ZO a0 a1).2.toNat).ZK.ZM.length:Int)),.d (.int .i64 (ZY a0.Frame.Methods a0.Frame.Now)),.d (.int .i64 (KV (nth (nth a0.ZB (ZO a0 a1).1.toNat).ZC (ZO a0 a1).2.toNat) (ZY a0.Frame.Methods a0.Frame.Now))),.nil 2,.sref 15 5 0 U.length],.none,.none,.none,.none,.arr false 5 (U.map Zm.row)]),(25,.any,[.arr false 5 (a0.Frame.Z0.map Y6.row),.arr false 3 (a0.Frame.ZD.map Zo.row),.arr false 4 (a0.Frame.Methods.map YJ.row),.none,.none,.arr false 7 (a0.Zf.map YO.row),.arr false 1 (a0.Zy.map iR),.arr true 2 (a0.ZB.map ZE.row),.arr false 1 (a0.Y9.map iR),.arr false 1 (a0.Yg.map iR),.none,.arr false 1 (a0.YN.map iR)]),eL 76 1 (Zv a0) iR,eI 77 ((Zv a0).length:Int),eI 78 (J:Int)]) (fun n1 J U=>(Zv a0).length<n1+J/\J<=(Zv a0).length/\U.length<=0+1*J) ((Zv a0).length+1) 0 ([]:List Zm) (fun p1 J U e1 j1=>?_) (h0:=wkS [((15,5),none)] []);try dsimp only at j1
 refine cFf e1 ?_ ?_<;>intro k4 h2 e1
 ·have i3:=ix h2;have m2:=ml (Zv a0) (k4 76 _ rfl);have w1:=wr J;simp[i3,ZF];repeat with_reducible refine zV ?_
  refine cRs (jx a0.Frame.Z0 a0.Frame.ZD (Zm.mk (nth (Zv a0) J) 0 a2 (KV (nth (nth a0.ZB (ZO a0 a1).1.toNat).ZC (ZO a0 a1).2.toNat) (ZY a0.Frame.Methods a0.Frame.Now)) 0) (sg (Zb.Xd (ZG.Xk u0))) (sg (Zb.XJ (ZG.Xk u0)))) ?_;refine cFt e1 ?_ ?_<;>intro k5 h3 e1
  ·exact rtD [.cell 6 33,.tmp 7] (ms f e1)
  simp;repeat with_reducible refine zV ?_
  exact nx2 e1 (hw:=XN [((15,5),some (102,0))] [] rfl zAe)
 have f:=ms f e1;refine cDs [] (S3 (nth (nth a0.ZB (ZO a0 a1).1.toNat).ZC (ZO a0 a1).2.toNat).ZK (Ze.mk ((nth (nth a0.ZB (ZO a0 a1).1.toNat).ZC (ZO a0 a1).2.toNat).ZK.ZM.length:Int) (ZY a0.Frame.Methods a0.Frame.Now) (KV (nth (nth a0.ZB (ZO a0 a1).1.toNat).ZC (ZO a0 a1).2.toNat) (ZY a0.Frame.Methods a0.Frame.Now)) ([]:List X4) U) zA0 zA0) ?_;refine drJ [] mixed ?_;simp[i1,ZF,i2];repeat with_reducible refine zV ?_
 refine pS (t:=25) (j:=7) (i:=(ZO a0 a1).1.toNat) (c:=1) (k':=(ZO a0 a1).2.toNat) (q:=14) (n:=16) (size:=2) (s:=(nth a0.ZB (ZO a0 a1).1.toNat).ZC.map ZR.row) (rows:=a0.ZB.map ZE.row) (ds:=(XK (nth (nth a0.ZB (ZO a0 a1).1.toNat).ZC (ZO a0 a1).2.toNat).ZK (Ze.mk ((nth (nth a0.ZB (ZO a0 a1).1.toNat).ZC (ZO a0 a1).2.toNat).ZK.ZM.length:Int) (ZY a0.Frame.Methods a0.Frame.Now) (KV (nth (nth a0.ZB (ZO a0 a1).1.toNat).ZC (ZO a0 a1).2.toNat) (ZY a0.Frame.Methods a0.Frame.Now)) ([]:List X4) U)).1.row) (L:=[(109,0),(109,1)]) rfl rfl rfl rfl (by simp;rfl) zAG zAG (by simp[i1,i2]) (by simp[ZF,XT,i1,i2]) (by simp[i1,i2]) zAG zAG zAG zAG zAG zAG ?_;simp[Kh (x:=ZE.mk (nth a0.ZB (ZO a0 a1).1.toNat).Id ((nth a0.ZB (ZO a0 a1).1.toNat).ZC.set (ZO a0 a1).2.toNat (ZR.mk (nth (nth a0.ZB (ZO a0 a1).1.toNat).ZC (ZO a0 a1).2.toNat).Id (nth (nth a0.ZB (ZO a0 a1).1.toNat).ZC (ZO a0 a1).2.toNat).XI (nth (nth a0.ZB (ZO a0 a1).1.toNat).ZC (ZO a0 a1).2.toNat).Doc (nth (nth a0.ZB (ZO a0 a1).1.toNat).ZC (ZO a0 a1).2.toNat).Sig (XK (nth (nth a0.ZB (ZO a0 a1).1.toNat).ZC (ZO a0 a1).2.toNat).ZK (Ze.mk ((nth (nth a0.ZB (ZO a0 a1).1.toNat).ZC (ZO a0 a1).2.toNat).ZK.ZM.length:Int) (ZY a0.Frame.Methods a0.Frame.Now) (KV (nth (nth a0.ZB (ZO a0 a1).1.toNat).ZC (ZO a0 a1).2.toNat) (ZY a0.Frame.Methods a0.Frame.Now)) ([]:List X4) U)).1))) rfl,ZF,XT,i1,i2];repeat with_reducible refine zV ?_
 exact rtD [.cell 6 33,.tmp 7] f
theorem P0(h:b)(k:a:=by(intros;first|omega|with_unfolding_all (first|first|omega|(have z:=Qd a0 a1 zBj;(try simp at*);omega))|(simp_all;done)|(simp_all;omega)|grind|((try simp only[Yw,show ∀x,IntKind.i64.wrap x=W x from fun _=>rfl]at*);omega))):a/\b:=⟨k,h⟩
theorem FF(a0:ZG)(a1 a2:Int)(u0:Sm 2310144 a0):Sd 40 [a0.row,rI a1,rI a2] [(J1 a0 a1 a2).1.row,rB (J1 a0 a1 a2).2]:=by
 have f:=me (J1.eq_1 a0 a1 a2);refine soD func40 ntmps40 ?_;refine cRs (Ld a0 a1) ?_;refine dIs mixed ?_;refine gIo ?_ ?_<;>intro G
 ·have g1:=G;try simp at g1
  have i1:(YW a0 a1).2.1.toNat<a0.Zf.length:=zBH;simp[i1,ZF,G];repeat with_reducible refine P0 ?_
  refine cGo (fun gg=>TF a0.Frame (nth a0.Zf (YW a0 a1).2.1.toNat).YA) ?_;simp;refine cKo f ?_ ?_<;>intro k2 h1 f
  ·simp;refine cD [false,false,false,true,true,false,false,true,false,false,true,false] (YQ a0 (sg u0)) ?_;simp;exact z9 _ f
  ·simp;refine dIo mixed ?_;simp[i1,ZF];repeat with_reducible refine P0 ?_
   refine cD [false,false,false,true,true,false,false,true,false,false,true,false] (TC a0 (YW a0 a1).1 a1 (Zs.mk (nth a0.Zf (YW a0 a1).2.1.toNat).Zc a2 (-1) (nth a0.Zf (YW a0 a1).2.1.toNat).YA 0) (sg u0) zBS) ?_;simp;exact z9 _ f
 ·simp[G];refine sGo ?_;simp;refine cKo f ?_ ?_<;>intro k4 h2 f
  ·simp;refine cD [false,false,false,true,true,false,false,true,false,false,true,false] (YQ a0 (sg u0)) ?_;simp;exact z9 _ f
  ·simp[G]at h2
theorem IN(a0:ZG)(a1:Zt)(u0:Sm 2293760 a0)(u1:Sm 2293760 a1):Sd 16 [a0.row,a1.row] [(Y3 a0 a1).1.row,rB (Y3 a0 a1).2]:=by
 have f:=me (Y3.eq_1 a0 a1);refine soD func16 ntmps16 ?_;refine cF f ?_ ?_<;>intro k1 h1 f
 ·refine cDs [false,false,false,true,true,false,false,true,false,false,true,false] (EE a0 a1.A (sg u0)) ?_;exact rtD _ f
 refine cF f ?_ ?_<;>intro k2 h2 f
 ·refine cDs [false,false,false,true,true,false,false,true,false,false,true,false] (Fh a0 a1.A a1.B a1.Doc a1.C a1.D (sg u0) (sg (Zt.zt u1))) ?_;exact rtD _ f
 refine cF f ?_ ?_<;>intro k3 h3 f
 ·refine cDs [false,false,false,true,true,false,false,true,false,false,true,false] (IB a0 a1.A (sg u0)) ?_;exact rtD _ f
 refine cF f ?_ ?_<;>intro k4 h4 f
 ·refine cDs [false,false,false,true,true,false,false,true,false,false,true,false] (IT a0 a1.A (sg u0)) ?_;exact rtD _ f
 refine cF f ?_ ?_<;>intro k5 h5 f
 ·refine cDs [false,false,false,true,true,false,false,true,false,false,true,false] (G6 a0 a1.A a1.Ids a1.B (sg u0) (sg (Zt.Au u1))) ?_;exact rtD _ f
 refine cF f ?_ ?_<;>intro k6 h6 f
 ·refine cDs [false,false,false,true,true,false,false,true,false,false,true,false] (F5 a0 a1.A a1.B a1.C (sg u0)) ?_;exact rtD _ f
 refine cF f ?_ ?_<;>intro k7 h7 f
 ·refine cDs [false,false,false,true,true,false,false,true,false,false,true,false] (IA a0 a1.A (sg u0)) ?_;exact rtD _ f
 refine cF f ?_ ?_<;>intro k8 h8 f
 ·refine cDs [false,false,false,true,true,false,false,true,false,false,true,false] (Hx a0 a1.A a1.B a1.Doc (sg u0) (sg (Zt.zt u1))) ?_;exact rtD _ f
 refine cF f ?_ ?_<;>intro k9 h9 f
 ·refine cDs [false,false,false,true,true,false,false,true,false,false,true,false] (ND a0 a1.A a1.B (sg u0)) ?_;exact rtD _ f
 refine cF f ?_ ?_<;>intro cS hR f
 ·refine cDs [false,false,false,true,true,false,false,true,false,false,true,false] (FF a0 a1.A a1.B (sg u0)) ?_;exact rtD _ f
 refine cDs [false,false,false,true,true,false,false,true,false,false,true,false] (YQ a0 (sg u0)) ?_;exact rtD _ f
theorem jk(a0:ZG)(a1:List Zt)(u0:Sm 1048576 a0)(u1:Sm 1048576 a1):Sd 8 [a0.row,rL 9 Zt.row a1] [(ZI a0 a1).row]:=by
 have f:=me (ZI.eq_1 a0 a1);refine soD func8 ntmps8 ?_;refine cDs [false,false,false,true,true,false,false,true,false,false,true,false] (YQ a0 (by exact sg u0)) ?_;refine pc (zn.eq_2 a1) (fun J U nb nm mA mW mS mT mU mb mD mI mE=>Yy 24 [(4,.one (.bptr 4 0),[.box [.nil 5,.nil 3,.nil 4,.d (.int .i64 0),.d (.int .i64 0),.nil 7,.nil 1,.nil 2,.nil 1,.nil 1,.d (.int .i64 0),.nil 1]]),(5,.one (.bptr 5 0),[.box [.sref 5 1 0 U.length,.sref 5 2 0 nb.length,.sref 5 3 0 nm.length,.d (.int .i64 mA),.d (.int .i64 mW),.sref 5 6 0 mS.length,.sref 5 7 0 mT.length,.sref 5 8 0 mU.length,.sref 5 9 0 mb.length,.sref 5 10 0 mD.length,.d (.int .i64 mI),.sref 5 12 0 mE.length],.arr false 5 (U.map Y6.row),.arr false 3 (nb.map Zo.row),.arr false 4 (nm.map YJ.row),.none,.none,.arr false 7 (mS.map YO.row),.arr false 1 (mT.map iR),.arr true 2 (mU.map ZE.row),.arr false 1 (mb.map iR),.arr false 1 (mD.map iR),.none,.arr false 1 (mE.map iR)]),eL 10 9 a1 Zt.row,eI 11 (a1.length:Int),eI 12 (J:Int)]) (fun n1 J U nb nm mA mW mS mT mU mb mD mI mE=>a1.length<n1+J/\J<=a1.length/\Sm (1048576+J) (ZG.mk (Zb.mk U nb nm mA mW) mS mT mU mb mD mI mE)) (a1.length+1) 0 a0.Frame.Z0 a0.Frame.ZD a0.Frame.Methods a0.Frame.XB a0.Frame.Now a0.Zf a0.Zy a0.ZB a0.Y9 a0.Yg a0.Next a0.YN (fun p1 J U nb nm mA mW mS mT mU mb mD mI mE e1 j1=>?_) (hI:=by exact⟨zAD,zAD,Nat.zero_le _,u0⟩) (h0:=wkS [((5,1),some (9,0)),((5,2),some (9,1)),((5,3),some (9,2)),((5,6),some (9,5)),((5,7),some (9,6)),((5,8),some (9,7)),((5,9),some (9,8)),((5,10),some (9,9)),((5,12),some (9,11))] []);try dsimp only at j1
 refine cFf e1 ?_ ?_<;>intro k2 h1 e1
 ·have i1:=ix h1;have m2:=ml a1 (k2 10 _ rfl);have c1:=sl 1048576 a1 (an u0 u1);have w1:=wr J;simp[i1,ZF];refine rpS ?_;refine cDs [false,false,false,true,true,false,false,true,false,false,true,false] (IN (ZG.mk (Zb.mk U nb nm mA mW) mS mT mU mb mD mI mE) (nth a1 J) zA2 zA2) ?_;exact oM e1 (hI:=by(have hl:=YX u1;(try dsimp only);refine⟨zAD,zAD,zAD,?_⟩;exact S4 (n:=1048576+J) zAD j1.2.2.2 (ZH (n:=1048576) zAD (Zn u1)) zAD)) (hw:=XN [((5,1),some (19,0)),((5,2),some (19,1)),((5,3),some (19,2)),((5,6),some (19,5)),((5,7),some (19,6)),((5,8),some (19,7)),((5,9),some (19,8)),((5,10),some (19,9)),((5,12),some (19,11))] [] rfl zAe)
 have c2:=sl 1048576 a1 (an u0 u1);exact rtD [.cell 4 33] (ms f e1)
theorem Dy(h:b)(k:a:=by(intros;first|omega|with_unfolding_all (first|(have d:=Bj (l:=a0.ZB) (i:=U) zAZ;omega))|((try simp only[Yw,show ∀x,IntKind.i64.wrap x=W x from fun _=>rfl]at*);omega))):a/\b:=⟨k,h⟩
theorem D1(a0:ZG)(u0:Sm 2342912 a0)(u1:itn a0.ZB<=1048576):So 25 [a0.row] [rL 16 ZR.row (Jo a0)]:=by
 have f:=me (Jo.eq_1 a0);refine so func25 ntmps25 ?_;refine lp2 (UO.eq_2 a0) (fun J U=>Yy 19 [(3,.one (.sref 3 0 0 J.length),[.arr false 16 (J.map ZR.row)]),eL 7 2 a0.ZB ZE.row,eI 8 (a0.ZB.length:Int),eI 9 (U:Int)]) (fun n1 J U=>a0.ZB.length<n1+U/\U<=a0.ZB.length/\J.length+itn (a0.ZB.drop U)<=1048576) (a0.ZB.length+1) ([]:List ZR) 0 (fun p1 J U e1 j1=>?_) (hI:=by((try dsimp only);simp only[List.length_nil,List.drop_zero];omega)) (h0:=wkS [((3,0),none)] []);refine cFf e1 ?_ ?_<;>intro k2 h1 e1
 ·have i1:=ix h1;have m2:=ml a0.ZB (k2 7 _ rfl);have c1:=sl 2342912 a0.ZB (an u0 u1);have w1:=wr U;simp[i1,ZF];refine evI rfl rfl rfl ?_;have c2:=sl 2342912 (nth a0.ZB U).ZC (an u0 u1);simp;repeat with_reducible refine Dy ?_
  exact nx2 e1 (hI:=by(have d:=Bj (l:=a0.ZB) (i:=U) zAZ;(try dsimp only);simp only[List.length_append];omega)) (hw:=XN [((3,0),some (16,0))] [] rfl zAe)
 exact rtO [.tmp 2] (ms f e1)
theorem Nz(a0:ZR)(u0:Sm 2326528 a0):Sd 74 [a0.row] [(ZV a0).row]:=by have f:=me (ZV.eq_1 a0);refine soD func74 ntmps74 ?_;refine cDs [] (K1 a0.ZK (sg (ZR.Yv u0))) ?_;refine wS (news:=([a0.ZK]:List ZX).map ZX.row) (L:=[(5,0),(5,1)]) rfl rfl rfl rfl zAG zAG zAG zAG zAG zAG ?_;simp;exact rtD [.cell 2 115] f
theorem qx(a0:ZX)(a1:ZW)(u0:Sm 2318336 a0)(u1:Sm 2318336 a1):Sd 13 [a0.row,a1.row] [rL 1 iR (XR a0 a1)]:=by
 have f:=me (XR.eq_1 a0 a1);refine soD func13 ntmps13 ?_;refine lp2 (xn.eq_2 a0 a1) (fun J U=>Yy 24 [eX 3 (a1.row.map .d),(5,.one (.sref 5 0 0 J.length),[.arr false 1 (J.map iR)]),eL 9 5 a0.ZQ Ze.row,eI 10 (a0.ZQ.length:Int),eI 11 (U:Int)]) (fun n1 J U=>a0.ZQ.length<n1+U/\U<=a0.ZQ.length/\J.length<=0+1*U) (a0.ZQ.length+1) ([]:List Int) 0 (fun p1 J U e1 j1=>?_) (h0:=wkS [((5,0),none)] []);refine cFf e1 ?_ ?_<;>intro k2 h1 e1
 ·have i1:=ix h1;have m2:=ml a0.ZQ (k2 9 _ rfl);have c1:=sl 2318336 a0.ZQ (an u0 u1);have w1:=wr U;simp[i1,ZF];refine rpS ?_;refine cRs (yN (nth a0.ZQ U).Method a1 (sg u1)) ?_;exact nx2 e1 (hw:=XN [((5,0),some (21,0))] [] rfl zAe)
 exact rtD [.tmp 4] (ms f e1)
theorem OO(a0:YB)(a1:ZW)(u0:Sm 2314240 a0)(u1:Sm 2314240 a1):Sd 137 [a0.row,a1.row] [rL 1 (slR 1 iR) (Z7 a0 a1)]:=by
 have f:=me (Z7.eq_1 a0 a1);refine soD func137 ntmps137 ?_;refine lp2 (KT.eq_2 a0 a1) (fun J U=>Yy 23 [eX 3 (a1.row.map .d),(5,.one (.sref 5 0 0 J.length),[.arr true 1 (J.map (slR 1 iR))]),eL 9 2 a0.Z9 ZX.row,eI 10 (a0.Z9.length:Int),eI 11 (U:Int)]) (fun n1 J U=>a0.Z9.length<n1+U/\U<=a0.Z9.length/\J.length<=U) (a0.Z9.length+1) ([]:List (List Int)) 0 (fun p1 J U e1 j1=>?_) (h0:=wkS [((5,0),none)] []);refine cFf e1 ?_ ?_<;>intro k2 h1 e1
 ·have i1:=ix h1;have m2:=ml a0.Z9 (k2 9 _ rfl);have c1:=sl 2314240 a0.Z9 (an u0 u1);have w1:=wr U;simp[i1,ZF];refine cDs [false] (qx (nth a0.Z9 U) a1 (sg (Zn (YB.Qi u0))) (sg u1)) ?_;refine jg ?_;simp;refine pP (ng:=J.map (slR 1 iR)) (news:=([XR (nth a0.Z9 U) a1]:List (List Int)).map (slR 1 iR)) (l1:=[(5,0)]) (l2:=[(18,0)]) (size:=1) rfl rfl rfl rfl zAG zAG zAG zAG zAG (by simp;(first|omega|(have z:=YX (YB.Qi u0);omega))) ?_;simp;exact nx2 e1 (hw:=XN [((5,0),some (20,0))] [] rfl zAe)
 exact rtD [.tmp 4] (ms f e1)
theorem L9(a0:Int):Sa 283 [rI a0] [rB (Sl a0)]:=by have f:=me (Sl.eq_1 a0);refine so func283 ntmps283 ?_;refine cRs (Zz a0 1 2147483646) ?_;exact rt [.tmp 2] f
theorem AT(a0:Y6):Sa 251 [a0.row] [rB (Dr a0)]:=by have f:=me (Dr.eq_1 a0);refine so func251 ntmps251 ?_;refine cRs (Zz a0.Number 1 99) ?_;refine cGs (fun gg=>Zz a0.qf 0 99) ?_;refine cGs (fun gg=>Zz a0.Method 0 99) ?_;refine cGs (fun gg=>Kp a0.RH) ?_;refine cGs (fun gg=>L9 a0.Ri) ?_;exact rt [.tmp 2] f
theorem CG(a0:List Y6):Sa 188 [rL 5 Y6.row a0] [rB (Mj a0)]:=by
 have f:=me (Mj.eq_1 a0);refine so func188 ntmps188 ?_;refine lp1 (Rz.eq_2 a0) (fun J=>Yy 34 [eL 0 5 a0 Y6.row,eL 5 5 a0 Y6.row,eI 6 (a0.length:Int),eI 7 (J:Int)]) (fun n1 J=>a0.length<n1+J/\J<=a0.length) (a0.length+1) 0 (fun p1 J e1 j1=>?_);refine cFf e1 ?_ ?_<;>intro k2 h1 e1
 ·have i1:=ix h1;have m2:=ml a0 (k2 0 _ rfl);have w1:=wr J;simp[i1,ZF];refine rpS ?_;refine dIs mixed ?_;refine cRs (AT (nth a0 J)) ?_;refine gIf ?_ ?_<;>intro G
  ·have i2:=ik (J-1) a0;have w2:IntKind.i64.wrap ((J:Int)-1)=(J:Int)-1:=YZ zAD zAD;simp[i2,ZF,w2,G];refine rpG ?_;refine cK e1 ?_ ?_<;>intro k4 h2 e1
   ·exact rtg [.tmp 2] (ms f e1)
   ·exact ny1 (an w1 (an w2 G)) e1
  ·refine cK e1 ?_ ?_<;>intro k5 h3 e1
   ·exact rtg [.tmp 2] (ms f e1)
   ·exact ny1 (an w1 G) e1
 exact rt [.tmp 2] (ms f e1)
theorem Pe(a0:List Zo):Sa 189 [rL 3 Zo.row a0] [rB (kS a0)]:=by
 have f:=me (kS.eq_1 a0);refine so func189 ntmps189 ?_;refine lp1 (jM.eq_2 a0) (fun J=>Yy 47 [eL 0 3 a0 Zo.row,eL 5 3 a0 Zo.row,eI 6 (a0.length:Int),eI 7 (J:Int)]) (fun n1 J=>a0.length<n1+J/\J<=a0.length) (a0.length+1) 0 (fun p1 J e1 j1=>?_);refine cFf e1 ?_ ?_<;>intro k2 h1 e1
 ·have i1:=ix h1;have m2:=ml a0 (k2 0 _ rfl);have w1:=wr J;simp[i1,ZF];refine rpS ?_;refine dIs mixed ?_;refine cRs (Zz (nth a0 J).Id 0 99) ?_;refine cGs (fun gg=>Zz (nth a0 J).Key 1 99) ?_;refine cGs (fun gg=>Zz (nth a0 J).Error 0 100) ?_;refine gIf ?_ ?_<;>intro G
  ·have i2:=ik (J-1) a0;have w2:IntKind.i64.wrap ((J:Int)-1)=(J:Int)-1:=YZ zAD zAD;simp[i2,ZF,w2,G];refine rpG ?_;refine cKo e1 ?_ ?_<;>intro k4 h2 e1
   ·have q2:=h2;try simp[ZZ]at q2
    have f:=ms f e1;simp;refine rpG ?_;exact rtg [.tmp 2] f
   ·have q2:=h2;try simp[ZZ]at q2
    simp;refine rpG ?_;exact ny1 (an w1 (an w2 G)) e1
  ·refine cKo e1 ?_ ?_<;>intro k5 h3 e1
   ·have q3:=h3;try simp[ZZ]at q3
    have f:=ms f e1;simp;refine rpG ?_;exact rtg [.tmp 2] f
   ·have q3:=h3;try simp[ZZ]at q3
    simp;refine rpG ?_;exact ny1 (an w1 G) e1
 exact rt [.tmp 2] (ms f e1)
theorem Fx(a0:YJ):Sa 252 [a0.row] [rB (Ol a0)]:=by have f:=me (Ol.eq_1 a0);refine so func252 ntmps252 ?_;refine cRs (Zz a0.Id 0 99) ?_;refine cGs (fun gg=>Kp a0.Li) ?_;refine cGs (fun gg=>Zz a0.Ends 1 10001) ?_;refine cGs (fun gg=>Zz a0.ON 1 10001) ?_;exact rt [.tmp 2] f
theorem Lx(a0:List YJ):Sa 190 [rL 4 YJ.row a0] [rB (Si a0)]:=by
 have f:=me (Si.eq_1 a0);refine so func190 ntmps190 ?_;refine lp1 (Vr.eq_2 a0) (fun J=>Yy 34 [eL 0 4 a0 YJ.row,eL 5 4 a0 YJ.row,eI 6 (a0.length:Int),eI 7 (J:Int)]) (fun n1 J=>a0.length<n1+J/\J<=a0.length) (a0.length+1) 0 (fun p1 J e1 j1=>?_);refine cFf e1 ?_ ?_<;>intro k2 h1 e1
 ·have i1:=ix h1;have m2:=ml a0 (k2 0 _ rfl);have w1:=wr J;simp[i1,ZF];refine rpS ?_;refine dIs mixed ?_;refine cRs (Fx (nth a0 J)) ?_;refine gIf ?_ ?_<;>intro G
  ·have i2:=ik (J-1) a0;have w2:IntKind.i64.wrap ((J:Int)-1)=(J:Int)-1:=YZ zAD zAD;simp[i2,ZF,w2,G];refine rpG ?_;refine cK e1 ?_ ?_<;>intro k4 h2 e1
   ·exact rtg [.tmp 2] (ms f e1)
   ·exact ny1 (an w1 (an w2 G)) e1
  ·refine cK e1 ?_ ?_<;>intro k5 h3 e1
   ·exact rtg [.tmp 2] (ms f e1)
   ·exact ny1 (an w1 G) e1
 exact rt [.tmp 2] (ms f e1)
theorem DH(a0:Zb):Sa 118 [a0.row] [rB (yR a0)]:=by have f:=me (yR.eq_1 a0);refine so func118 ntmps118 ?_;refine cRs (CG a0.Z0) ?_;refine cGs (fun gg=>Pe a0.ZD) ?_;refine cGs (fun gg=>Lx a0.Methods) ?_;refine cGs (fun gg=>Zz a0.XB 0 6) ?_;refine cGs (fun gg=>Kp a0.Now) ?_;exact rt [.tmp 2] f
theorem VD(a0:Int):Sa 208 [rI a0] [(SJ a0).row]:=by have f:=me (SJ.eq_1 a0);refine so func208 ntmps208 ?_;exact rt [.cell 2 62] f
theorem SS(a0:Int):Sa 210 [rI a0] [(VH a0).row]:=by have f:=me (VH.eq_1 a0);refine so func210 ntmps210 ?_;exact rt [.cell 2 62] f
theorem Jc(a0:List Y6)(a1:Int)(a2:List Int)(a3:Int)(u0:Sm 2318336 a0)(u1:Sm 2318336 a2):Sa 192 [rL 5 Y6.row a0,rI a1,rL 1 iR a2,rI a3] [rB (KN a0 a1 a2 a3)]:=by have f:=me (KN.eq_1 a0 a1 a2 a3);refine so func192 ntmps192 ?_;refine cRs (U2 a0 a1 a2 (sg u0) (sg u1)) ?_;exact rt [.tmp 8] f
theorem Pj(a0:List Y6)(a1:Zp)(u0:Sm 2314240 a0):Sa 211 [rL 5 Y6.row a0,a1.row] [rB (qV a0 a1)]:=by have f:=me (qV.eq_1 a0 a1);refine so func211 ntmps211 ?_;refine dIs mixed ?_;refine cRs (kj a1) ?_;refine cGs (fun gg=>Yb.rd (jI a1)) ?_;refine cGs (fun gg=>Jc a0 a1.Key (QQ a1) a1.Mark (sg u0) (by simp(maxDischargeDepth:=12) [jJ];try omega)) ?_;exact rt [.tmp 4] f
theorem I3(a0:ZX)(a1:ZU):Sa 285 [a0.row,a1.row] [rI (xZ a0 a1)]:=by
 have f:=me (xZ.eq_1 a0 a1);refine so func285 ntmps285 ?_;refine lp1 (ku.eq_2 a0 a1) (fun J=>Yy 20 [eX 3 (a1.row.map .d),eL 8 3 a0.ZM ZU.row,eI 9 (a0.ZM.length:Int),eI 10 (J:Int)]) (fun n1 J=>a0.ZM.length<n1+J/\J<=a0.ZM.length) (a0.ZM.length+1) 0 (fun p1 J e1 j1=>?_);refine cFf e1 ?_ ?_<;>intro k2 h1 e1
 ·have i1:=ix h1;have m2:=ml a0.ZM (k2 8 _ rfl);have w1:=wr J;simp[i1,ZF];refine rpS ?_;refine cRs (km (nth a0.ZM J) a1) ?_;refine cF e1 ?_ ?_<;>intro k3 h2 e1
  ·exact rt [.tmp 4] (ms f e1)
  exact ny1 w1 e1
 exact rt [.tmp 4] (ms f e1)
theorem KL(a0:Zh):Sa 253 [a0.row] [rB (Y8 a0)]:=by have f:=me (Y8.eq_1 a0);refine so func253 ntmps253 ?_;refine cRs (Kp a0.XF) ?_;refine cGs (fun gg=>Kp a0.To) ?_;exact rt [.tmp 2] f
theorem TA(a0 a1:Int):Sa 205 [rI a0,rI a1] [(K5 a0 a1).1.row,rB (K5 a0 a1).2]:=by
 have f:=me (K5.eq_1 a0 a1);refine so func205 ntmps205 ?_;refine cGs (fun gg=>KL (Zh.mk (if 0>a0 then 0 else a0) (if 10000<a1 then 10000 else a1))) ?_;refine cF f ?_ ?_<;>intro k1 h1 f
 ·exact rt [.cell 4 60,.tmp 5] f
 exact rt [.cell 4 60,.tmp 5] f
theorem GP(a0:List Zo)(a1:Zm):Sa 132 [rL 3 Zo.row a0,a1.row] [(Xw a0 a1).1.row,rB (Xw a0 a1).2]:=by
 have f:=me (Xw.eq_1 a0 a1);refine so func132 ntmps132 ?_;refine cRs (yo a0 a1.Authority) ?_;refine gIf ?_ ?_<;>intro G
 ·have i1:(Zk a0 a1.Authority).toNat<a0.length:=zBx;simp[i1,ZF,G];refine rpG ?_;refine cGg (fun gg=>Kp a1.Time) ?_;refine cK f ?_ ?_<;>intro k1 h1 f
  ·try(simp[G]at h1;done)
   all_goals
    exact rtg [.cell 4 60,.tmp 5] f
  ·try(simp[G]at h1;done)
   all_goals
    refine dIo mixed ?_;simp[i1,ZF,G];refine rpG ?_;refine cRg (TA (W (a1.Time-(nth a0 (Zk a0 a1.Authority).toNat).Error)) (W (a1.Time+(nth a0 (Zk a0 a1.Authority).toNat).Error))) ?_;exact rtg [.cell 4 60,.tmp 5] f
 ·refine cGg (fun gg=>Kp a1.Time) ?_;refine cK f ?_ ?_<;>intro k3 h2 f
  ·try(simp[G]at h2;done)
   all_goals
    exact rtg [.cell 4 60,.tmp 5] f
  ·try(simp[G]at h2;done)
   all_goals
    refine dIo mixed ?_;have i3:(Zk a0 a1.Authority).toNat<a0.length:=zBx
    simp[i3,ZF,G];refine rpG ?_;refine cRg (TA (W (a1.Time-(nth a0 (Zk a0 a1.Authority).toNat).Error)) (W (a1.Time+(nth a0 (Zk a0 a1.Authority).toNat).Error))) ?_;exact rtg [.cell 4 60,.tmp 5] f
theorem Du(a0:List Zh)(a1:Int):Sa 262 [rL 2 Zh.row a0,rI a1] [rI (Pa a0 a1)]:=by
 have f:=me (Pa.eq_1 a0 a1);refine so func262 ntmps262 ?_;refine lp2 (jV.eq_2 a0 a1) (fun J U=>Yy 28 [eI 1 a1,eI 5 J,eL 8 2 a0 Zh.row,eI 9 (a0.length:Int),eI 10 (U:Int)]) (fun n1 J U=>a0.length<n1+U/\U<=a0.length) (a0.length+1) 0 0 (fun p1 J U e1 j1=>?_);refine cFf e1 ?_ ?_<;>intro k2 h1 e1
 ·have i1:=ix h1;have m2:=ml a0 (k2 8 _ rfl);have w1:=wr U;simp[i1,ZF];refine rpS ?_;refine cRs (KL (nth a0 U)) ?_;refine cGs (fun gg=>Zz a1 (nth a0 U).XF (nth a0 U).To) ?_;refine cFo e1 ?_ ?_<;>intro k3 h2 e1
  ·have q2:=h2;try simp[ZZ]at q2
   simp;exact ny2 w1 e1
  have q2:=h2;try simp[ZZ]at q2
  simp;exact ny2 w1 e1
 exact rt [.tmp 4] (ms f e1)
theorem MV(a0:List Zh)(a1 a2:Int):Sa 206 [rL 2 Zh.row a0,rI a1,rI a2] [rB (JC a0 a1 a2)]:=by have f:=me (JC.eq_1 a0 a1 a2);refine so func206 ntmps206 ?_;refine cRs (Zz a2 0 (W ((a0.length:Int)-1))) ?_;refine cGs (fun gg=>Du a0 a1) ?_;exact rt [.tmp 6] f
theorem L6(a0:List Zh)(a1:Int):Sa 133 [rL 2 Zh.row a0,rI a1] [(Ja a0 a1).1.row,rB (Ja a0 a1).2]:=by
 have f:=me (Ja.eq_1 a0 a1);refine so func133 ntmps133 ?_;refine lp4 (Jj.eq_2 a0 a1) (fun J U nb nm=>Yy 25 [eL 0 2 a0 Zh.row,eI 1 a1,(4,.one (.bptr 4 0),[.box [.d (.int .i64 0),.d (.int .i64 0)]]),(6,.one (.bptr 6 0),[.box [.d (.int .i64 nb),.d (.int .i64 nm)]]),eB 7 J,eI 8 (U:Int)]) (fun n1 J U nb nm=>10001<n1+U) 10002 false 0 0 0 (fun p1 J U nb nm e1 j1=>?_);refine cF e1 ?_ ?_<;>intro k2 h1 e1
 ·have w1:=wr U;refine cRs (MV a0 (U:Int) a1) ?_;refine cF e1 ?_ ?_<;>intro k3 h2 e1
  ·refine cF e1 ?_ ?_<;>intro k4 h3 e1
   ·exact ny4 w1 e1
   exact ny4 w1 e1
  exact ny4 w1 e1
 exact rt [.cell 4 60,.tmp 5] (ms f e1)
theorem Td(a0:List Zo)(a1:List Zm)(a2:Int)(u0:Sm 2318336 a0)(u1:Sm 2318336 a1):Sa 69 [rL 3 Zo.row a0,rL 5 Zm.row a1,rI a2] [(QY a0 a1 a2).1.row,rB (QY a0 a1 a2).2]:=by
 have f:=me (QY.eq_1 a0 a1 a2);refine so func69 ntmps69 ?_;refine lp2 (zZ.eq_2 a0 a1) (fun J U=>Yy 38 [eL 0 3 a0 Zo.row,eI 2 a2,(6,.one (.bptr 6 0),[.box [.d (.int .i64 0),.d (.int .i64 0)]]),(8,.one (.sref 8 0 0 J.length),[.arr false 2 (J.map Zh.row)]),eL 13 5 a1 Zm.row,eI 14 (a1.length:Int),eI 15 (U:Int)]) (fun n1 J U=>a1.length<n1+U/\U<=a1.length/\J.length<=0+1*U) (a1.length+1) ([]:List Zh) 0 (fun p1 J U e1 j1=>?_) (h0:=wkS [((8,0),none)] []);refine cFf e1 ?_ ?_<;>intro k2 h1 e1
 ·have i1:=ix h1;have m2:=ml a1 (k2 13 _ rfl);have c1:=sl 2318336 a1 (an u0 u1);have w1:=wr U;simp[i1,ZF];refine rpS ?_;refine cRs (GP a0 (nth a1 U)) ?_;refine cF e1 ?_ ?_<;>intro k3 h2 e1
  ·exact rt [.cell 6 60,.tmp 7] (ms f e1)
  exact nx2 e1 (hw:=XN [((8,0),some (31,0))] [] rfl zAe)
 have c2:=sl 2318336 a1 (an u0 u1);have f:=ms f e1;refine cRs (L6 J a2) ?_;exact rt [.cell 6 60,.tmp 7] f
theorem Tl(a0:List Zo)(a1:Ze)(a2:Int)(u0:Sm 2314240 a0)(u1:Sm 2314240 a1):Sa 28 [rL 3 Zo.row a0,a1.row,rI a2] [(Yj a0 a1 a2).1.row,rB (Yj a0 a1 a2).2]:=by have f:=me (Yj.eq_1 a0 a1 a2);refine so func28 ntmps28 ?_;refine cRs (Td a0 a1.YV a2 (sg u0) (sg (Ze.EV u1))) ?_;exact rt [.cell 6 60,.tmp 7] f
theorem kJ(a0:Zb)(a1:Ze)(u0:Sm 2310144 a0)(u1:Sm 2310144 a1):Sa 128 [a0.row,a1.row] [(Jg a0 a1).1.row,rB (Jg a0 a1).2]:=by have f:=me (Jg.eq_1 a0 a1);refine so func128 ntmps128 ?_;refine cRs (Tl a0.ZD a1 a0.XB (sg (Zb.XJ u0)) (sg u1)) ?_;exact rt [.cell 4 60,.tmp 5] f
theorem Qk(h:b)(k:a:=by(intros;first|omega|with_unfolding_all (first|first|omega|(have cc:a0.ZQ.length<=2318336:=YX (xs u0);have z0:=l3;simp at z0;have z:=qo zAD z0.1;have z2:=z0.2;(try have w3:IntKind.i64.wrap (a2-1)=a2-1:=YZ zAD zAD);(try have w4:W (a2-1)=a2-1:=w3);first|omega|(refine⟨⟨z0.1,zAD⟩,zAD,zAD⟩)|(simp_all;omega)))|(simp_all;done)|(simp_all;omega)|grind|((try simp only[Yw,show ∀x,IntKind.i64.wrap x=W x from fun _=>rfl]at*);omega))):a/\b:=⟨k,h⟩
theorem Bg(a0:ZX)(a1:List Int)(a2:Int)(u0:Sm 2318336 a0)(u1:Sm 2318336 a1):Sa 130 [a0.row,rL 1 iR a1,rI a2] [rI (Ni a0 a1 a2)]:=by
 have f:=me (Ni.eq_1 a0 a1 a2);refine so func130 ntmps130 ?_;refine dIs mixed ?_;refine cRs (Zz a2 0 (W ((a0.ZQ.length:Int)-1))) ?_;refine gIo ?_ ?_<;>intro G
 ·have l3:=G;have c1:=sl 2318336 a0.ZQ (an u0 u1);have w1:IntKind.i64.wrap ((a0.ZQ.length:Int)-1)=(a0.ZQ.length:Int)-1:=YZ zAD zAD;have g1:=G;try simp[ZZ,w1]at g1
  have i1:a2.toNat<a0.ZQ.length:=zAS;simp[i1,ZF,G];refine zCM ?_;refine cGo (fun gg=>Zz (nth a0.ZQ a2.toNat).Count 0 (a0.ZM.length:Int)) ?_;simp[G];refine zCM ?_;refine cKo f ?_ ?_<;>intro k2 h1 f
  ·have q1:=h1;try simp[ZZ,w1]at q1
   simp[G];refine zCM ?_;exact rtg [.tmp 6] f
  ·have q1:=h1;try simp[ZZ,w1]at q1
   simp[i1,ZF,G];refine zCM ?_;refine cKo f ?_ ?_<;>intro k3 h2 f
   ·simp[G];refine zCM ?_;refine dIo mixed ?_;have i2:(W (a2-1)).toNat<a0.ZQ.length:=zAS
    simp[i2,ZF,G];refine zCM ?_;refine cR (jD (nth a0.ZQ a2.toNat).Method (nth a0.ZQ (W (a2-1)).toNat) (sg (Zn (ZX.zf u0)))) ?_ (ny:=by first|(simp;done)|(simp[W,w1];done));simp[G];refine zCM ?_;refine dIo mixed ?_;have i3:a2.toNat<a1.length:=zAS
    simp[i3,ZF,G];refine zCM ?_;refine cR (U0 (nth a0.ZQ a2.toNat).Method (nth a1 a2.toNat) (a0.ZM.take (nth a0.ZQ a2.toNat).Count.toNat) (KZ (nth a0.ZQ a2.toNat).Method (nth a0.ZQ (W (a2-1)).toNat)) (ZH (n:=2318336) zAE (xs (an u0 u1)))) ?_ (ny:=by first|(simp;done)|(simp[W,w1];done));simp[G];refine zCM ?_;exact rtg [.tmp 6] f
   ·simp[G];refine zCM ?_;refine dIo mixed ?_;have i4:a2.toNat<a1.length:=zAS
    simp[i4,ZF,G];refine zCM ?_;refine cR (U0 (nth a0.ZQ a2.toNat).Method (nth a1 a2.toNat) (a0.ZM.take (nth a0.ZQ a2.toNat).Count.toNat) 0 (ZH (n:=2318336) zAE (xs (an u0 u1)))) ?_;simp[G];refine zCM ?_;exact rtg [.tmp 6] f
 ·have l3:=G;simp[G];refine zCM ?_;refine sGo ?_;simp[G];refine zCM ?_;have c2:=sl 2318336 a0.ZQ (an u0 u1);have w2:IntKind.i64.wrap ((a0.ZQ.length:Int)-1)=(a0.ZQ.length:Int)-1:=YZ zAD zAD;refine cKo f ?_ ?_<;>intro k7 h3 f
  ·have q3:=h3;try simp[ZZ,w2]at q3
   simp[G];refine zCM ?_;exact rtg [.tmp 6] f
  ·simp[G]at h3
theorem L7(a0 a1:Int)(a2:List X4):Sa 201 [rI a0,rI a1,rL 2 X4.row a2] [rI (Sp a0 a1 a2)]:=by
 have f:=me (Sp.eq_1 a0 a1 a2);refine so func201 ntmps201 ?_;refine lp2 (jo.eq_2 a0 a2) (fun J U=>Yy 29 [eI 0 a0,eI 1 J,eL 9 2 a2 X4.row,eI 10 (a2.length:Int),eI 11 (U:Int)]) (fun n1 J U=>a2.length<n1+U/\U<=a2.length) (a2.length+1) a1 0 (fun p1 J U e1 j1=>?_);refine cFf e1 ?_ ?_<;>intro k2 h1 e1
 ·have i1:=ix h1;have m2:=ml a2 (k2 9 _ rfl);have w1:=wr U;simp[i1,ZF];refine rpS ?_;refine cF e1 ?_ ?_<;>intro k3 h2 e1
  ·refine cRs (Wf a0 (nth a2 U).QI J) ?_;exact ny2 w1 e1
  refine cRs (Wf a0 J (nth a2 U).QI) ?_;exact ny2 w1 e1
 exact rt [.tmp 6] (ms f e1)
theorem yh(a0:List Zm):Sa 202 [rL 5 Zm.row a0] [rB (Ke a0)]:=by
 have f:=me (Ke.eq_1 a0);refine so func202 ntmps202 ?_;refine lp1 (xT.eq_2 a0) (fun J=>Yy 22 [eL 0 5 a0 Zm.row,eI 3 (J:Int)]) (fun n1 J=>a0.length<n1+J/\1<=J) (a0.length+1) 1 (fun p1 J e1 j1=>?_);refine cF e1 ?_ ?_<;>intro k2 h1 e1
 ·have i1:=ix h1;have m2:=ml a0 (k2 0 _ rfl);have w1:=wr J;refine dIo mixed ?_;have i2:=ik (J-1) a0;have w2:IntKind.i64.wrap ((J:Int)-1)=(J:Int)-1:=YZ zAD zAD;simp[i2,ZF,w2,i1];refine rpS ?_;refine cF e1 ?_ ?_<;>intro k4 h2 e1
  ·exact rt [.tmp 2] (ms f e1)
  exact ny1 (an w1 w2) e1
 exact rt [.tmp 2] (ms f e1)
theorem Ij(a0:List Y6)(a1:List Zo)(a2:Zm)(u0:Sm 2314240 a0)(u1:Sm 2314240 a1):Sa 203 [rL 5 Y6.row a0,rL 3 Zo.row a1,a2.row] [rB (SG a0 a1 a2)]:=by have f:=me (SG.eq_1 a0 a1 a2);refine so func203 ntmps203 ?_;refine cRs (jx a0 a1 a2 (sg u0) (sg u1)) ?_;exact rt [.tmp 6] f
theorem N6(a0:List Y6)(a1:List Zo)(a2:Ze)(a3:Int)(u0:Sm 2310144 a0)(u1:Sm 2310144 a1)(u2:Sm 2310144 a2):Sa 129 [rL 5 Y6.row a0,rL 3 Zo.row a1,a2.row,rI a3] [rB (V7 a0 a1 a2 a3)]:=by
 have f:=me (V7.eq_1 a0 a1 a2 a3);refine so func129 ntmps129 ?_;refine dIs mixed ?_;refine cGs (fun gg=>L7 a2.Method a3 a2.Path) ?_;refine cGs (fun gg=>Zz (a2.YV.length:Int) 1 6) ?_;refine cGs (fun gg=>yh a2.YV) ?_;refine cFo f ?_ ?_<;>intro k2 h1 f
 ·have q1:=h1;try simp[ZZ]at q1
  simp;exact rt [.tmp 8] f
 have q1:=h1;try simp[ZZ]at q1
 simp;refine lp1 (kU.eq_2 a0 a1 a2) (fun J=>Yy 59 [eL 0 5 a0 Y6.row,eL 1 3 a1 Zo.row,eX 6 (a2.row.map .d),eL 40 5 a2.YV Zm.row,eI 41 (a2.YV.length:Int),eI 42 (J:Int)]) (fun n1 J=>a2.YV.length<n1+J/\J<=a2.YV.length) (a2.YV.length+1) 0 (fun p1 J e1 j1=>?_);refine cFf e1 ?_ ?_<;>intro k4 h2 e1
 ·have i1:=ix h2;have w1:=wr J;simp[i1,ZF];refine rpS ?_;refine cGs (fun gg=>Ij a0 a1 (nth a2.YV J) (sg u0) (sg u1)) ?_;refine cF e1 ?_ ?_<;>intro k5 h3 e1
  ·exact rt [.tmp 8] (ms f e1)
  exact ny1 w1 e1
 exact rt [.tmp 8] (ms f e1)
theorem TS(a0:List Zo)(a1:Zm):Sa 261 [rL 3 Zo.row a0,a1.row] [rI (X7 a0 a1)]:=by
 have f:=me (X7.eq_1 a0 a1);refine so func261 ntmps261 ?_;refine cRs (yo a0 a1.Authority) ?_;refine cFf f ?_ ?_<;>intro k1 h1 f
 ·have i1:(Zk a0 a1.Authority).toNat<a0.length:=zBx;simp[i1,ZF];refine rpS ?_;exact rt [.tmp 4] f
 exact rt [.tmp 4] f
theorem NF(a0:List Y6)(a1:List Zo)(a2:List YJ)(a3:Ze):Sa 204 [rL 5 Y6.row a0,rL 3 Zo.row a1,rL 4 YJ.row a2,a3.row] [rI (Jn a0 a1 a2 a3)]:=by
 have f:=me (Jn.eq_1 a0 a1 a2 a3);refine so func204 ntmps204 ?_;refine cRs (Wr a2 a3.Method) ?_;refine lp2 (yP.eq_2 a0 a1 a2 a3) (fun J U=>Yy 42 [eL 0 5 a0 Y6.row,eL 1 3 a1 Zo.row,eL 2 4 a2 YJ.row,eI 9 J,eL 18 5 a3.YV Zm.row,eI 19 (a3.YV.length:Int),eI 20 (U:Int)]) (fun n1 J U=>a3.YV.length<n1+U/\U<=a3.YV.length) (a3.YV.length+1) (yL a2 a3.Method) 0 (fun p1 J U e1 j1=>?_);refine cFf e1 ?_ ?_<;>intro k2 h1 e1
 ·have i1:=ix h1;have m2:=ml a3.YV (k2 18 _ rfl);have w1:=wr U;simp[i1,ZF];refine rpS ?_;refine cRs (TS a1 (nth a3.YV U)) ?_;refine cRs (Jf a0 (X7 a1 (nth a3.YV U))) ?_;refine cFt e1 ?_ ?_<;>intro k3 h2 e1
  ·exact rt [.tmp 8] (ms f e1)
  have i2:(YT a0 (X7 a1 (nth a3.YV U))).toNat<a0.length:=by have:=zc a0 (X7 a1 (nth a3.YV U));exact il
  simp[i2,ZF];refine rpS ?_;refine cRs (Wr a2 (nth a0 (YT a0 (X7 a1 (nth a3.YV U))).toNat).Method) ?_;exact ny2 w1 e1
 exact rt [.tmp 8] (ms f e1)
theorem RJ(h:b)(k:a:=by(intros;first|omega|with_unfolding_all (first|(first|omega|(have mm:a1.ZQ.length<=2306048:=YX (xs u1);have ww:=GH a1.ZQ.length zAD;(try rw[ww]at q1);(try rw[ww]at q2);have w3:W (a2+1)=a2+1:=YZ zAD zAD;have w4:IntKind.i64.wrap (a2+1)=a2+1:=w3;omega)))|((try simp only[Yw,show ∀x,IntKind.i64.wrap x=W x from fun _=>rfl]at*);omega))):a/\b:=⟨k,h⟩
theorem RK(a0:Zb)(a1:ZX)(a2:Int)(u0:Sm 2306048 a0)(u1:Sm 2306048 a1):Sa 131 [a0.row,a1.row,rI a2] [rB (zS a0 a1 a2)]:=by
 have f:=me (zS.eq_1 a0 a1 a2);refine so func131 ntmps131 ?_;refine cRs (Zz a2 0 (W ((a1.ZQ.length:Int)-1))) ?_;have c1:=sl 2306048 a1.ZQ (an u0 u1);have w1:IntKind.i64.wrap ((a1.ZQ.length:Int)-1)=(a1.ZQ.length:Int)-1:=YZ zAD zAD;refine cFo f ?_ ?_<;>intro k1 h1 f
 ·have q1:=h1;try simp[ZZ,w1]at q1
  simp;exact rt [.tmp 6] f
 have q1:=h1;try simp[ZZ,w1]at q1
 simp;refine dIo mixed ?_;have i1:a2.toNat<a1.ZQ.length:=zAm
 simp[i1,ZF];repeat with_reducible refine RJ ?_
 refine cRs (NF a0.Z0 a0.ZD a0.Methods (nth a1.ZQ a2.toNat)) ?_;refine cFo f ?_ ?_<;>intro k3 h2 f
 ·have q2:=h2;try simp[w1]at q2
  simp;exact rt [.tmp 6] f
 have q2:=h2;try simp[w1]at q2
 simp;refine dIo mixed ?_;have i2:(W (a2+1)).toNat<a1.ZQ.length:=zAm
 simp[i2,ZF];repeat with_reducible refine RJ ?_
 refine cRs (kJ a0 (nth a1.ZQ (W (a2+1)).toNat) (sg u0) (sg (Zn (ZX.zf u1)))) ?_ (ny:=by first|(simp;done)|(simp;done));exact rt [.tmp 6] f
theorem Ro(a0:Zb)(a1:ZX)(a2:List Int)(u0:Sm 2301952 a0)(u1:Sm 2301952 a1)(u2:Sm 2301952 a2):Sa 68 [a0.row,a1.row,rL 1 iR a2] [rI (JT a0 a1 a2)]:=by
 have f:=me (JT.eq_1 a0 a1 a2);refine so func68 ntmps68 ?_;refine okL fun k1=>?_;refine lp1 (Kt.eq_2 a0 a1 a2) (fun J=>Yy 58 [eL 2 1 a2 iR,eX 3 (a0.row.map .d),eX 4 (a1.row.map .d),eI 7 (J:Int)]) (fun n1 J=>J<n1/\J<=a1.ZQ.length) (a1.ZQ.length+1) a1.ZQ.length (fun p1 J e1 j1=>?_);refine cFo e1 ?_ ?_<;>intro k2 h1 e1
 ·have q1:=h1;try simp at q1
  have m1:=ml a1.ZQ (k1 11 _ rfl);have w1:IntKind.i64.wrap ((J:Int)-1)=(J:Int)-1:=YZ zAD zAD;have w2:((J-1:Nat):Int)=(J:Int)-1:=zAD;simp;refine dIo mixed ?_;have i2:=ik (J-1) a1.ZQ;simp[i2,ZF,w1,OZ];refine rpS ?_;refine cRs (kJ a0 (nth a1.ZQ (J-1)) (sg u0) (sg (Zn (ZX.zf u1)))) ?_;refine dIs mixed ?_;refine gIf ?_ ?_<;>intro G
  ·have l3:=G;have g1:=G;try simp at g1
   simp[i2,ZF,w1,OZ,G];refine rpG ?_;refine wE rfl rfl rfl rfl rfl rfl (fun gg=>Bg a1 a2 (W ((J:Int)-1)) (sg u1) (sg u2)) zAO zAO zAO zAO ?_;simp[G];refine rpG ?_;refine wE rfl rfl rfl rfl rfl rfl (fun gg=>N6 a0.Z0 a0.ZD (nth a1.ZQ (J-1)) (Ni a1 a2 (W ((J:Int)-1))) (sg (Zb.Xd u0)) (sg (Zb.XJ u0)) (sg (Zn (ZX.zf u1)))) zAO zAO zAO zAO ?_;simp[G];refine rpG ?_;refine wE rfl rfl rfl rfl rfl rfl (fun gg=>RK a0 a1 (W ((J:Int)-1)) (sg u0) (sg u1)) zAO zAO zAO zAO ?_;simp[G];refine rpG ?_;refine cKo e1 ?_ ?_<;>intro k5 h2 e1
   ·have q2:=h2;try simp[w1,w2]at q2
    have f:=ms f e1;simp[G];refine rpG ?_;exact rtg [.tmp 6] f
   ·have q2:=h2;try simp[w1,w2]at q2
    simp[G];refine rpG ?_;exact ny1 (an w1 (an w2 G)) e1
  ·have l3:=G;refine sGo ?_;simp[G];refine rpG ?_;refine sGo ?_;simp[G];refine rpG ?_;refine wE rfl rfl rfl rfl rfl rfl (fun gg=>RK a0 a1 (W ((J:Int)-1)) (sg u0) (sg u1)) zAO zAO zAO zAO ?_;simp[G];refine rpG ?_;refine cKo e1 ?_ ?_<;>intro k6 h3 e1
   ·have q3:=h3;try simp[w1,w2]at q3
    have f:=ms f e1;simp[G];refine rpG ?_;exact rtg [.tmp 6] f
   ·simp[G]at h3
 have q1:=h1;try simp at q1
 have f:=ms f e1;simp;exact rt [.tmp 6] f
theorem DB(a0:Zb)(a1:ZX)(a2:List Int)(a3:Int)(u0:Sm 2297856 a0)(u1:Sm 2297856 a1)(u2:Sm 2297856 a2):Sa 286 [a0.row,a1.row,rL 1 iR a2,rI a3] [rI (zK a0 a1 a2 a3)]:=by
 have f:=me (zK.eq_1 a0 a1 a2 a3);refine so func286 ntmps286 ?_;refine cRs (Ro a0 a1 a2 (sg u0) (sg u1) (sg u2)) ?_;refine lp2 (zi.eq_2 a0 a1 a3) (fun J U=>Yy 49 [eI 3 a3,eX 4 (a0.row.map .d),eX 5 (a1.row.map .d),eI 9 J,eI 10 U]) (fun n1 J U=>(a1.ZQ.length:Int)+1<n1+U/\0<=U/\U<=a1.ZQ.length) (a1.ZQ.length+2) a0.Now (JT a0 a1 a2) (fun p1 J U e1 j1=>?_) (hI:=by(have z:=Ly a0 a1 a2;(try dsimp only);omega));refine cF e1 ?_ ?_<;>intro k2 h1 e1
 ·refine okD fun k3=>?_;refine dIo mixed ?_;have i1:=ik U.toNat a1.ZQ
  simp[i1,ZF];refine rpS ?_;refine cRf i1 (kJ a0 (nth a1.ZQ U.toNat) (sg u0) (sg (Zn (ZX.zf u1)))) ?_;refine cF e1 ?_ ?_<;>intro k4 h2 e1
  ·exact nx2 e1 (hI:=by(have cc:a1.ZQ.length<=2297856:=YX (xs u1);have w2:W (U+1)=U+1:=YZ (by simp at*;omega) (by simp at*;omega);(try dsimp only);rw[w2];simp at*;omega))
  exact nx2 e1 (hI:=by(have cc:a1.ZQ.length<=2297856:=YX (xs u1);have w2:W (U+1)=U+1:=YZ (by simp at*;omega) (by simp at*;omega);(try dsimp only);rw[w2];simp at*;omega))
 exact rt [.tmp 8] (ms f e1)
theorem Ic(a0:Zb)(a1:ZX)(a2:List Int)(a3:ZU)(u0:Sm 2293760 a0)(u1:Sm 2293760 a1)(u2:Sm 2293760 a2)(u3:Sm 2293760 a3):Sa 263 [a0.row,a1.row,rL 1 iR a2,a3.row] [rI (zX a0 a1 a2 a3)]:=by
 have f:=me (zX.eq_1 a0 a1 a2 a3);refine so func263 ntmps263 ?_;refine cRs (I3 a1 a3) ?_;refine cF f ?_ ?_<;>intro k1 h1 f
 ·exact rt [.tmp 8] f
 refine cRs (DB a0 a1 a2 (xZ a1 a3) (sg u0) (sg u1) (sg u2)) ?_;exact rt [.tmp 8] f
theorem VR(a0:Zb)(a1:YB)(a2:List (List Int))(a3:ZU)(u0:Sm 2289664 a0)(u1:Sm 2289664 a1)(u2:Sm 2289664 a2)(u3:Sm 2289664 a3):Sa 212 [a0.row,a1.row,rL 1 (slR 1 iR) a2,a3.row] [rI (Z4 a0 a1 a2 a3)]:=by
 have f:=me (Z4.eq_1 a0 a1 a2 a3);refine so func212 ntmps212 ?_;refine lp2 (zd.eq_2 a0 a1 a2 a3) (fun J U=>Yy 38 [eL 2 1 a2 (slR 1 iR),eX 4 (a0.row.map .d),eX 7 (a3.row.map .d),eI 9 J,eL 15 2 a1.Z9 ZX.row,eI 16 (a1.Z9.length:Int),eI 17 (U:Int)]) (fun n1 J U=>a1.Z9.length<n1+U/\U<=a1.Z9.length) (a1.Z9.length+1) a0.Now 0 (fun p1 J U e1 j1=>?_);refine cFf e1 ?_ ?_<;>intro k2 h1 e1
 ·have i1:=ix h1;have m2:=ml a1.Z9 (k2 15 _ rfl);have c1:=sl 2289664 a1.Z9 (an u0 (an u1 (an u2 u3)));have w1:=wr U;simp[i1,ZF];refine rpS ?_;refine cF e1 ?_ ?_<;>intro k3 h2 e1
  ·have i2:=ix h2;have w2:=wr U;refine dIo mixed ?_;simp[i2,ZF];refine rpS ?_;refine cRs (Ic a0 (nth a1.Z9 U) (nth a2 U) a3 (sg u0) (sg (Zn (YB.Qi u1))) (sg (Zn u2)) (sg u3)) ?_;exact ny2 w2 e1
  exact ny2 w1 e1
 exact rt [.tmp 8] (ms f e1)
theorem Tz(a0:ZU):Sa 270 [a0.row] [(XA a0).1.row,rB (XA a0).2]:=by
 have f:=me (XA.eq_1 a0);refine so func270 ntmps270 ?_;refine dIs mixed ?_;refine cRs (Kz a0) ?_;refine gIf ?_ ?_<;>intro G
 ·have l3:=G;have g1:=G;try simp at g1
  have i1:4<a0.YM.length:=zAJ;simp[i1,ZF,G];refine rpG ?_;refine cK f ?_ ?_<;>intro k2 h1 f
  ·try(simp[G]at h1;done)
   all_goals
    exact rtg [.cell 2 127,.tmp 3] f
  ·try(simp[G]at h1;done)
   all_goals
    refine dIo mixed ?_;have i2:1<a0.YM.length:=zAJ
    have i3:2<a0.YM.length:=zAJ;have i4:3<a0.YM.length:=zAJ;simp[i2,ZF,i3,i4,i1,G];refine rpG ?_;exact rtg [.cell 2 127,.tmp 3] f
 ·have l3:=G;refine cK f ?_ ?_<;>intro k4 h2 f
  ·try(simp[G]at h2;done)
   all_goals
    exact rtg [.cell 2 127,.tmp 3] f
  ·try(simp[G]at h2;done)
   all_goals
    refine dIo mixed ?_;have i6:1<a0.YM.length:=zAJ
    have i7:2<a0.YM.length:=zAJ;have i8:3<a0.YM.length:=zAJ;have i9:4<a0.YM.length:=zAJ;simp[i6,ZF,i7,i8,i9,G];refine rpG ?_;exact rtg [.cell 2 127,.tmp 3] f
theorem Lr(a0:ZU):Sa 287 [a0.row] [(W0 a0).1.row,rB (W0 a0).2]:=by
 have f:=me (W0.eq_1 a0);refine so func287 ntmps287 ?_;refine cRs (Kz a0) ?_;refine cF f ?_ ?_<;>intro k1 h1 f
 ·exact rt [.cell 2 135,.tmp 3] f
 refine dIo mixed ?_;have i1:1<a0.YM.length:=zAJ
 have i2:2<a0.YM.length:=zAJ;have i3:3<a0.YM.length:=zAJ;have i4:4<a0.YM.length:=zAJ;simp[i1,ZF,i2,i3,i4];refine rpS ?_;exact rt [.cell 2 135,.tmp 3] f
theorem I8(a0:ZU):Sa 288 [a0.row] [(Uu a0).1.row,rB (Uu a0).2]:=by
 have f:=me (Uu.eq_1 a0);refine so func288 ntmps288 ?_;refine dIs mixed ?_;refine cRs (Kz a0) ?_;refine gIf ?_ ?_<;>intro G
 ·have l3:=G;have g1:=G;try simp at g1
  have i1:1<a0.YM.length:=zAJ;simp[i1,ZF,G];refine rpG ?_;refine cK f ?_ ?_<;>intro k2 h1 f
  ·try(simp[G]at h1;done)
   all_goals
    exact rtg [.cell 2 46,.tmp 3] f
  ·try(simp[G]at h1;done)
   all_goals
    refine dIo mixed ?_;have i2:2<a0.YM.length:=zAJ
    have i3:3<a0.YM.length:=zAJ;have i4:4<a0.YM.length:=zAJ;have i5:5<a0.YM.length:=zAJ;have i6:6<a0.YM.length:=zAJ;have i7:7<a0.YM.length:=zAJ;have i8:8<a0.YM.length:=zAJ;simp[i1,ZF,i2,i3,i4,i5,i6,i7,i8,G];refine rpG ?_;exact rtg [.cell 2 46,.tmp 3] f
 ·have l3:=G;refine cK f ?_ ?_<;>intro k4 h2 f
  ·try(simp[G]at h2;done)
   all_goals
    exact rtg [.cell 2 46,.tmp 3] f
  ·try(simp[G]at h2;done)
   all_goals
    refine dIo mixed ?_;have i10:1<a0.YM.length:=zAJ
    have i11:2<a0.YM.length:=zAJ;have i12:3<a0.YM.length:=zAJ;have i13:4<a0.YM.length:=zAJ;have i14:5<a0.YM.length:=zAJ;have i15:6<a0.YM.length:=zAJ;have i16:7<a0.YM.length:=zAJ;have i17:8<a0.YM.length:=zAJ;simp[i10,ZF,i11,i12,i13,i14,i15,i16,i17,G];refine rpG ?_;exact rtg [.cell 2 46,.tmp 3] f
theorem UY(a0:ZU):Sa 275 [a0.row] [(Je a0).1.row,rB (Je a0).2]:=by
 have f:=me (Je.eq_1 a0);refine so func275 ntmps275 ?_;refine dIs mixed ?_;refine cRs (Kz a0) ?_;refine gIf ?_ ?_<;>intro G
 ·have l3:=G;have g1:=G;try simp at g1
  have i1:5<a0.YM.length:=zAJ;simp[i1,ZF,G];refine rpG ?_;refine cK f ?_ ?_<;>intro k2 h1 f
  ·try(simp[G]at h1;done)
   all_goals
    exact rtg [.cell 2 273,.tmp 3] f
  ·try(simp[G]at h1;done)
   all_goals
    refine dIo mixed ?_;have i2:1<a0.YM.length:=zAJ
    have i3:2<a0.YM.length:=zAJ;have i4:3<a0.YM.length:=zAJ;have i5:4<a0.YM.length:=zAJ;simp[i2,ZF,i3,i4,i5,i1,G];refine rpG ?_;exact rtg [.cell 2 273,.tmp 3] f
 ·have l3:=G;refine cK f ?_ ?_<;>intro k4 h2 f
  ·try(simp[G]at h2;done)
   all_goals
    exact rtg [.cell 2 273,.tmp 3] f
  ·try(simp[G]at h2;done)
   all_goals
    refine dIo mixed ?_;have i7:1<a0.YM.length:=zAJ
    have i8:2<a0.YM.length:=zAJ;have i9:3<a0.YM.length:=zAJ;have i10:4<a0.YM.length:=zAJ;have i11:5<a0.YM.length:=zAJ;simp[i7,ZF,i8,i9,i10,i11,G];refine rpG ?_;exact rtg [.cell 2 273,.tmp 3] f
theorem IS(a0:List Y6)(a1:ZU)(u0:Sm 2314240 a0)(u1:Sm 2314240 a1):Sa 265 [rL 5 Y6.row a0,a1.row] [rB (QP a0 a1)]:=by
 have f:=me (QP.eq_1 a0 a1);refine so func265 ntmps265 ?_;refine cRs (Kz a1) ?_;refine cF f ?_ ?_<;>intro k1 h1 f
 ·refine cRs (UB a1) ?_;refine cGs (fun gg=>Jc a0 a1.Key a1.YM a1.Mark (sg u0) (sg (ZU.Sn u1))) ?_;exact rt [.tmp 4] f
 refine cF f ?_ ?_<;>intro k2 h2 f
 ·refine cRs (Tz a1) ?_;refine cGs (fun gg=>Jc a0 a1.Key a1.YM a1.Mark (sg u0) (sg (ZU.Sn u1))) ?_;exact rt [.tmp 4] f
 refine cF f ?_ ?_<;>intro k3 h3 f
 ·refine cRs (Lr a1) ?_;refine cGs (fun gg=>Jc a0 a1.Key a1.YM a1.Mark (sg u0) (sg (ZU.Sn u1))) ?_;exact rt [.tmp 4] f
 refine cF f ?_ ?_<;>intro k4 h4 f
 ·refine cRs (I8 a1) ?_;refine cGs (fun gg=>Jc a0 a1.Key a1.YM a1.Mark (sg u0) (sg (ZU.Sn u1))) ?_;exact rt [.tmp 4] f
 refine cF f ?_ ?_<;>intro k5 h5 f
 ·refine cRs (UY a1) ?_;refine cGs (fun gg=>Jc a0 a1.Key a1.YM a1.Mark (sg u0) (sg (ZU.Sn u1))) ?_;exact rt [.tmp 4] f
 refine cGs (fun gg=>Jc a0 a1.Key a1.YM a1.Mark (sg u0) (sg (ZU.Sn u1))) ?_;exact rt [.tmp 4] f
theorem M6(a0 a1:ZU):Sa 266 [a0.row,a1.row] [rB (TV a0 a1)]:=by
 have f:=me (TV.eq_1 a0 a1);refine so func266 ntmps266 ?_;refine lp1 (WZ.eq_2 a0 a1) (fun J=>Yy 73 [eX 2 (a0.row.map .d),eX 3 (a1.row.map .d),eI 5 (J:Int)]) (fun n1 J=>a0.YM.length<n1+J/\J<=a0.YM.length) (a0.YM.length+1) 0 (fun p1 J e1 j1=>?_);refine cF e1 ?_ ?_<;>intro k2 h1 e1
 ·have i1:J<a0.YM.length:=zB1;have m2:=ml a0.YM (k2 8 _ rfl);have w1:=wr J;refine dIo mixed ?_;have i2:=ik J a1.YM;simp[i1,ZF,i2];refine rpS ?_;refine cF e1 ?_ ?_<;>intro k4 h2 e1
  ·refine okD fun k5=>?_;refine dIo mixed ?_;have f:=ms f e1
   simp[i1,ZF,i2];refine rpS ?_;exact rt [.tmp 4] f
  exact ny1 w1 e1
 have f:=ms f e1;refine cF f ?_ ?_<;>intro k6 h3 f
 ·exact rt [.tmp 4] f
 refine cF f ?_ ?_<;>intro k7 h4 f
 ·exact rt [.tmp 4] f
 exact rt [.tmp 4] f
theorem Uo(h:b)(k:a:=by(intros;first|omega|with_unfolding_all (first|(first|omega|(simp_all;done)|(simp_all;omega)))|((try simp only[Yw,show ∀x,IntKind.i64.wrap x=W x from fun _=>rfl]at*);omega))):a/\b:=⟨k,h⟩
theorem Yc(h:b)(k:a:=by(intros;first|omega|with_unfolding_all (first|(first|omega|(simp_all;done)|(simp_all;omega)))|(simp_all;done)|(simp_all;omega)|grind|((try simp only[Yw,show ∀x,IntKind.i64.wrap x=W x from fun _=>rfl]at*);omega))):a/\b:=⟨k,h⟩
theorem Nw(a0:Zb)(a1:YB)(a2:List (List Int))(u0:Sm 2285568 a0)(u1:Sm 2285568 a1)(u2:Sm 2285568 a2)(u3:sM a1<=2097152):So 214 [a0.row,a1.row,rL 1 (slR 1 iR) a2] [rL 3 ZU.row (Zr a0 a1 a2)]:=by
 have f:=me (Zr.eq_1 a0 a1 a2);refine so func214 ntmps214 ?_;refine lp2 (K0.eq_2 a0 a1 a2) (fun J U=>Yy 79 [eL 2 1 a2 (slR 1 iR),eX 3 (a0.row.map .d),eX 4 (a1.row.map .d),(7,.one (.sref 7 0 0 J.length),[.arr false 3 (J.map ZU.row)]),eL 14 2 a1.Z9 ZX.row,eI 15 (a1.Z9.length:Int),eI 16 (U:Int)]) (fun n1 J U=>a1.Z9.length<n1+U/\U<=a1.Z9.length/\J.length+cnL (fun s:ZX=>s.ZM.length) (a1.Z9.drop U)<=2097152/\Sm 2285568 J) (a1.Z9.length+1) ([]:List ZU) 0 (fun p1 J U e1 j1=>?_) (hI:=by(have u:cnL (fun s:ZX=>s.ZM.length) a1.Z9<=2097152:=u3;(try dsimp only);refine⟨zAD,zAD,zAD,?_,⟨Nat.zero_le _,fun x hx=>by cases hx⟩⟩;rw[List.drop_zero];simp only[List.length_nil];omega)) (h0:=wkS [((7,0),none)] []);try dsimp only at j1
 refine cFo e1 ?_ ?_<;>intro k2 h1 e1
 ·have q1:=h1;try simp at q1
  have i1:=ix h1;have m2:=ml a1.Z9 (k2 14 _ rfl);have c1:=sl 2285568 a1.Z9 (an u0 (an u1 (an u2 u3)));have w1:=wr U;simp[i1,ZF];repeat with_reducible refine Uo ?_
  refine lp2 (QU.eq_2 a0 a1 a2 U) (fun nc nh=>Yy 79 [eL 2 1 a2 (slR 1 iR),eX 3 (a0.row.map .d),eX 4 (a1.row.map .d),(7,.one (.sref 7 0 0 nc.length),[.arr false 3 (nc.map ZU.row)]),eL 14 2 a1.Z9 ZX.row,eI 15 (a1.Z9.length:Int),eI 16 (U:Int),eL 21 3 (nth a1.Z9 U).ZM ZU.row,eI 22 ((nth a1.Z9 U).ZM.length:Int),eI 23 (nh:Int)]) (fun n2 nc nh=>(nth a1.Z9 U).ZM.length<n2+nh/\nh<=(nth a1.Z9 U).ZM.length/\nc.length+((nth a1.Z9 U).ZM.length-nh)+cnL (fun s:ZX=>s.ZM.length) (a1.Z9.drop (U+1))<=2097152/\Sm 2285568 nc) ((nth a1.Z9 U).ZM.length+1) J 0 (fun p2 nc nh e2 j2=>?_) (hI:=by(have d:=wh (l:=a1.Z9) (i:=U) zAZ;refine⟨?_,?_,?_,?_,j1.2.2.2.2⟩<;>((try dsimp only);omega)));try dsimp only at j2
  refine cFo e2 ?_ ?_<;>intro k4 h2 e2
  ·have q2:=h2;try simp at q2
   have i2:=ix h2;have m4:=ml (nth a1.Z9 U).ZM (k4 21 _ rfl);have c2:=sl 2285568 (nth a1.Z9 U).ZM (an u0 (an u1 (an u2 u3)));have w2:=wr nh;simp[i2,ZF];repeat with_reducible refine Uo ?_
   refine dIs mixed ?_;refine cRs (WH nc (nth (nth a1.Z9 U).ZM nh)) ?_;refine cGs (fun gg=>IS a0.Z0 (nth (nth a1.Z9 U).ZM nh) zAN zAN) ?_;refine cGs (fun gg=>VR a0 a1 a2 (nth (nth a1.Z9 U).ZM nh) zAN zAN zAN zAN) ?_;refine cGs (fun gg=>Wh a0 (nth (nth a1.Z9 U).ZM nh).Key) ?_;refine cFo e2 ?_ ?_<;>intro k6 h3 e2
   ·have q3:=h3;try simp at q3
    simp;exact ny2 (an w1 w2) e2 (hI:=by first|(refine⟨?_,?_,?_,?_,j2.2.2.2.2⟩<;>((try dsimp only);omega))|(have pk:Sm 2285568 (nth (nth a1.Z9 U).ZM nh):=Zn (ZX.QE (Zn (YB.Qi u1)));obtain⟨q1,q2⟩:=Db (z:=mR) j2.2.2.2.2 pk zAD;refine⟨?_,?_,?_,?_,q1⟩<;>((try dsimp only);omega)))
   have q3:=h3;try simp at q3
   simp;refine lp1 (yJ.eq_2 a1 U nc nh) (fun mR=>Yy 79 [eL 2 1 a2 (slR 1 iR),eX 3 (a0.row.map .d),eX 4 (a1.row.map .d),(7,.one (.sref 7 0 0 nc.length),[.arr false 3 (nc.map ZU.row)]),eX 11 ((nth (nth a1.Z9 U).ZM nh).row.map .d),eI 12 (mR:Int),eL 14 2 a1.Z9 ZX.row,eI 15 (a1.Z9.length:Int),eI 16 (U:Int),eL 21 3 (nth a1.Z9 U).ZM ZU.row,eI 22 ((nth a1.Z9 U).ZM.length:Int),eI 23 (nh:Int)]) (fun n3 mR=>nc.length<n3+mR/\mR<=nc.length) (nc.length+1) 0 (fun p3 mR e3 j3=>?_);try dsimp only at j3
   refine dIs mixed ?_;refine gIo ?_ ?_<;>intro G
   ·have l3:=G;have g1:=G;try simp at g1
    have i3:=ik mR nc;simp[i3,ZF,G];refine zCL ?_;refine cGo (fun gg=>M6 (nth nc mR) (nth (nth a1.Z9 U).ZM nh)) ?_;simp[G];refine zCL ?_;refine cKo e3 ?_ ?_<;>intro k9 h4 e3
    ·have q4:=h4;try simp at q4
     have i4:mR<nc.length:=by(simp at h4;omega)
     have m6:=ml nc (k9 7 _ rfl);have w3:=wr mR;simp[G];refine zCL ?_;exact ny1 (an w1 (an w2 (an w3 G))) e3
    ·have q4:=h4;try simp at q4
     have e2:=ms e2 e3;simp[G];refine zCL ?_;refine dIo mixed ?_;simp[G];refine zCL ?_;refine evI rfl rfl rfl ?_;simp[G];refine zCL ?_;refine evI rfl rfl rfl ?_;simp[G];refine zCL ?_;refine cR (Yb.rd (qt (nth (nth a1.Z9 U).ZM nh) zAN)) ?_;simp[G];refine zCL ?_;refine evI rfl rfl rfl ?_;simp[G];refine zCL ?_;refine evI rfl rfl rfl ?_;simp[G];refine zCL ?_;refine evI rfl rfl rfl ?_;simp[G];refine zCL ?_;exact nx2 e2 (hI:=by first|(refine⟨?_,?_,?_,?_,j2.2.2.2.2⟩<;>((try dsimp only);omega))|(have pk:Sm 2285568 (nth (nth a1.Z9 U).ZM nh):=Zn (ZX.QE (Zn (YB.Qi u1)));obtain⟨q1,q2⟩:=Db (z:=mR) j2.2.2.2.2 pk zAD;refine⟨?_,?_,?_,?_,q1⟩<;>((try dsimp only);omega))) (hw:=XN [((7,0),some (75,0))] [] rfl (by simp[w1,w2,G]))
   ·have l3:=G;simp[G];refine zCL ?_;refine sGo ?_;simp[G];refine zCL ?_;refine cKo e3 ?_ ?_<;>intro cQ h5 e3
    ·simp[G]at h5
    ·have q5:=h5;try simp at q5
     have e2:=ms e2 e3;simp[G];refine zCL ?_;refine dIo mixed ?_;simp[G];refine zCL ?_;refine evI rfl rfl rfl ?_;simp[G];refine zCL ?_;refine evI rfl rfl rfl ?_;simp[G];refine zCL ?_;refine cR (Yb.rd (qt (nth (nth a1.Z9 U).ZM nh) zAN)) ?_;simp[G];refine zCL ?_;refine evI rfl rfl rfl ?_;simp[G];refine zCL ?_;refine evI rfl rfl rfl ?_;simp[G];refine zCL ?_;refine evI rfl rfl rfl ?_;simp[G];refine zCL ?_;exact nx2 e2 (hI:=by first|(refine⟨?_,?_,?_,?_,j2.2.2.2.2⟩<;>((try dsimp only);omega))|(have pk:Sm 2285568 (nth (nth a1.Z9 U).ZM nh):=Zn (ZX.QE (Zn (YB.Qi u1)));obtain⟨q1,q2⟩:=Db (z:=mR) j2.2.2.2.2 pk zAD;refine⟨?_,?_,?_,?_,q1⟩<;>((try dsimp only);omega))) (hw:=XN [((7,0),some (75,0))] [] rfl (by simp[w1,w2,G]))
  have q2:=h2;try simp at q2
  have c3:=sl 2285568 (nth a1.Z9 U).ZM (an u0 (an u1 (an u2 u3)));have e1:=ms e1 e2;simp;exact ny2 w1 e1 (hI:=by(refine⟨?_,?_,?_,?_,j2.2.2.2.2⟩<;>((try dsimp only);omega)))
 have q1:=h1;try simp at q1
 have c4:=sl 2285568 a1.Z9 (an u0 (an u1 (an u2 u3)));have f:=ms f e1;simp;exact rtO [.tmp 6] f
theorem P6(a0:YO):Sa 254 [a0.row] [(Jm a0).row]:=by have f:=me (Jm.eq_1 a0);refine so func254 ntmps254 ?_;exact rt [.cell 2 60] f
theorem BE(a0:YO):Sa 191 [a0.row] [rB (GZ a0)]:=by have f:=me (GZ.eq_1 a0);refine so func191 ntmps191 ?_;refine cRs (Zz a0.Zc 1 999) ?_;refine cGs (fun gg=>Zz a0.Key 1 99) ?_;refine cGs (fun gg=>Zz a0.YA 1 99) ?_;refine cGs (fun gg=>Zz a0.qf 0 99) ?_;refine cGs (fun gg=>P6 a0) ?_;refine cGs (fun gg=>KL (Jm a0)) ?_;exact rt [.tmp 2] f
theorem Nn(a0:List Y6)(a1:Int):Sa 194 [rL 5 Y6.row a0,rI a1] [rI (PS a0 a1)]:=by
 have f:=me (PS.eq_1 a0 a1);refine so func194 ntmps194 ?_;refine cRs (Jf a0 a1) ?_;refine cFf f ?_ ?_<;>intro k1 h1 f
 ·have i1:(YT a0 a1).toNat<a0.length:=by have:=zc a0 a1;exact il
  simp[i1,ZF];refine rpS ?_;exact rt [.tmp 4] f
 exact rt [.tmp 4] f
theorem Ho(a0:List Y6)(a1:YO)(u0:Sm 2314240 a0):Sa 119 [rL 5 Y6.row a0,a1.row] [rB (yd a0 a1)]:=by have f:=me (yd.eq_1 a0 a1);refine so func119 ntmps119 ?_;refine dIs mixed ?_;refine cRs (BE a1) ?_;refine cGs (fun gg=>Yb.rd (OE a1)) ?_;refine cGs (fun gg=>Jc a0 a1.YA (xv a1) a1.Mark (sg u0) (by simp(maxDischargeDepth:=12) [Pw];try omega)) ?_;refine cGs (fun gg=>Nn a0 a1.Key) ?_;exact rt [.tmp 4] f
theorem CR(a0:Zb)(a1:List ZU)(a2:Zp)(u0:Sm 2310144 a0)(u1:Sm 2310144 a1):Sa 215 [a0.row,rL 3 ZU.row a1,a2.row] [(Qe a0 a1 a2).1.row,rB (Qe a0 a1 a2).2]:=by
 have f:=me (Qe.eq_1 a0 a1 a2);refine so func215 ntmps215 ?_;refine lp9 (jU.eq_2 a0 a1 a2) (fun J U nb nm mA mW mS mT mU=>Yy 54 [eX 3 (a0.row.map .d),eX 5 (a2.row.map .d),(6,.one (.bptr 6 0),[.box [.d (.int .i64 0),.d (.int .i64 0),.d (.int .i64 0),.d (.int .i64 0),.d (.int .i64 0),.d (.int .i64 0),.d (.int .i64 0)]]),(8,.one (.bptr 8 0),[.box [.d (.int .i64 nb),.d (.int .i64 nm),.d (.int .i64 mA),.d (.int .i64 mW),.d (.int .i64 mS),.d (.int .i64 mT),.d (.int .i64 mU)]]),eI 9 J,eL 14 3 a1 ZU.row,eI 15 (a1.length:Int),eI 16 (U:Int)]) (fun n1 J U nb nm mA mW mS mT mU=>a1.length<n1+U/\U<=a1.length) (a1.length+1) 0 0 0 0 0 0 0 0 0 (fun p1 J U nb nm mA mW mS mT mU e1 j1=>?_);refine cFf e1 ?_ ?_<;>intro k2 h1 e1
 ·have i1:=ix h1;have m2:=ml a1 (k2 14 _ rfl);have c1:=sl 2310144 a1 (an u0 u1);have w1:=wr U;simp[i1,ZF];refine rpS ?_;refine cRs (UB (nth a1 U)) ?_;refine cGs (fun gg=>Ho a0.Z0 (YK (nth a1 U)).1 (sg (Zb.Xd u0))) ?_;refine cF e1 ?_ ?_<;>intro k3 h2 e1
  ·exact ny9 w1 e1
  exact ny9 w1 e1
 have c2:=sl 2310144 a1 (an u0 u1);have f:=ms f e1;refine cF f ?_ ?_<;>intro k4 h3 f
 ·exact rt [.cell 6 124,.tmp 7] f
 exact rt [.cell 6 124,.tmp 7] f
theorem ud(a0 a1:Int):Sa 289 [rI a0,rI a1] [rI (tR a0 a1)]:=by have f:=me (tR.eq_1 a0 a1);refine so func289 ntmps289 ?_;exact rt [.tmp 4] f
theorem Ud(a0:Int)(a1:List Zm)(u0:Sm 2326528 a1):Sa 268 [rI a0,rL 5 Zm.row a1] [rI (jv a0 a1)]:=by
 have f:=me (jv.eq_1 a0 a1);refine so func268 ntmps268 ?_;refine cF f ?_ ?_<;>intro k1 h1 f
 ·exact rt [.tmp 4] f
 refine lp2 (kc.eq_2 a1) (fun J U=>Yy 27 [eI 0 a0,(5,.one (.sref 5 0 0 J.length),[.arr false 1 (J.map iR)]),eL 11 5 a1 Zm.row,eI 12 (a1.length:Int),eI 13 (U:Int)]) (fun n1 J U=>a1.length<n1+U/\U<=a1.length/\J.length<=0+1*U) (a1.length+1) ([]:List Int) 0 (fun p1 J U e1 j1=>?_) (h0:=wkS [((5,0),none)] []);refine cFf e1 ?_ ?_<;>intro k3 h2 e1
 ·have i1:=ix h2;have m2:=ml a1 (k3 11 _ rfl);have c1:=sl 2326528 a1 u0;have w1:=wr U;simp[i1,ZF];refine rpS ?_;exact nx2 e1 (hw:=XN [((5,0),some (21,0))] [] rfl zAe)
 have c2:=sl 2326528 a1 u0;have f:=ms f e1;refine cRs (KA a0 J zAM) ?_;refine cRs (ud 1 (Kc a0 J)) ?_;exact rt [.tmp 4] f
theorem S8(a0:Int)(a1:Zm):Sd 269 [rI a0,a1.row] [(qb a0 a1).row]:=by have f:=me (qb.eq_1 a0 a1);refine soD func269 ntmps269 ?_;refine dIs mixed ?_;refine cDs [false] (VV a1) ?_;exact rtD [.cell 4 154] f
theorem Gi(a0:Zb)(a1:YB)(a2:List ZU)(a3:Zp)(u0:Sm 2314240 a0)(u1:Sm 2314240 a1)(u2:Sm 2314240 a2):Sa 216 [a0.row,a1.row,rL 3 ZU.row a2,a3.row] [rI (Xx a0 a1 a2 a3)]:=by
 have f:=me (Xx.eq_1 a0 a1 a2 a3);refine so func216 ntmps216 ?_;refine cRs (Jf a0.Z0 a3.Key) ?_;refine cFf f ?_ ?_<;>intro k1 h1 f
 ·have i1:(YT a0.Z0 a3.Key).toNat<a0.Z0.length:=by have:=zc a0.Z0 a3.Key;exact il
  simp[i1,ZF];refine rpS ?_;refine lp2 (xM.eq_2 a0 a1 a2 a3) (fun J U=>Yy 92 [eL 2 3 a2 ZU.row,eX 4 (a0.row.map .d),eX 7 (a3.row.map .d),eI 9 J,eL 32 1 a1.XG (slR 5 Zm.row),eI 33 (a1.XG.length:Int),eI 34 (U:Int)]) (fun n1 J U=>a1.XG.length<n1+U/\U<=a1.XG.length) (a1.XG.length+1) (nth a0.Z0 (YT a0.Z0 a3.Key).toNat).RH 0 (fun p1 J U e1 j1=>?_);refine cFf e1 ?_ ?_<;>intro k3 h2 e1
  ·have i2:=ix h2;have m2:=ml a1.XG (k3 32 _ rfl);have c1:=sl 2314240 a1.XG (an u0 (an u1 u2));have w1:=wr U;simp[i2,ZF];refine rpS ?_;refine dIs mixed ?_;refine cGs (fun gg=>yh (nth a1.XG U)) ?_;refine cGs (fun gg=>Ud a3.Method (nth a1.XG U) (sg (Zn (YB.Oz u1)))) ?_;refine cF e1 ?_ ?_<;>intro k5 h3 e1
   ·exact ny2 w1 e1
   refine lp2 (U7.eq_2 a0 a1 a2 U) (fun nc nh=>Yy 92 [eL 2 3 a2 ZU.row,eX 4 (a0.row.map .d),eX 7 (a3.row.map .d),eI 9 J,eL 12 5 (nth a1.XG U) Zm.row,eB 13 nc,eL 32 1 a1.XG (slR 5 Zm.row),eI 33 (a1.XG.length:Int),eI 34 (U:Int),eL 55 5 (nth a1.XG U) Zm.row,eI 56 ((nth a1.XG U).length:Int),eI 57 (nh:Int)]) (fun n2 nc nh=>(nth a1.XG U).length<n2+nh/\nh<=(nth a1.XG U).length) ((nth a1.XG U).length+1) true 0 (fun p2 nc nh e2 j2=>?_);refine cFf e2 ?_ ?_<;>intro k7 h4 e2
   ·have i3:=ix h4;have m4:=ml (nth a1.XG U) (k7 12 _ rfl);have c2:=sl 2314240 (nth a1.XG U) (an u0 (an u1 u2));have w2:=wr nh;simp[i3,ZF];refine rpS ?_;refine dIs mixed ?_;refine cGs (fun gg=>TS a0.ZD (nth (nth a1.XG U) nh)) ?_;refine cGs (fun gg=>Yb.rd (S8 (X7 a0.ZD (nth (nth a1.XG U) nh)) (nth (nth a1.XG U) nh))) ?_;refine cGs (fun gg=>WH a2 (qb (X7 a0.ZD (nth (nth a1.XG U) nh)) (nth (nth a1.XG U) nh))) ?_;exact ny2 (an w1 w2) e2
   have c3:=sl 2314240 (nth a1.XG U) (an u0 (an u1 u2));have e1:=ms e1 e2;refine cRs (Td a0.ZD (nth a1.XG U) a0.XB (sg (Zb.XJ u0)) (sg (Zn (YB.Oz u1)))) ?_;refine cF e1 ?_ ?_<;>intro k9 h5 e1
   ·exact ny2 w1 e1
   exact ny2 w1 e1
  have c4:=sl 2314240 a1.XG (an u0 (an u1 u2));exact rt [.tmp 8] (ms f e1)
 refine lp2 (xH.eq_2 a0 a1 a2 a3) (fun mR mO=>Yy 92 [eL 2 3 a2 ZU.row,eX 4 (a0.row.map .d),eX 7 (a3.row.map .d),eI 9 mR,eL 32 1 a1.XG (slR 5 Zm.row),eI 33 (a1.XG.length:Int),eI 34 (mO:Int)]) (fun n3 mR mO=>a1.XG.length<n3+mO/\mO<=a1.XG.length) (a1.XG.length+1) 0 0 (fun p3 mR mO e3 j3=>?_);refine cFf e3 ?_ ?_<;>intro cQ h6 e3
 ·have i4:=ix h6;have m6:=ml a1.XG (cQ 32 _ rfl);have c5:=sl 2314240 a1.XG (an u0 (an u1 u2));have w3:=wr mO;simp[i4,ZF];refine rpS ?_;refine dIs mixed ?_;refine cGs (fun gg=>yh (nth a1.XG mO)) ?_;refine cGs (fun gg=>Ud a3.Method (nth a1.XG mO) (sg (Zn (YB.Oz u1)))) ?_;refine cF e3 ?_ ?_<;>intro cf h7 e3
  ·exact ny2 w3 e3
  refine lp2 (TD.eq_2 a0 a1 a2 mO) (fun gZ iC=>Yy 92 [eL 2 3 a2 ZU.row,eX 4 (a0.row.map .d),eX 7 (a3.row.map .d),eI 9 mR,eL 12 5 (nth a1.XG mO) Zm.row,eB 13 gZ,eL 32 1 a1.XG (slR 5 Zm.row),eI 33 (a1.XG.length:Int),eI 34 (mO:Int),eL 55 5 (nth a1.XG mO) Zm.row,eI 56 ((nth a1.XG mO).length:Int),eI 57 (iC:Int)]) (fun n4 gZ iC=>(nth a1.XG mO).length<n4+iC/\iC<=(nth a1.XG mO).length) ((nth a1.XG mO).length+1) true 0 (fun p4 gZ iC e4 j4=>?_);refine cFf e4 ?_ ?_<;>intro k15 h8 e4
  ·have i5:=ix h8;have m8:=ml (nth a1.XG mO) (k15 12 _ rfl);have c6:=sl 2314240 (nth a1.XG mO) (an u0 (an u1 u2));have w4:=wr iC;simp[i5,ZF];refine rpS ?_;refine dIs mixed ?_;refine cGs (fun gg=>TS a0.ZD (nth (nth a1.XG mO) iC)) ?_;refine cGs (fun gg=>Yb.rd (S8 (X7 a0.ZD (nth (nth a1.XG mO) iC)) (nth (nth a1.XG mO) iC))) ?_;refine cGs (fun gg=>WH a2 (qb (X7 a0.ZD (nth (nth a1.XG mO) iC)) (nth (nth a1.XG mO) iC))) ?_;exact ny2 (an w3 w4) e4
  have c7:=sl 2314240 (nth a1.XG mO) (an u0 (an u1 u2));have e3:=ms e3 e4;refine cRs (Td a0.ZD (nth a1.XG mO) a0.XB (sg (Zb.XJ u0)) (sg (Zn (YB.Oz u1)))) ?_;refine cF e3 ?_ ?_<;>intro k17 h9 e3
  ·exact ny2 w3 e3
  exact ny2 w3 e3
 have c8:=sl 2314240 a1.XG (an u0 (an u1 u2));exact rt [.tmp 8] (ms f e3)
theorem MD(a0:List ZU)(a1:YO)(u0:Sm 2330624 a0):Sd 217 [rL 3 ZU.row a0,a1.row] [rL 5 Zs.row (X5 a0 a1)]:=by
 have f:=me (X5.eq_1 a0 a1);refine soD func217 ntmps217 ?_;refine lp2 (Jw.eq_2 a0 a1) (fun J U=>Yy 42 [eX 3 (a1.row.map .d),(5,.one (.sref 5 0 0 J.length),[.arr false 5 (J.map Zs.row)]),eL 10 3 a0 ZU.row,eI 11 (a0.length:Int),eI 12 (U:Int)]) (fun n1 J U=>a0.length<n1+U/\U<=a0.length/\J.length<=0+1*U) (a0.length+1) ([]:List Zs) 0 (fun p1 J U e1 j1=>?_) (h0:=wkS [((5,0),none)] []);refine cFf e1 ?_ ?_<;>intro k2 h1 e1
 ·have i1:=ix h1;have m2:=ml a0 (k2 10 _ rfl);have c1:=sl 2330624 a0 u0;have w1:=wr U;simp[i1,ZF];refine rpS ?_;refine cRs (Tz (nth a0 U)) ?_;refine cF e1 ?_ ?_<;>intro k3 h2 e1
  ·exact nx2 e1 (hw:=XN [((5,0),some (39,0))] [] rfl zAe)
  exact ny2 w1 e1
 exact rtD [.tmp 4] (ms f e1)
theorem J5(a0 a1:Int)(a2:List Zh)(u0:Sm 2326528 a2):HM prog 292 [rI a0,rI a1] [.sl 2 (a2.map Zh.row)] [.sl 2 ((Zw a0 a1 a2).map Zh.row)]:=by
 refine vZ func292 rfl zAV [false] zAG (fun v=>?_);simp[ntmps292];refine cR (TA a0 a1) ?_;simp;refine cC (K5 a0 a1).2 (fun k1 h1=>?_) (fun k1 h1=>?_)
 ·have q1:=h1;try simp at q1
  have c1:a2.length<=2326528:=YX (xs u0);simp;refine rpS ?_;refine po (gx:=[.sref 17 0 0 (a2++([(K5 a0 a1).1]:List Zh)).length]) rfl ?_ (.inr rfl);have f1:=Zw.eq_1 a0 a1 a2;simp only[h1,Xe,X8]at f1;simp[f1];all_goals(rintro r (⟨a,_,rfl⟩|rfl) x hx<;>simp at hx<;>rcases hx with rfl|rfl<;>rfl)
 ·have q1:=h1;try simp at q1
  simp;refine po (gx:=[.sref 2 1 0 a2.length]) rfl ?_ (.inr rfl);have f2:=Zw.eq_1 a0 a1 a2
  simp only[h1,Xe,X8]at f2;simp[f2];all_goals(rintro r (⟨a,_,rfl⟩|rfl) x hx<;>simp at hx<;>rcases hx with rfl|rfl<;>rfl)
theorem Es(a0:List Zs)(a1:Int):Sa 299 [rL 5 Zs.row a0,rI a1] [rI (xl a0 a1).1,rI (xl a0 a1).2.1,rI (xl a0 a1).2.2]:=by
 have f:=me (xl.eq_1 a0 a1);refine so func299 ntmps299 ?_;refine lp4 (qm.eq_2 a0 a1) (fun J U nb nm=>Yy 49 [eI 1 a1,eI 7 J,eI 8 U,eI 9 nb,eL 12 5 a0 Zs.row,eI 13 (a0.length:Int),eI 14 (nm:Int)]) (fun n1 J U nb nm=>a0.length<n1+nm/\nm<=a0.length) (a0.length+1) (-1) (-1) (-1) 0 (fun p1 J U nb nm e1 j1=>?_);refine cFf e1 ?_ ?_<;>intro k2 h1 e1
 ·have i1:=ix h1;have m2:=ml a0 (k2 12 _ rfl);have w1:=wr nm;simp[i1,ZF];refine rpS ?_;refine cF e1 ?_ ?_<;>intro k3 h2 e1
  ·exact ny4 w1 e1
  refine cF e1 ?_ ?_<;>intro k4 h3 e1
  ·exact ny4 w1 e1
  refine cF e1 ?_ ?_<;>intro k5 h4 e1
  ·exact ny4 w1 e1
  exact ny4 w1 e1
 exact rt _ (ms f e1)
theorem W5(a0:List Zs)(a1:Int):Sa 293 [rL 5 Zs.row a0,rI a1] [rI (QT a0 a1)]:=by
 have f:=me (QT.eq_1 a0 a1);refine so func293 ntmps293 ?_;refine cRs (Es a0 a1) ?_;refine cF f ?_ ?_<;>intro k1 h1 f
 ·exact rt [.tmp 4] f
 exact rt [.tmp 4] f
end Go.Proofs.YthecodaabaaaoaaGreat
