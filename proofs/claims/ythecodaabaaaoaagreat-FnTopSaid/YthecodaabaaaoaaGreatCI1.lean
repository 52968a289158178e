/- Contracts of the functions La the abstract machine, part I1. No condition. -/
import Derived.Test.YthecodaabaaaoaaGreatL
import Derived.Test.YthecodaabaaaoaaGreatTy
namespace Go.Proofs.YthecodaabaaaoaaGreat
open Tryz
open Go.Vm Go.Mo
set_option maxHeartbeats 1000000
set_option maxRecDepth 100000
set_option linter.unusedSimpArgs false
set_option linter.unusedVariables false
variable{a b:Prop}
theorem Gp(a0:ZO)(u0:Sm 2342912 a0):Sd 63 [a0.row] [(R8 a0).row]:=by
 have f:=me (R8.eq_1 a0);have c1:=sl 2342912 a0.Zt u0;have c2:=sl 2342912 a0.ZC u0;have c3:=sl 2342912 a0.Methods u0;refine soD func63 ntmps63 ?_;exact rtD _ f
theorem HQ(a0:ZO)(u0:Sm 2342912 a0):Sd 63 [a0.row] [a0.row]:=by
  have h:=Gp a0 u0;rwa[G2]at h
theorem Ee(a0:List Int)(u0:Sm 2342912 a0):Sd 64 [rL 1 iR a0] [rL 1 iR (NF a0)]:=by
 have f:=me (NF.eq_1 a0);have c1:=sl 2342912 a0 u0;refine soD func64 ntmps64 ?_;exact rtD [.tmp 2] f
theorem yh(a0:List Int)(u0:Sm 2342912 a0):Sd 64 [rL 1 iR a0] [rL 1 iR a0]:=by
  have h:=Ee a0 u0;rwa[Ei]at h
theorem N0(a0:ZR)(u0:Sm 2338816 a0):Sd 200 [a0.row] [(UR a0).row]:=by
 have f:=me (UR.eq_1 a0);refine soD func200 ntmps200 ?_;refine FI [2,3,4,5,0,1,6,7,8,9,10] mixed zAV zAV zAV ?_;have c1:=sl 2338816 a0.Xw u0;simp;refine rpS ?_;refine cDs [false] (yh a0.KZ (sg (ZR.B3 u0))) ?_;exact rtD [.cell 2 44] f
theorem Ol(a0:ZR)(u0:Sm 2338816 a0):Sd 200 [a0.row] [a0.row]:=by
  have h:=N0 a0 u0;rwa[NP]at h
theorem Gd(a0:ZT)(u0:Sm 2338816 a0):Sd 267 [a0.row] [(Pa a0).row]:=by
 have f:=me (Pa.eq_1 a0);refine soD func267 ntmps267 ?_;refine cDs [false] (yh a0.YM (sg (ZT.SW u0))) ?_;exact rtD [.cell 2 154] f
theorem jW(a0:ZT)(u0:Sm 2338816 a0):Sd 267 [a0.row] [a0.row]:=by
  have h:=Gd a0 u0;rwa[FQ]at h
theorem IZ(a0:List ZT)(u0:Sm 2334720 a0):Sd 222 [rL 3 ZT.row a0] [rL 3 ZT.row (VT a0)]:=by
 have f:=me (VT.eq_1 a0);refine soD func222 ntmps222 ?_;refine lp2 (kb.eq_2 a0) (fun J U=>Yx 19 [(3,.one (.sref 3 0 0 J.length),[.arr true 3 (J.map ZT.row)]),eL 6 3 a0 ZT.row,eI 7 (a0.length:Int),eI 8 (U:Int)]) (fun n1 J U=>a0.length<n1+U/\U<=a0.length/\J.length<=0+1*U) (a0.length+1) ([]:List ZT) 0 (fun p1 J U e1 j1=>?_) (h0:=wkS [((3,0),none)] []);refine cFf e1 ?_ ?_<;>intro k2 h1 e1
 ·have i1:=ix h1;have m2:=ml a0 (k2 6 _ rfl);have c1:=sl 2334720 a0 u0;have w1:=wr U;simp[i1,ZD];refine rpS ?_;refine cDs [true,false] (jW (nth a0 U) (sg (Zr u0))) ?_;refine kI ?_;simp;refine WV (iJ:=J.map ZT.row) (news:=([nth a0 U]:List ZT).map ZT.row) (l1:=[(3,0)]) (l2:=[(14,1)]) (size:=3) ?_;simp;exact nx2 e1 (hw:=XO [((3,0),some (16,0))] [] rfl zAd)
 exact rtD [.tmp 2] (ms f e1)
theorem Mw(a0:List ZT)(u0:Sm 2334720 a0):Sd 222 [rL 3 ZT.row a0] [rL 3 ZT.row a0]:=by
  have h:=IZ a0 u0;rwa[Ir]at h
theorem Iz(a0:List Zm)(u0:Sm 2342912 a0):Sd 233 [rL 5 Zm.row a0] [rL 5 Zm.row (Se a0)]:=by
 have f:=me (Se.eq_1 a0);have c1:=sl 2342912 a0 u0;refine soD func233 ntmps233 ?_;exact rtD [.tmp 2] f
theorem LO(a0:List Zm)(u0:Sm 2342912 a0):Sd 233 [rL 5 Zm.row a0] [rL 5 Zm.row a0]:=by
  have h:=Iz a0 u0;rwa[Iw]at h
theorem Mr(a0:Zb)(u0:Sm 2338816 a0):Sd 160 [a0.row] [(TY a0).row]:=by
 have f:=me (TY.eq_1 a0);have c1:=sl 2338816 a0.Path u0;refine soD func160 ntmps160 ?_;refine cDs [false] (LO a0.YW (sg (Zb.Ew u0))) ?_;exact rtD [.cell 2 80] f
theorem Uq(a0:Zb)(u0:Sm 2338816 a0):Sd 160 [a0.row] [a0.row]:=by
  have h:=Mr a0 u0;rwa[Ml]at h
theorem HC(a0:ZW)(u0:Sm 2330624 a0):Sd 138 [a0.row] [(Vg a0).row]:=by
 have f:=me (Vg.eq_1 a0);refine soD func138 ntmps138 ?_;refine cDs [] (Mw a0.ZI (sg (ZW.QE u0))) ?_;refine lp2 (kT.eq_2 a0) (fun J U=>Yx 26 [(2,.one (.bptr 2 0),[.box [.nil 3,.nil 5]]),(3,.one (.bptr 3 0),[.box [.sref 8 0 0 a0.ZI.length,.sref 3 2 0 U.length],.none,.arr true 5 (U.map Zb.row)]),(8,.any,[.arr true 3 (a0.ZI.map ZT.row)]),eL 11 5 a0.ZM Zb.row,eI 12 (a0.ZM.length:Int),eI 13 (J:Int)]) (fun n1 J U=>a0.ZM.length<n1+J/\J<=a0.ZM.length/\U.length<=0+1*J) (a0.ZM.length+1) 0 ([]:List Zb) (fun p1 J U e1 j1=>?_) (h0:=wkS [((3,2),none)] []);refine cFf e1 ?_ ?_<;>intro k2 h1 e1
 ·have i1:=ix h1;have m2:=ml a0.ZM (k2 11 _ rfl);have c1:=sl 2330624 a0.ZM u0;have w1:=wr J;simp[i1,ZD];refine rpS ?_;refine drJ [22] mixed ?_;simp;refine cDs [true,true,true,false,false] (Uq (nth a0.ZM J) (sg (Zr (ZW.zR u0)))) ?_;refine kI ?_;simp;refine WV (iJ:=U.map Zb.row) (news:=([nth a0.ZM J]:List Zb).map Zb.row) (l1:=[(3,2)]) (l2:=[(20,3),(20,4)]) (size:=5) ?_;simp;exact nx2 e1 (hw:=XO [((3,2),some (22,0))] [] rfl zAd)
 have c2:=sl 2330624 a0.ZM u0;exact rtD [.cell 2 50] (ms f e1)
theorem zP(a0:ZW)(u0:Sm 2330624 a0):Sd 138 [a0.row] [a0.row]:=by
  have h:=HC a0 u0;rwa[IQ]at h
theorem Eg(a0:ZN)(u0:Sm 2326528 a0):Sd 126 [a0.row] [(Ou a0).row]:=by
 have f:=me (Ou.eq_1 a0);refine soD func126 ntmps126 ?_;refine cDs [true,false,false] (Ol a0.Doc (sg (ZN.xx u0))) ?_;refine cDs [] (zP a0.ZG (sg (ZN.XY u0))) ?_;exact rtD [.cell 2 52] f
theorem qb(a0:ZN)(u0:Sm 2326528 a0):Sd 126 [a0.row] [a0.row]:=by
  have h:=Eg a0 u0;rwa[Fx]at h
theorem Mb(a0:ZE)(u0:Sm 2322432 a0):Sd 65 [a0.row] [(WY a0).row]:=by
 have f:=me (WY.eq_1 a0);refine soD func65 ntmps65 ?_;refine lp2 (jX.eq_2 a0) (fun J U=>Yx 25 [(2,.one (.bptr 2 0),[.box [.d (.int .i64 0),.nil 16]]),(3,.one (.bptr 3 0),[.box [.d (.int .i64 a0.Id),.sref 3 2 0 U.length],.none,.arr true 16 (U.map ZN.row)]),eL 10 16 a0.ZB ZN.row,eI 11 (a0.ZB.length:Int),eI 12 (J:Int)]) (fun n1 J U=>a0.ZB.length<n1+J/\J<=a0.ZB.length/\U.length<=0+1*J) (a0.ZB.length+1) 0 ([]:List ZN) (fun p1 J U e1 j1=>?_) (h0:=wkS [((3,2),none)] []);refine cFf e1 ?_ ?_<;>intro k2 h1 e1
 ·have i1:=ix h1;have m2:=ml a0.ZB (k2 10 _ rfl);have c1:=sl 2322432 a0.ZB u0;have w1:=wr J;simp[i1,ZD];refine rpS ?_;refine drJ [21] mixed ?_;simp;refine cDs [true,true,true,false,false] (qb (nth a0.ZB J) (sg (Zr (ZE.YO u0)))) ?_;refine kI ?_;simp;refine WV (iJ:=U.map ZN.row) (news:=([nth a0.ZB J]:List ZN).map ZN.row) (l1:=[(3,2)]) (l2:=[(19,3),(19,4),(19,14),(19,15)]) (size:=16) ?_;simp;exact nx2 e1 (hw:=XO [((3,2),some (21,0))] [] rfl zAd)
 have c2:=sl 2322432 a0.ZB u0;exact rtD [.cell 2 55] (ms f e1)
theorem Yo(a0:ZE)(u0:Sm 2322432 a0):Sd 65 [a0.row] [a0.row]:=by
  have h:=Mb a0 u0;rwa[M5]at h
theorem Gj(a0:ZF)(u0:Sm 2318336 a0):Sd 23 [a0.row] [(TE a0).row]:=by
 have f:=me (TE.eq_1 a0);refine soD func23 ntmps23 ?_;refine dIs mixed ?_;have c1:=sl 2318336 a0.Zd u0;refine cDs [false,false,false] (HQ a0.Frame (sg (ZF.Xr u0))) ?_;refine cDs [false] (yh a0.Zw (sg (ZF.s8 u0))) ?_;refine cDs [false] (yh a0.Y2 (sg (ZF.vt u0))) ?_;refine cDs [false] (yh a0.Yc (sg (ZF.sa u0))) ?_;refine cDs [false] (yh a0.YL (sg (ZF.My u0))) ?_;refine lp2 (Wf.eq_2 a0) (fun J U=>Yx 44 [(2,.one (.bptr 2 0),[.box [.nil 5,.nil 3,.nil 4,.d (.int .i64 0),.d (.int .i64 0),.nil 7,.nil 1,.nil 2,.nil 1,.nil 1,.d (.int .i64 0),.nil 1]]),(3,.one (.bptr 3 0),[.box [.sref 8 0 0 a0.Frame.Zt.length,.sref 8 1 0 a0.Frame.ZC.length,.sref 8 2 0 a0.Frame.Methods.length,.d (.int .i64 a0.Frame.XJ),.d (.int .i64 a0.Frame.Now),.sref 12 0 0 a0.Zd.length,.sref 15 0 0 a0.Zw.length,.sref 3 8 0 U.length,.sref 18 0 0 a0.Y2.length,.sref 21 0 0 a0.Yc.length,.d (.int .i64 a0.Next),.sref 26 0 0 a0.YL.length],.none,.none,.none,.none,.none,.none,.none,.arr true 2 (U.map ZE.row)]),(8,.any,[.arr false 5 (a0.Frame.Zt.map Y4.row),.arr false 3 (a0.Frame.ZC.map Zi.row),.arr false 4 (a0.Frame.Methods.map YH.row)]),(12,.any,[.arr false 7 (a0.Zd.map YN.row)]),(15,.any,[.arr false 1 (a0.Zw.map iR)]),(18,.any,[.arr false 1 (a0.Y2.map iR)]),(21,.any,[.arr false 1 (a0.Yc.map iR)]),(26,.any,[.arr false 1 (a0.YL.map iR)]),eL 29 2 a0.ZA ZE.row,eI 30 (a0.ZA.length:Int),eI 31 (J:Int)]) (fun n1 J U=>a0.ZA.length<n1+J/\J<=a0.ZA.length/\U.length<=0+1*J) (a0.ZA.length+1) 0 ([]:List ZE) (fun p1 J U e1 j1=>?_) (h0:=wkS [((3,8),none)] []);refine cFf e1 ?_ ?_<;>intro k3 h1 e1
 ·have i1:=ix h1;have m2:=ml a0.ZA (k3 29 _ rfl);have c2:=sl 2318336 a0.ZA u0;have w1:=wr J;simp[i1,ZD];refine rpS ?_;refine drJ [40] mixed ?_;simp;refine cDs [] (Yo (nth a0.ZA J) (sg (Zr (ZF.YR u0)))) ?_;refine kI ?_;simp;refine WV (iJ:=U.map ZE.row) (news:=([nth a0.ZA J]:List ZE).map ZE.row) (l1:=[(3,8)]) (l2:=[(38,1)]) (size:=2) ?_;simp;exact nx2 e1 (hw:=XO [((3,8),some (40,0))] [] rfl zAd)
 exact rtD [.cell 2 33] (ms f e1)
theorem YY(a0:ZF)(u0:Sm 2318336 a0):Sd 23 [a0.row] [a0.row]:=by
  have h:=Gj a0 u0;rwa[Gu]at h
theorem Zv(a0 a1 a2:Int):Sa 75 [rI a0,rI a1,rI a2] [rB (ZX a0 a1 a2)]:=by
 have f:=me (ZX.eq_1 a0 a1 a2);refine so func75 ntmps75 ?_;exact rt [.tmp 6] f
theorem Eh(a0:ZF)(a1:Int)(u0:Sm 2314240 a0):Sd 31 [a0.row,rI a1] [(KI a0 a1).1.row,rB (KI a0 a1).2]:=by
 have f:=me (KI.eq_1 a0 a1);refine soD func31 ntmps31 ?_;refine cDs [false,false,false,true,true,false,false,true,false,false,true,false] (YY a0 (sg u0)) ?_;refine cRs (Zv a1 0 100) ?_;refine cFo f ?_ ?_<;>intro k1 h1 f
 ·have q1:=h1;try simp[ZX]at q1
  simp;exact rtD _ f
 have q1:=h1;try simp[ZX]at q1
 simp;exact rtD _ f
theorem Jz(a0:List Y4)(a1:Int):Sa 76 [rL 5 Y4.row a0,rI a1] [rI (Z6 a0 a1)]:=by
 have f:=me (Z6.eq_1 a0 a1);refine so func76 ntmps76 ?_;refine lp1 (j7.eq_2 a0 a1) (fun J=>Yx 20 [eI 1 a1,eL 7 5 a0 Y4.row,eI 8 (a0.length:Int),eI 9 (J:Int)]) (fun n1 J=>a0.length<n1+J/\J<=a0.length) (a0.length+1) 0 (fun p1 J e1 j1=>?_);refine cFf e1 ?_ ?_<;>intro k2 h1 e1
 ·have i1:=ix h1;have m2:=ml a0 (k2 7 _ rfl);have w1:=wr J;simp[i1,ZD];refine rpS ?_;refine cF e1 ?_ ?_<;>intro k3 h2 e1
  ·exact rt _ (ms f e1)
  exact ny1 w1 e1
 exact rt _ (ms f e1)
theorem jc(a0:List YH)(a1:Int):Sa 80 [rL 4 YH.row a0,rI a1] [rI (ZS a0 a1)]:=by
 have f:=me (ZS.eq_1 a0 a1);refine so func80 ntmps80 ?_;refine lp2 (yo.eq_2 a0 a1) (fun J U=>Yx 48 [eL 0 4 a0 YH.row,eI 1 a1,eI 5 J,eL 8 4 a0 YH.row,eI 9 (a0.length:Int),eI 10 (U:Int)]) (fun n1 J U=>a0.length<n1+U/\U<=a0.length/\-1<=J/\J<(a0.length:Int)) (a0.length+1) (-1) 0 (fun p1 J U e1 j1=>?_);refine cFf e1 ?_ ?_<;>intro k2 h1 e1
 ·have i1:=ix h1;have m2:=ml a0 (k2 0 _ rfl);have w1:=wr U;simp[i1,ZD];refine rpS ?_;refine dIs mixed ?_;refine gIf ?_ ?_<;>intro G
  ·have i2:=ik J.toNat a0;simp[i2,ZD,G];refine rpG ?_;refine cK e1 ?_ ?_<;>intro k4 h2 e1
   ·exact ny2 (an w1 G) e1
   ·exact ny2 (an w1 G) e1
  ·refine cK e1 ?_ ?_<;>intro k5 h3 e1
   ·exact ny2 (an w1 G) e1
   ·exact ny2 (an w1 G) e1
 have f:=ms f e1;refine cFt f ?_ ?_<;>intro k6 h4 f
 ·exact rt _ f
 have i4:=ik J.toNat a0;simp[i4,ZD];refine rpS ?_;exact rt _ f
theorem yf(a0:ZF)(a1:Int):Sa 81 [a0.row,rI a1] [rB (YG a0 a1)]:=by
 have f:=me (YG.eq_1 a0 a1);refine so func81 ntmps81 ?_;refine cRs (Zv a1 0 (W ((a0.ZA.length:Int)-1))) ?_;exact rt [.tmp 4] f
theorem RK(a0:ZR):Sa 70 [a0.row] [rB (z7 a0)]:=by
 have f:=me (z7.eq_1 a0);refine so func70 ntmps70 ?_;refine cRs (Zv a0.UN 0 999) ?_;refine cGs (fun gg=>Zv (a0.Xw.length:Int) 1 6) ?_;refine cFo f ?_ ?_<;>intro k1 h1 f
 ·have q1:=h1;try simp[ZX]at q1
  simp;exact rt _ f
 have q1:=h1;try simp[ZX]at q1
 simp;refine lp1 (qe.eq_2 a0) (fun J=>Yx 46 [eX 1 (a0.row.map .d),eL 26 1 a0.Xw sR,eI 27 (a0.Xw.length:Int),eI 28 (J:Int)]) (fun n1 J=>a0.Xw.length<n1+J/\J<=a0.Xw.length) (a0.Xw.length+1) 0 (fun p1 J e1 j1=>?_);refine cFf e1 ?_ ?_<;>intro k3 h2 e1
 ·have i1:=ix h2;have w1:=wr J;simp[i1,ZD];refine rpS ?_;refine gIf ?_ ?_<;>intro G
  ·have i2:=ik J a0.KZ;simp[i2,ZD,G];refine rpG ?_;refine cGg (fun gg=>Zv (nth a0.KZ J) 1 1000000000000) ?_;refine cKo e1 ?_ ?_<;>intro k4 h3 e1
   ·have q3:=h3;try simp[ZX]at q3
    have f:=ms f e1;simp;refine rpG ?_;exact rtg _ f
   ·have q3:=h3;try simp[ZX]at q3
    simp;refine rpG ?_;exact ny1 (an w1 G) e1
  ·refine sGo ?_;simp;refine rpG ?_;refine cKo e1 ?_ ?_<;>intro k5 h4 e1
   ·have q4:=h4;try simp[ZX]at q4
    have f:=ms f e1;simp;refine rpG ?_;exact rtg _ f
   ·simp[G]at h4
 exact rt _ (ms f e1)
theorem Dr(a0:List UInt8)(u0:Sm 2342912 a0):Sd 134 [rL 1 bR a0] [rL 1 iR (kv a0)]:=by
 have f:=me (kv.eq_1 a0);refine soD func134 ntmps134 ?_;refine lp2 (qZ.eq_2 a0) (fun J U=>Yx 19 [(3,.one (.sref 3 0 0 J.length),[.arr false 1 (J.map iR)]),eL 6 1 a0 bR,eI 7 (a0.length:Int),eI 8 (U:Int)]) (fun n1 J U=>a0.length<n1+U/\U<=a0.length/\J.length<=0+1*U) (a0.length+1) ([]:List Int) 0 (fun p1 J U e1 j1=>?_) (h0:=wkS [((3,0),none)] []);refine cFf e1 ?_ ?_<;>intro k2 h1 e1
 ·have i1:=ix h1;have m2:=ml a0 (k2 6 _ rfl);have c1:=sl 2342912 a0 u0;have w1:=wr U;simp[i1,ZD];refine rpS ?_;exact nx2 e1 (hw:=XO [((3,0),some (16,0))] [] rfl zAd)
 exact rtD [.tmp 2] (ms f e1)
theorem se(a0 a1:Int):Sa 207 [rI a0,rI a1] [rI (Bf a0 a1)]:=by
 have f:=me (Bf.eq_1 a0 a1);refine so func207 ntmps207 ?_;refine cRs (Zv a1 1 1000000000000) ?_;refine cFo f ?_ ?_<;>intro k1 h1 f
 ·have q1:=h1;try simp[ZX]at q1
  simp;exact rt _ f
 have q1:=h1;try simp[ZX]at q1
 simp;refine rpS ?_;exact rt _ f
theorem Dd(a0:List Int):Sa 135 [rL 1 iR a0] [rI (M8 a0)]:=by
 have f:=me (M8.eq_1 a0);refine so func135 ntmps135 ?_;refine lp2 (Rs.eq_2 a0) (fun J U=>Yx 21 [eI 3 J,eL 6 1 a0 iR,eI 7 (a0.length:Int),eI 8 (U:Int)]) (fun n1 J U=>a0.length<n1+U/\U<=a0.length) (a0.length+1) 11 0 (fun p1 J U e1 j1=>?_);refine cFf e1 ?_ ?_<;>intro k2 h1 e1
 ·have i1:=ix h1;have m2:=ml a0 (k2 6 _ rfl);have w1:=wr U;simp[i1,ZD];refine rpS ?_;refine cRs (se (nth a0 U) 2147483647) ?_;exact ny2 w1 e1
 exact rt _ (ms f e1)
theorem KT(a0:Int)(a1:List Int)(u0:Sm 68719476736 a1):Sa 72 [rI a0,rL 1 iR a1] [rI (Ju a0 a1)]:=by
 have f:=me (Ju.eq_1 a0 a1);have c1:=sl 68719476736 a1 u0;refine so func72 ntmps72 ?_;refine cRs (Dd (([7,a0]:List Int)++a1)) ?_;exact rt _ f
theorem IY(a0:Int)(a1:ByteArray)(a2:Int)(u0:Sm 2326528 a1):Sa 71 [rI a0,rS a1,rI a2] [rI (ka a0 a1 a2)]:=by
 have f:=me (ka.eq_1 a0 a1 a2);refine so func71 ntmps71 ?_;have c1:a1.size<=2326528:=D3 (xs u0);refine pR (s:=a1) rfl rfl rfl zAE zAE zAE zAE zAA ?_;simp;refine cRs (Yg.rd (Dr a1.data.toList (by simp[XM];first|omega|(simp[ByteArray.size]at*;omega)))) ?_;refine cRs (KT a0 (([a2]:List Int)++kv a1.data.toList) zAj) ?_;exact rt _ f
theorem yW(a0:Int)(a1:ZR)(u0:Sm 2322432 a1):Sa 29 [rI a0,a1.row] [rI (Yb a0 a1)]:=by
 have f:=me (Yb.eq_1 a0 a1);refine so func29 ntmps29 ?_;refine cRs (RK a1) ?_;refine cF f ?_ ?_<;>intro k1 h1 f
 ·exact rt [.tmp 4] f
 refine lp2 (jL.eq_2 a0 a1) (fun J U=>Yx 37 [eI 0 a0,eX 3 (a1.row.map .d),(5,.one (.sref 5 0 0 J.length),[.arr false 1 (J.map iR)]),eL 15 1 a1.Xw sR,eI 16 (a1.Xw.length:Int),eI 17 (U:Int)]) (fun n1 J U=>a1.Xw.length<n1+U/\U<=a1.Xw.length/\J.length<=1+1*U) (a1.Xw.length+1) ([a1.UN]:List Int) 0 (fun p1 J U e1 j1=>?_) (h0:=wkS [((5,0),some (13,0))] []);refine cFf e1 ?_ ?_<;>intro k3 h2 e1
 ·have i1:=ix h2;have m2:=ml a1.Xw (k3 15 _ rfl);have c1:=sl 2322432 a1.Xw u0;have w1:=wr U;have i2:U<a1.KZ.length:=by(have:=Mf (a:=a1);first|(simp_all;done)|(simp_all;omega))
  simp[i1,ZD,i2];refine rpS ?_;refine cRs (IY a0 (nth a1.Xw U) (nth a1.KZ U) (sg (Zr (ZR.Gx u0)))) ?_;exact nx2 e1 (hw:=XO [((5,0),some (32,0))] [] rfl zAd)
 have c2:=sl 2322432 a1.Xw u0;have f:=ms f e1;refine cRs (KT a0 J zAK) ?_;exact rt [.tmp 4] f
theorem jq(a0:Zl):Sd 223 [a0.row] [rL 1 iR (X0 a0)]:=by
 have f:=me (X0.eq_1 a0);refine soD func223 ntmps223 ?_;exact rtD [.tmp 2] f
theorem G7(a0:Int)(a1:List Int)(u0:Sm 2330624 a1):Sa 276 [rI a0,rL 1 iR a1] [rI (W6 a0 a1)]:=by
 have f:=me (W6.eq_1 a0 a1);have c1:=sl 2330624 a1 u0;refine so func276 ntmps276 ?_;refine cRs (Dd ((([a0]:List Int)++a1)++([a0]:List Int))) ?_;exact rt _ f
theorem EO(a0:Y4)(a1:List Int)(u0:Sm 2326528 a1):Sa 229 [a0.row,rL 1 iR a1] [rI (UY a0 a1)]:=by
 have f:=me (UY.eq_1 a0 a1);refine so func229 ntmps229 ?_;refine FI [2,3,4,5,6,0,1,7,8] mixed zAV zAV zAV ?_;have c1:=sl 2326528 a1 u0;simp;refine rpS ?_;refine cRs (G7 a0.PB (([a0.Method]:List Int)++a1) zAj) ?_;exact rt _ f
theorem TB(a0:List Y4)(a1:Int)(a2:List Int)(u0:Sm 2322432 a0)(u1:Sm 2322432 a2):Sa 151 [rL 5 Y4.row a0,rI a1,rL 1 iR a2] [rI (zS a0 a1 a2).1,rB (zS a0 a1 a2).2]:=by
 have f:=me (zS.eq_1 a0 a1 a2);refine so func151 ntmps151 ?_;refine cRs (Jz a0 a1) ?_;refine cFt f ?_ ?_<;>intro k1 h1 f
 ·exact rt _ f
 have i1:(Z6 a0 a1).toNat<a0.length:=by have:=zz a0 a1;exact il
 simp[i1,ZD];refine rpS ?_;refine cRs (EO (nth a0 (Z6 a0 a1).toNat) a2 (sg u1)) ?_;exact rt _ f
theorem WM(a0:Zl):Sa 209 [a0.row] [rB (K9 a0)]:=by
 have f:=me (K9.eq_1 a0);refine so func209 ntmps209 ?_;refine cRs (Zv a0.Key 1 99) ?_;refine cGs (fun gg=>Zv a0.Za 1 999) ?_;refine cGs (fun gg=>Zv a0.Method 0 99) ?_;refine cGs (fun gg=>Zv a0.Org 0 99) ?_;refine cGs (fun gg=>Zv a0.Ub 1 3) ?_;refine cGs (fun gg=>Zv a0.QL 0 1000000000000) ?_;refine cGs (fun gg=>Zv a0.V6 0 1000000000000) ?_;refine cGs (fun gg=>Zv a0.UZ 0 1000000000000) ?_;exact rt _ f
theorem Ii(a0:List Y4)(a1:Zl)(u0:Sm 2318336 a0):Sa 139 [rL 5 Y4.row a0,a1.row] [(XV a0 a1).1.row,rB (XV a0 a1).2]:=by
 have f:=me (XV.eq_1 a0 a1);refine so func139 ntmps139 ?_;refine dIs mixed ?_;refine cRs (Yg.rd (jq a1)) ?_;refine cRs (TB a0 a1.Key (X0 a1) (sg u0) (by simp(maxDischargeDepth:=12) [je,ZQ (m:=2322432) zAD u0];try omega)) ?_;refine cRs (WM a1) ?_;refine cF f ?_ ?_<;>intro k2 h1 f
 ·exact rt [.cell 4 46,.tmp 5] f
 exact rt [.cell 4 46,.tmp 5] f
theorem Ua(a0:Zl):Sd 140 [a0.row] [(Yf a0).row]:=by
 have f:=me (Yf.eq_1 a0);refine soD func140 ntmps140 ?_;refine dIs mixed ?_;refine cDs [false] (jq a0) ?_;exact rtD [.cell 2 154] f
theorem Og(a0:YN):Sd 193 [a0.row] [rL 1 iR (yR a0)]:=by
 have f:=me (yR.eq_1 a0);refine soD func193 ntmps193 ?_;exact rtD [.tmp 2] f
theorem GF(a0:YN):Sd 141 [a0.row] [(JJ a0).row]:=by
 have f:=me (JJ.eq_1 a0);refine soD func141 ntmps141 ?_;refine dIs mixed ?_;refine cDs [false] (Og a0) ?_;exact rtD [.cell 2 154] f
theorem jJ(a0:ZE)(a1:Int):Sa 26 [a0.row,rI a1] [rI (ZZ a0 a1)]:=by
 have f:=me (ZZ.eq_1 a0 a1);refine so func26 ntmps26 ?_;refine lp1 (zm.eq_2 a0 a1) (fun J=>Yx 21 [eI 1 a1,eL 8 16 a0.ZB ZN.row,eI 9 (a0.ZB.length:Int),eI 10 (J:Int)]) (fun n1 J=>a0.ZB.length<n1+J/\J<=a0.ZB.length) (a0.ZB.length+1) 0 (fun p1 J e1 j1=>?_);refine cFf e1 ?_ ?_<;>intro k2 h1 e1
 ·have i1:=ix h1;have m2:=ml a0.ZB (k2 8 _ rfl);have w1:=wr J;simp[i1,ZD];refine rpS ?_;refine cF e1 ?_ ?_<;>intro k3 h2 e1
  ·exact rt _ (ms f e1)
  exact ny1 w1 e1
 exact rt _ (ms f e1)
theorem zI(a0:Int):Sa 150 [rI a0] [rB (KY a0)]:=by
 have f:=me (KY.eq_1 a0);refine so func150 ntmps150 ?_;refine cRs (Zv a0 0 10000) ?_;exact rt [.tmp 2] f
theorem Gm(a0 a1:List Int):Sa 284 [rL 1 iR a0,rL 1 iR a1] [rB (TJ a0 a1)]:=by
 have f:=me (TJ.eq_1 a0 a1);refine so func284 ntmps284 ?_;refine cF f ?_ ?_<;>intro k1 h1 f
 ·exact rt _ f
 refine lp1 (WZ.eq_2 a0 a1) (fun J=>Yx 26 [eL 0 1 a0 iR,eL 1 1 a1 iR,eI 12 (a0.length:Int),eI 13 (J:Int)]) (fun n1 J=>a0.length<n1+J/\J<=a0.length) (a0.length+1) 0 (fun p1 J e1 j1=>?_);refine cF e1 ?_ ?_<;>intro k3 h2 e1
 ·have i1:=ix h2;have m2:=ml a0 (k3 0 _ rfl);have w1:=wr J;refine dIo mixed ?_;have i2:=ik J a1;simp[i1,ZD,i2];refine rpS ?_;refine cF e1 ?_ ?_<;>intro k5 h3 e1
  ·exact rt _ (ms f e1)
  exact ny1 w1 e1
 exact rt _ (ms f e1)
theorem WR(a0 a1:ZT):Sa 255 [a0.row,a1.row] [rB (KM a0 a1)]:=by
 have f:=me (KM.eq_1 a0 a1);refine so func255 ntmps255 ?_;refine cGs (fun gg=>Gm a0.YM a1.YM) ?_;exact rt [.tmp 4] f
theorem Wd(a0:List ZT)(a1:ZT):Sa 234 [rL 3 ZT.row a0,a1.row] [rB (KE a0 a1)]:=by
 have f:=me (KE.eq_1 a0 a1);refine so func234 ntmps234 ?_;refine lp1 (kL.eq_2 a0 a1) (fun J=>Yx 17 [eX 3 (a1.row.map .d),eL 7 3 a0 ZT.row,eI 8 (a0.length:Int),eI 9 (J:Int)]) (fun n1 J=>a0.length<n1+J/\J<=a0.length) (a0.length+1) 0 (fun p1 J e1 j1=>?_);refine cFf e1 ?_ ?_<;>intro k2 h1 e1
 ·have i1:=ix h1;have m2:=ml a0 (k2 7 _ rfl);have w1:=wr J;simp[i1,ZD];refine rpS ?_;refine cRs (WR (nth a0 J) a1) ?_;refine cF e1 ?_ ?_<;>intro k3 h2 e1
  ·exact rt _ (ms f e1)
  exact ny1 w1 e1
 exact rt _ (ms f e1)
theorem TX(a0:ZW):Sa 161 [a0.row] [rB (Xi a0)]:=by
 have f:=me (Xi.eq_1 a0);refine so func161 ntmps161 ?_;refine cRs (Zv (a0.ZI.length:Int) 1 12) ?_;refine cFo f ?_ ?_<;>intro k1 h1 f
 ·have q1:=h1;try simp[ZX]at q1
  simp;exact rt _ f
 have q1:=h1;try simp[ZX]at q1
 simp;refine lp1 (xG.eq_2 a0) (fun J=>Yx 65 [eX 1 (a0.row.map .d),eL 19 3 a0.ZI ZT.row,eI 20 (a0.ZI.length:Int),eI 21 (J:Int)]) (fun n1 J=>a0.ZI.length<n1+J/\J<=a0.ZI.length) (a0.ZI.length+1) 0 (fun p1 J e1 j1=>?_);refine cFf e1 ?_ ?_<;>intro k3 h2 e1
 ·have i1:=ix h2;have w1:=wr J;simp[i1,ZD];refine rpS ?_;refine dIs mixed ?_;refine cRs (Wd (a0.ZI.take J) (nth a0.ZI J)) ?_;refine cF e1 ?_ ?_<;>intro k5 h3 e1
  ·exact rt _ (ms f e1)
  exact ny1 w1 e1
 have f:=ms f e1;refine lp1 (xI.eq_2 a0) (fun iF=>Yx 65 [eX 1 (a0.row.map .d),eL 34 5 a0.ZM Zb.row,eI 35 (a0.ZM.length:Int),eI 36 (iF:Int)]) (fun n2 iF=>a0.ZM.length<n2+iF/\iF<=a0.ZM.length) (a0.ZM.length+1) 0 (fun p2 iF e2 j2=>?_);refine cFf e2 ?_ ?_<;>intro k7 h4 e2
 ·have i2:=ix h4;have w2:=wr iF;simp[i2,ZD];refine rpS ?_;refine dIs mixed ?_;refine cRs (Zv (nth a0.ZM iF).Count 1 (a0.ZI.length:Int)) ?_;refine gIf ?_ ?_<;>intro G
  ·have i3:=ik (iF-1) a0.ZM;have w3:IntKind.i64.wrap ((iF:Int)-1)=(iF:Int)-1:=YX zAA zAA;simp[i3,ZD,w3,G];refine rpG ?_;refine cKo e2 ?_ ?_<;>intro k9 h5 e2
   ·have q5:=h5;try simp[ZX]at q5
    have f:=ms f e2;simp;refine rpG ?_;exact rtg _ f
   ·have q5:=h5;try simp[ZX]at q5
    simp;refine rpG ?_;exact ny1 (an w2 (an w3 G)) e2
  ·refine cKo e2 ?_ ?_<;>intro aZ h6 e2
   ·have q6:=h6;try simp[ZX]at q6
    have f:=ms f e2;simp;refine rpG ?_;exact rtg _ f
   ·have q6:=h6;try simp[ZX]at q6
    simp;refine rpG ?_;exact ny1 (an w2 G) e2
 exact rt _ (ms f e2)
theorem L1(a0:ZN):Sa 195 [a0.row] [rB (JS a0)]:=by
 have f:=me (JS.eq_1 a0);refine so func195 ntmps195 ?_;refine dIs mixed ?_;refine cRs (Zv a0.Id 1 999) ?_;refine cGs (fun gg=>zI a0.XF) ?_;refine cGs (fun gg=>RK a0.Doc) ?_;refine cGs (fun gg=>TX a0.ZG) ?_;refine gIf ?_ ?_<;>intro G
 ·have g1:=G;try simp[ZX]at g1
  have i1:0<a0.ZG.ZI.length:=by have:=GP (a:=a0.ZG);simp_all
  simp[i1,ZD,G];refine rpG ?_;refine cGg (fun gg=>Yg.rd (Ua a0.Sig)) ?_;refine cGg (fun gg=>WR (nth a0.ZG.ZI 0) (Yf a0.Sig)) ?_;exact rtg _ f
 ·refine sGo ?_;simp;refine rpG ?_;refine sGo ?_;simp;refine rpG ?_;exact rtg _ f
theorem y6(a0:ZE):Sa 121 [a0.row] [rB (Ys a0)]:=by
 have f:=me (Ys.eq_1 a0);refine so func121 ntmps121 ?_;refine lp1 (xv.eq_2 a0) (fun J=>Yx 42 [eX 1 (a0.row.map .d),eL 6 16 a0.ZB ZN.row,eI 7 (a0.ZB.length:Int),eI 8 (J:Int)]) (fun n1 J=>a0.ZB.length<n1+J/\J<=a0.ZB.length) (a0.ZB.length+1) 0 (fun p1 J e1 j1=>?_);refine cFf e1 ?_ ?_<;>intro k2 h1 e1
 ·have i1:=ix h1;have m2:=ml a0.ZB (k2 6 _ rfl);have w1:=wr J;simp[i1,ZD];refine rpS ?_;refine dIs mixed ?_;refine cRs (L1 (nth a0.ZB J)) ?_;refine gIf ?_ ?_<;>intro G
  ·have i2:=ik (J-1) a0.ZB;have w2:IntKind.i64.wrap ((J:Int)-1)=(J:Int)-1:=YX zAA zAA;simp[i2,ZD,w2,G];refine rpG ?_;refine cK e1 ?_ ?_<;>intro k4 h2 e1
   ·exact rtg _ (ms f e1)
   ·exact ny1 (an w1 (an w2 G)) e1
  ·refine cK e1 ?_ ?_<;>intro k5 h3 e1
   ·exact rtg _ (ms f e1)
   ·exact ny1 (an w1 G) e1
 have f:=ms f e1;refine cRs (Zv a0.Id 0 99) ?_;exact rt _ f
theorem Nf(a0:ZE)(a1:ZN)(u0:Sm 2318336 a0)(u1:Sm 2318336 a1):Sd 142 [a0.row,a1.row] [(YZ a0 a1).1.row,rB (YZ a0 a1).2]:=by
 have f:=me (YZ.eq_1 a0 a1);refine soD func142 ntmps142 ?_;refine cRs (jJ a0 a1.Id) ?_;refine cGs (fun gg=>y6 a0) ?_;refine cF f ?_ ?_<;>intro k1 h1 f
 ·refine cDs [] (Yo a0 (sg u0)) ?_;exact rtD [.cell 4 55,.tmp 5] f
 refine cDs [] (Yo a0 (sg u0)) ?_;refine lp1 (X4.eq_2 a0 a1) (fun J=>Yx 62 [eX 2 (a0.row.map .d),eX 3 (a1.row.map .d),(4,.one (.bptr 4 0),[.box [.d (.int .i64 0),.nil 16]]),(6,.one (.bptr 6 0),[.box [.d (.int .i64 a0.Id),.sref 21 1 0 a0.ZB.length]]),eI 7 (J:Int),(21,.any,[.none,.arr true 16 (a0.ZB.map ZN.row)])]) (fun n1 J=>a0.ZB.length<n1+J/\J<=a0.ZB.length) (a0.ZB.length+1) 0 (fun p1 J e1 j1=>?_);refine dIs mixed ?_;refine gIf ?_ ?_<;>intro G
 ·have i1:=ik J a0.ZB;simp[i1,ZD,G];refine rpG ?_;refine cK e1 ?_ ?_<;>intro k4 h2 e1
  ·try(simp[G]at h2;done)
   all_goals
    have i2:J<a0.ZB.length:=by(simp at h2;omega)
    have m2:=ml a0.ZB (k4 24 _ rfl);have c1:=sl 2318336 a0.ZB (an u0 u1);have w1:=wr J;exact ny1 (an w1 G) e1
  ·try(simp[G]at h2;done)
   all_goals
    have c2:=sl 2318336 a0.ZB (an u0 u1);have f:=ms f e1;refine vj [(3,3),(6,6),(41,6),(50,6),(55,6)] [] [45,49,54] mixed zAV zAV zAV zAV zAV zAV zAV ?_;simp[G];refine rpG ?_;refine kI ?_;simp[G];refine rpG ?_;refine rn (iJ:=([]:List ZN).map ZN.row) (rows:=a0.ZB.map ZN.row) (news:=(a0.ZB.take J).map ZN.row) (l1:=[(40,0)]) (size:=16) (u:=21) (j:=1) (lo:=0) (n:=J) rfl rfl rfl rfl zAE zAE zAE zAE zAE zAE zAw (by simp[cut]) zAE zAw ?_;simp[G];refine rpG ?_;refine cDg [true,true,true,false,false] (qb a1 (sg u1)) ?_;refine kI ?_;have c3:=sl 2318336 (a0.ZB.take J) (an u0 u1);simp[G];refine rpG ?_;refine WV (iJ:=(a0.ZB.take J).map ZN.row) (news:=([a1]:List ZN).map ZN.row) (l1:=[(45,0)]) (l2:=[(47,3),(47,4),(47,14),(47,15)]) (size:=16) ?_;simp[G];refine rpG ?_;refine rn (iJ:=(a0.ZB.take J++([a1]:List ZN)).map ZN.row) (rows:=Jw (a0.ZB.map ZN.row) 0 J) (news:=(a0.ZB.drop J).map ZN.row) (l1:=[(49,0)]) (size:=16) (u:=21) (j:=1) (lo:=J) (n:=a0.ZB.length-J) rfl rfl rfl rfl zAE zAE zAE zAE zAE zAE zBZ ((IL zAw zAw).trans (Rr _ _ _)) zAE zAw ?_;simp[G];refine rpG ?_;refine cRg (y6 (ZE.mk a0.Id ((a0.ZB.take J++([a1]:List ZN))++a0.ZB.drop J))) ?_;refine cK f ?_ ?_<;>intro k6 h3 f
    ·try(simp[G]at h3;done)
     all_goals
      refine cDg [] (Yo a0 (sg u0)) ?_;exact yV [.cell 4 55,.tmp 5] f
    ·try(simp[G]at h3;done)
     all_goals
      exact yV [.cell 4 55,.tmp 5] f
 ·refine cK e1 ?_ ?_<;>intro k7 h4 e1
  ·try(simp[G]at h4;done)
   all_goals
    have i4:J<a0.ZB.length:=by(simp at h4;omega)
    have m4:=ml a0.ZB (k7 24 _ rfl);have c4:=sl 2318336 a0.ZB (an u0 u1);have w2:=wr J;exact ny1 (an w2 G) e1
  ·try(simp[G]at h4;done)
   all_goals
    have c5:=sl 2318336 a0.ZB (an u0 u1);have f:=ms f e1;refine vj [(3,3),(6,6),(41,6),(50,6),(55,6)] [] [45,49,54] mixed zAV zAV zAV zAV zAV zAV zAV ?_;simp[G];refine rpG ?_;refine kI ?_;simp[G];refine rpG ?_;refine rn (iJ:=([]:List ZN).map ZN.row) (rows:=a0.ZB.map ZN.row) (news:=(a0.ZB.take J).map ZN.row) (l1:=[(40,0)]) (size:=16) (u:=21) (j:=1) (lo:=0) (n:=J) rfl rfl rfl rfl zAE zAE zAE zAE zAE zAE zAw (by simp[cut]) zAE zAw ?_;simp[G];refine rpG ?_;refine cDg [true,true,true,false,false] (qb a1 (sg u1)) ?_;refine kI ?_;have c6:=sl 2318336 (a0.ZB.take J) (an u0 u1);simp[G];refine rpG ?_;refine WV (iJ:=(a0.ZB.take J).map ZN.row) (news:=([a1]:List ZN).map ZN.row) (l1:=[(45,0)]) (l2:=[(47,3),(47,4),(47,14),(47,15)]) (size:=16) ?_;simp[G];refine rpG ?_;refine rn (iJ:=(a0.ZB.take J++([a1]:List ZN)).map ZN.row) (rows:=Jw (a0.ZB.map ZN.row) 0 J) (news:=(a0.ZB.drop J).map ZN.row) (l1:=[(49,0)]) (size:=16) (u:=21) (j:=1) (lo:=J) (n:=a0.ZB.length-J) rfl rfl rfl rfl zAE zAE zAE zAE zAE zAE zBZ ((IL zAw zAw).trans (Rr _ _ _)) zAE zAw ?_;simp[G];refine rpG ?_;refine cRg (y6 (ZE.mk a0.Id ((a0.ZB.take J++([a1]:List ZN))++a0.ZB.drop J))) ?_;refine cK f ?_ ?_<;>intro k9 h5 f
    ·try(simp[G]at h5;done)
     all_goals
      refine cDg [] (Yo a0 (sg u0)) ?_;exact yV [.cell 4 55,.tmp 5] f
    ·try(simp[G]at h5;done)
     all_goals
      exact yV [.cell 4 55,.tmp 5] f
theorem OB(a0:ZF)(a1 a2:Int)(a3:ZR)(a4 a5:Int)(u0:Sm 2314240 a0)(u1:Sm 2314240 a3):Sa 77 [a0.row,rI a1,rI a2,a3.row,rI a4,rI a5] [(XR a0 a1 a2 a3 a4 a5).1.row,rB (XR a0 a1 a2 a3 a4 a5).2]:=by
 have f:=me (XR.eq_1 a0 a1 a2 a3 a4 a5);refine so func77 ntmps77 ?_;refine cRs (jc a0.Frame.Methods a0.Frame.Now) ?_;refine cRs (yf a0 a1) ?_;refine cGs (fun gg=>Jz a0.Frame.Zt a2) ?_;have c1:=sl 2314240 a0.ZA (an u0 u1);have w1:IntKind.i64.wrap ((a0.ZA.length:Int)-1)=(a0.ZA.length:Int)-1:=YX zAA zAA;refine cFo f ?_ ?_<;>intro k1 h1 f
 ·have q1:=h1;try simp[w1,YG,ZX]at q1
  simp;exact rt [.cell 12 33,.tmp 13] f
 have q1:=h1;try simp[w1,YG,ZX]at q1
 simp;refine lp1 (JC.eq_2 a0 a1 a2 a3 a4 a5) (fun J=>Yx 116 [eI 1 a1,eI 2 a2,eI 4 a4,eI 5 a5,eX 6 (a0.row.map .d),eX 9 (a3.row.map .d),(12,.one (.bptr 12 0),[.box [.nil 5,.nil 3,.nil 4,.d (.int .i64 0),.d (.int .i64 0),.nil 7,.nil 1,.nil 2,.nil 1,.nil 1,.d (.int .i64 0),.nil 1]]),eX 14 (a0.Frame.row.map .d),eI 15 (ZS a0.Frame.Methods a0.Frame.Now),eL 48 7 a0.Zd YN.row,eI 49 (a0.Zd.length:Int),eI 50 (J:Int)]) (fun n1 J=>a0.Zd.length<n1+J/\J<=a0.Zd.length) (a0.Zd.length+1) 0 (fun p1 J e1 j1=>?_);refine cFf e1 ?_ ?_<;>intro k3 h2 e1
 ·have i1:=ix h2;have m2:=ml a0.Zd (k3 48 _ rfl);have c2:=sl 2314240 a0.Zd (an u0 u1);have w2:=wr J;simp[i1,ZD];refine rpS ?_;refine cF e1 ?_ ?_<;>intro k4 h3 e1
  ·exact ny1 (an w1 w2) e1
  refine dIs mixed ?_;refine cRs (yW (ZS a0.Frame.Methods a0.Frame.Now) a3 (sg u1)) ?_;refine cRs (Ii a0.Frame.Zt (Zl.mk a2 (nth a0.Zd J).Za (ZS a0.Frame.Methods a0.Frame.Now) (Yb (ZS a0.Frame.Methods a0.Frame.Now) a3) 1 a4 0 0 0) (sg (ZO.Xb (ZF.Xr u0)))) ?_;refine dIs mixed ?_;refine cRs (Yg.rd (Ua (XV a0.Frame.Zt (Zl.mk a2 (nth a0.Zd J).Za (ZS a0.Frame.Methods a0.Frame.Now) (Yb (ZS a0.Frame.Methods a0.Frame.Now) a3) 1 a4 0 0 0)).1)) ?_;refine cRs (Yg.rd (GF (nth a0.Zd J))) ?_;refine eIs ?_;refine dIo mixed ?_;have i2:=ik a1.toNat a0.ZA
  simp[i2,ZD];refine rpS ?_;refine cDs [] (Nf (nth a0.ZA a1.toNat) (ZN.mk a0.Next a5 a3 (XV a0.Frame.Zt (Zl.mk a2 (nth a0.Zd J).Za (ZS a0.Frame.Methods a0.Frame.Now) (Yb (ZS a0.Frame.Methods a0.Frame.Now) a3) 1 a4 0 0 0)).1 (ZW.mk ([Yf (XV a0.Frame.Zt (Zl.mk a2 (nth a0.Zd J).Za (ZS a0.Frame.Methods a0.Frame.Now) (Yb (ZS a0.Frame.Methods a0.Frame.Now) a3) 1 a4 0 0 0)).1,JJ (nth a0.Zd J)]:List ZT) ([]:List Zb))) (sg (Zr (ZF.YR u0))) (by simp(maxDischargeDepth:=12) [SA,XM,RZ,Y1,ZQ (m:=2318336) zAD u0,ZQ (m:=2318336) zAD u1];try omega)) ?_;refine cF e1 ?_ ?_<;>intro k8 h4 e1
  ·exact rt [.cell 12 33,.tmp 13] (ms f e1)
  refine cDf i2 [false,false,false,true,true,false,false,true,false,false,true,false] (YY a0 (sg u0)) ?_;refine MU (t:=103) (j:=7) (i:=a1.toNat) (size:=2) (rows:=a0.ZA.map ZE.row) (ds:=(YZ (nth a0.ZA a1.toNat) (ZN.mk a0.Next a5 a3 (XV a0.Frame.Zt (Zl.mk a2 (nth a0.Zd J).Za (ZS a0.Frame.Methods a0.Frame.Now) (Yb (ZS a0.Frame.Methods a0.Frame.Now) a3) 1 a4 0 0 0)).1 (ZW.mk ([Yf (XV a0.Frame.Zt (Zl.mk a2 (nth a0.Zd J).Za (ZS a0.Frame.Methods a0.Frame.Now) (Yb (ZS a0.Frame.Methods a0.Frame.Now) a3) 1 a4 0 0 0)).1,JJ (nth a0.Zd J)]:List ZT) ([]:List Zb)))).1.row) (L:=[(92,1)]) ?_;have f:=ms f e1
  simp[Kx (x:=(YZ (nth a0.ZA a1.toNat) (ZN.mk a0.Next a5 a3 (XV a0.Frame.Zt (Zl.mk a2 (nth a0.Zd J).Za (ZS a0.Frame.Methods a0.Frame.Now) (Yb (ZS a0.Frame.Methods a0.Frame.Now) a3) 1 a4 0 0 0)).1 (ZW.mk ([Yf (XV a0.Frame.Zt (Zl.mk a2 (nth a0.Zd J).Za (ZS a0.Frame.Methods a0.Frame.Now) (Yb (ZS a0.Frame.Methods a0.Frame.Now) a3) 1 a4 0 0 0)).1,JJ (nth a0.Zd J)]:List ZT) ([]:List Zb)))).1) rfl,c1,i2,ZD,XX];refine rpS ?_;exact rt [.cell 12 33,.tmp 13] f
 exact rt [.cell 12 33,.tmp 13] (ms f e1)
theorem F7(a0:ZF)(a1 a2:Int)(a3:ZR)(a4 a5:Int)(u0:Sm 2310144 a0)(u1:Sm 2310144 a3):Sd 32 [a0.row,rI a1,rI a2,a3.row,rI a4,rI a5] [(Ja a0 a1 a2 a3 a4 a5).1.row,rB (Ja a0 a1 a2 a3 a4 a5).2]:=by
 have f:=me (Ja.eq_1 a0 a1 a2 a3 a4 a5);refine soD func32 ntmps32 ?_;refine cRs (Jz a0.Frame.Zt a2) ?_;refine dIs mixed ?_;refine gIf ?_ ?_<;>intro G
 ·have i1:(Z6 a0.Frame.Zt a2).toNat<a0.Frame.Zt.length:=by have:=zz a0.Frame.Zt a2;exact il
  simp[i1,ZD,G];refine rpG ?_;refine cK f ?_ ?_<;>intro k2 h1 f
  ·refine cDg [false,false,false,true,true,false,false,true,false,false,true,false] (YY a0 zAi) ?_;exact yV _ f
  ·refine cRg (OB a0 a1 a2 a3 a4 a5 (sg u0) (sg u1)) ?_;refine cDg [false,false,false,true,true,false,false,true,false,false,true,false] (YY (XR a0 a1 a2 a3 a4 a5).1 zA1) ?_;exact yV _ f
 ·refine cK f ?_ ?_<;>intro k3 h2 f
  ·refine cDg [false,false,false,true,true,false,false,true,false,false,true,false] (YY a0 zAi) ?_;exact yV _ f
  ·simp[G]at h2
theorem Ws(a0:ZF)(a1:Int):Sa 11 [a0.row,rI a1] [rI (ZK a0 a1).1,rI (ZK a0 a1).2]:=by
 have f:=me (ZK.eq_1 a0 a1);refine so func11 ntmps11 ?_;refine lp1 (qE.eq_2 a0 a1) (fun J=>Yx 25 [eI 1 a1,eL 10 2 a0.ZA ZE.row,eI 11 (a0.ZA.length:Int),eI 12 (J:Int)]) (fun n1 J=>a0.ZA.length<n1+J/\J<=a0.ZA.length) (a0.ZA.length+1) 0 (fun p1 J e1 j1=>?_);refine cFf e1 ?_ ?_<;>intro k2 h1 e1
 ·have i1:=ix h1;have m2:=ml a0.ZA (k2 10 _ rfl);have w1:=wr J;simp[i1,ZD];refine rpS ?_;refine cRs (jJ (nth a0.ZA J) a1) ?_;refine cF e1 ?_ ?_<;>intro k3 h2 e1
  ·exact rt _ (ms f e1)
  exact ny1 w1 e1
 exact rt _ (ms f e1)
theorem zK(a0:ZT):Sa 224 [a0.row] [rI (Yp a0)]:=by
 have f:=me (Yp.eq_1 a0);refine so func224 ntmps224 ?_;refine dIs mixed ?_;refine gIf ?_ ?_<;>intro G
 ·have i1:=ik 0 a0.YM;simp[i1,ZD,G];refine rpG ?_;refine cGg (fun gg=>Zv (nth a0.YM 0) 101 105) ?_;refine gJf G ?_ ?_<;>intro G
  ·all_goals
    have g2:=G.2;try simp[ZX]at g2
    all_goals
     simp[i1,ZD,G];refine rpG ?_;refine gK (fun _=>?_);have r1:∀i:Nat,i<5->cut [At.d (.int .i64 7),At.d (.int .i64 5),At.d (.int .i64 5),At.d (.int .i64 9),At.d (.int .i64 6)] i 1=[At.d (.int .i64 (nth ([7,5,5,9,6]:List Int) i))]:=zA7
     have i2:(W (nth a0.YM 0-101)).toNat<5:=by first|omega|((try simp only[Y0]at*);omega)
     have r1b:=r1 _ i2;simp only[cut]at r1b;simp[r1b];refine rpG ?_;refine cKo f ?_ ?_<;>intro k2 h1 f
     ·have q1:=h1;try simp[ZX]at q1
      simp;refine rpG ?_;exact rtg _ f
     ·have q1:=h1;try simp[ZX]at q1
      simp[i1,ZD];refine rpG ?_;exact rtg _ f
  ·all_goals
    refine sGg ?_;refine cKo f ?_ ?_<;>intro k3 h2 f
    ·have q2:=h2;try simp[ZX]at q2
     simp;refine rpG ?_;exact rtg _ f
    ·simp[G]at h2
 ·refine sGo ?_;simp;refine rpG ?_;refine gJf G ?_ ?_<;>intro G
  ·try(simp at G;done)
   all_goals
    have g3:=G.2;try simp[ZX]at g3
    all_goals
     have i5:=ik 0 a0.YM;simp[i5,ZD,G];refine rpG ?_;refine gK (fun _=>?_);have r3:∀i:Nat,i<5->cut [At.d (.int .i64 7),At.d (.int .i64 5),At.d (.int .i64 5),At.d (.int .i64 9),At.d (.int .i64 6)] i 1=[At.d (.int .i64 (nth ([7,5,5,9,6]:List Int) i))]:=zA7;have i6:(W (nth a0.YM 0-101)).toNat<5:=by first|omega|((try simp only[Y0,show ∀x,IntKind.i64.wrap x=W x from fun _=>rfl]at*);omega)
     have r3b:=r3 _ i6;simp only[cut]at r3b;simp[r3 _ i6,r3b,G];refine rpG ?_;refine cKo f ?_ ?_<;>intro k4 h3 f
     ·simp[G]at h3
     ·simp[G]at h3
  ·all_goals
    refine sGg ?_;refine cKo f ?_ ?_<;>intro k5 h4 f
    ·have q4:=h4;try simp[ZX]at q4
     simp;refine rpG ?_;exact rtg _ f
    ·simp[G]at h4
theorem UB(a0:ZT):Sa 143 [a0.row] [(YD a0).1.row,rB (YD a0).2]:=by
 have f:=me (YD.eq_1 a0);refine so func143 ntmps143 ?_;refine dIs mixed ?_;refine cRs (zK a0) ?_;refine gIf ?_ ?_<;>intro G
 ·have fD:=G;have g1:=G;try simp at g1
  have i1:6<a0.YM.length:=zAH;simp[i1,ZD,G];refine rpG ?_;refine cK f ?_ ?_<;>intro k2 h1 f
  ·try(simp[G]at h1;done)
   all_goals
    exact rtg [.cell 2 124,.tmp 3] f
  ·try(simp[G]at h1;done)
   all_goals
    refine dIo mixed ?_;have i2:1<a0.YM.length:=zAH
    have i3:2<a0.YM.length:=zAH;have i4:3<a0.YM.length:=zAH;have i5:4<a0.YM.length:=zAH;have i6:5<a0.YM.length:=zAH;simp[i2,ZD,i3,i4,i5,i6,i1,G];refine rpG ?_;exact rtg [.cell 2 124,.tmp 3] f
 ·have fD:=G;refine cK f ?_ ?_<;>intro k4 h2 f
  ·try(simp[G]at h2;done)
   all_goals
    exact rtg [.cell 2 124,.tmp 3] f
  ·try(simp[G]at h2;done)
   all_goals
    refine dIo mixed ?_;have i8:1<a0.YM.length:=zAH
    have i9:2<a0.YM.length:=zAH;have i10:3<a0.YM.length:=zAH;have i11:4<a0.YM.length:=zAH;have i12:5<a0.YM.length:=zAH;have i13:6<a0.YM.length:=zAH;simp[i8,ZD,i9,i10,i11,i12,i13,G];refine rpG ?_;exact rtg [.cell 2 124,.tmp 3] f
theorem OU(a0:List YN)(a1:Int):Sa 120 [rL 7 YN.row a0,rI a1] [rI (Xy a0 a1)]:=by
 have f:=me (Xy.eq_1 a0 a1);refine so func120 ntmps120 ?_;refine lp1 (xQ.eq_2 a0 a1) (fun J=>Yx 20 [eI 1 a1,eL 7 7 a0 YN.row,eI 8 (a0.length:Int),eI 9 (J:Int)]) (fun n1 J=>a0.length<n1+J/\J<=a0.length) (a0.length+1) 0 (fun p1 J e1 j1=>?_);refine cFf e1 ?_ ?_<;>intro k2 h1 e1
 ·have i1:=ix h1;have m2:=ml a0 (k2 7 _ rfl);have w1:=wr J;simp[i1,ZD];refine rpS ?_;refine cF e1 ?_ ?_<;>intro k3 h2 e1
  ·exact rt _ (ms f e1)
  exact ny1 w1 e1
 exact rt _ (ms f e1)
theorem Rx(h:b)(k:a:=by(intros;first|omega|with_unfolding_all (first|first|omega|(have fi:=XT a0 a1 zAY;omega)|(simp only[Bool.or_eq_false_iff,decide_eq_false_iff_not]at*;omega))|(simp_all;done)|(simp_all;omega)|grind|((try simp only[Y0,show ∀x,IntKind.i64.wrap x=W x from fun _=>rfl]at*);omega))):a/\b:=⟨k,h⟩
theorem Lt(a0:ZF)(a1:Int):Sa 78 [a0.row,rI a1] [rI (YP a0 a1).1,rI (YP a0 a1).2.1,rB (YP a0 a1).2.2]:=by
 have f:=me (YP.eq_1 a0 a1);refine so func78 ntmps78 ?_;refine cRs (Ws a0 a1) ?_;refine gIo ?_ ?_<;>intro G
 ·have g1:=G;try simp at g1
  have i1:(ZK a0 a1).1.toNat<a0.ZA.length:=zAk;simp[i1,ZD,G];repeat with_reducible refine Rx ?_
  refine gK (fun _=>?_);have i2:(ZK a0 a1).2.toNat<(nth a0.ZA (ZK a0 a1).1.toNat).ZB.length:=zAk
  simp[i2,ZD];repeat with_reducible refine Rx ?_
  refine cKo f ?_ ?_<;>intro k1 h1 f
  ·simp;exact rtg _ f
  ·have i3:1<(nth (nth a0.ZA (ZK a0 a1).1.toNat).ZB (ZK a0 a1).2.toNat).ZG.ZI.length:=zAk;simp[i1,ZD,i2,i3];repeat with_reducible refine Rx ?_
   refine cR (UB (nth (nth (nth a0.ZA (ZK a0 a1).1.toNat).ZB (ZK a0 a1).2.toNat).ZG.ZI 1)) ?_;simp;refine cR (OU a0.Zd (YD (nth (nth (nth a0.ZA (ZK a0 a1).1.toNat).ZB (ZK a0 a1).2.toNat).ZG.ZI 1)).1.Za) ?_;simp;exact rtg _ f
 ·simp[G];refine sGo ?_;simp;refine cKo f ?_ ?_<;>intro k2 h2 f
  ·simp;exact rtg _ f
  ·simp[G]at h2
theorem S8(a0:Zp):Sd 225 [a0.row] [rL 1 iR (Jr a0)]:=by
 have f:=me (Jr.eq_1 a0);refine soD func225 ntmps225 ?_;exact rtD [.tmp 2] f
theorem Fu(a0:Zp):Sa 226 [a0.row] [rB (WB a0)]:=by
 have f:=me (WB.eq_1 a0);refine so func226 ntmps226 ?_;refine cRs (Zv a0.Za 1 999) ?_;refine cGs (fun gg=>zI a0.xw) ?_;refine cGs (fun gg=>Zv a0.Zw (-1) (W (a0.xw+1))) ?_;refine cGs (fun gg=>Zv a0.Z4 1 99) ?_;exact rt _ f
theorem I5(a0:List Y4)(a1:Zp)(u0:Sm 2318336 a0):Sa 144 [rL 5 Y4.row a0,a1.row] [(YT a0 a1).1.row,rB (YT a0 a1).2]:=by
 have f:=me (YT.eq_1 a0 a1);refine so func144 ntmps144 ?_;refine dIs mixed ?_;refine cRs (Yg.rd (S8 a1)) ?_;refine cRs (TB a0 a1.Z4 (Jr a1) (sg u0) (by simp(maxDischargeDepth:=12) [RJ,ZQ (m:=2322432) zAD u0];try omega)) ?_;refine cRs (Fu a1) ?_;refine cF f ?_ ?_<;>intro k2 h1 f
 ·exact rt [.cell 4 127,.tmp 5] f
 exact rt [.cell 4 127,.tmp 5] f
theorem Mc(a0:Zp):Sd 146 [a0.row] [(Yq a0).row]:=by
 have f:=me (Yq.eq_1 a0);refine soD func146 ntmps146 ?_;refine dIs mixed ?_;refine cDs [false] (S8 a0) ?_;exact rtD [.cell 2 154] f
theorem EC(a0:ZW)(a1:ZT)(u0:Sm 2326528 a0)(u1:Sm 2326528 a1):Sd 227 [a0.row,a1.row] [(Qr a0 a1).1.row,rB (Qr a0 a1).2]:=by
 have f:=me (Qr.eq_1 a0 a1);refine soD func227 ntmps227 ?_;refine cDs [] (zP a0 (sg u0)) ?_;refine drJ [14] mixed ?_;simp;refine cDs [true,false] (jW a1 (sg u1)) ?_;refine kI ?_;have c1:=sl 2326528 a0.ZI (an u0 u1);simp;refine WV (iJ:=a0.ZI.map ZT.row) (news:=([a1]:List ZT).map ZT.row) (l1:=[(8,0)]) (l2:=[(12,1)]) (size:=3) ?_;simp;refine cRs (TX (ZW.mk (a0.ZI++([a1]:List ZT)) a0.ZM)) ?_;refine cF f ?_ ?_<;>intro k2 h1 f
 ·refine cDs [] (zP a0 (sg u0)) ?_;exact rtD [.cell 4 50,.tmp 5] f
 exact rtD [.cell 4 50,.tmp 5] f
theorem GU(a0:ZE)(a1:Int)(a2:ZT)(u0:Sm 2318336 a0)(u1:Sm 2318336 a2):Sd 145 [a0.row,rI a1,a2.row] [(Xl a0 a1 a2).1.row,rB (Xl a0 a1 a2).2]:=by
 have f:=me (Xl.eq_1 a0 a1 a2);refine soD func145 ntmps145 ?_;refine cDs [] (Yo a0 (sg u0)) ?_;refine cRs (jJ a0 a1) ?_;refine cF f ?_ ?_<;>intro k1 h1 f
 ·exact rtD [.cell 6 55,.tmp 7] f
 refine dIo mixed ?_;have i1:(ZZ a0 a1).toNat<a0.ZB.length:=by have:=Jn a0 a1;exact il
 simp[i1,ZD];refine rpS ?_;refine cDf i1 [] (EC (nth a0.ZB (ZZ a0 a1).toNat).ZG a2 (sg (ZN.XY (Zr (ZE.YO u0)))) (sg u1)) ?_;refine pb (t:=13) (j:=1) (i:=(ZZ a0 a1).toNat) (c:=14) (size:=16) (rows:=a0.ZB.map ZN.row) (ds:=(Qr (nth a0.ZB (ZZ a0 a1).toNat).ZG a2).1.row) (L:=[(28,0),(28,1)]) rfl rfl rfl rfl zAE zAE (by simp;try omega) zAE zAE zAE zAE zAE zAE ?_;simp[Kx (x:=ZN.mk (nth a0.ZB (ZZ a0 a1).toNat).Id (nth a0.ZB (ZZ a0 a1).toNat).XF (nth a0.ZB (ZZ a0 a1).toNat).Doc (nth a0.ZB (ZZ a0 a1).toNat).Sig (Qr (nth a0.ZB (ZZ a0 a1).toNat).ZG a2).1) rfl,i1,ZD,XX];refine rpS ?_;exact rtD [.cell 6 55,.tmp 7] f
theorem Td(a0:ZF)(a1 a2:Int)(a3:Zp)(u0:Sm 2314240 a0)(u1:0<=a1/\a1<(a0.ZA.length:Int)):Sd 79 [a0.row,rI a1,rI a2,a3.row] [(Qi a0 a1 a2 a3).1.row,rB (Qi a0 a1 a2 a3).2]:=by
 have f:=me (Qi.eq_1 a0 a1 a2 a3);refine soD func79 ntmps79 ?_;refine cRs (I5 a0.Frame.Zt a3 (sg (ZO.Xb (ZF.Xr u0)))) ?_;refine dIo mixed ?_;have i1:=ik a1.toNat a0.ZA;simp[i1,ZD];refine rpS ?_;refine cRs (Yg.rd (Mc (YT a0.Frame.Zt a3).1)) ?_;refine cDs [] (GU (nth a0.ZA a1.toNat) a2 (Yq (YT a0.Frame.Zt a3).1) (sg (Zr (ZF.YR u0))) (by simp(maxDischargeDepth:=12) [SE,ZQ (m:=2318336) zAD u0];try omega)) ?_;refine cDs [false,false,false,true,true,false,false,true,false,false,true,false] (YY a0 (sg u0)) ?_;refine cFt f ?_ ?_<;>intro k2 h1 f
 ·exact rtD [.cell 8 33,.tmp 9] f
 simp;refine rpS ?_;refine MU (t:=36) (j:=7) (i:=a1.toNat) (size:=2) (rows:=a0.ZA.map ZE.row) (ds:=(Xl (nth a0.ZA a1.toNat) a2 (Yq (YT a0.Frame.Zt a3).1)).1.row) (L:=[(32,1)]) ?_;simp;refine rpS ?_;exact rtD [.cell 8 33,.tmp 9] f
theorem HU(h:b)(k:a:=by(intros;first|omega|with_unfolding_all (first|first|omega|(have z:=Ql a0 a1 zBu;(try simp at*);omega))|((try simp only[Y0,show ∀x,IntKind.i64.wrap x=W x from fun _=>rfl]at*);omega))):a/\b:=⟨k,h⟩
theorem jZ(h:b)(k:a:=by(intros;first|omega|with_unfolding_all (first|first|omega|(have z:=Ql a0 a1 zBu;(try simp at*);omega))|(simp_all;done)|(simp_all;omega)|grind|((try simp only[Y0,show ∀x,IntKind.i64.wrap x=W x from fun _=>rfl]at*);omega))):a/\b:=⟨k,h⟩
theorem Ip(a0:ZF)(a1:Int)(u0:Sm 2310144 a0):Sd 33 [a0.row,rI a1] [(JA a0 a1).1.row,rB (JA a0 a1).2]:=by
 have f:=me (JA.eq_1 a0 a1);refine soD func33 ntmps33 ?_;refine cRs (Lt a0 a1) ?_;refine cF f ?_ ?_<;>intro k1 h1 f
 ·refine cDs [false,false,false,true,true,false,false,true,false,false,true,false] (YY a0 (sg u0)) ?_;exact rtD _ f
 refine dIo mixed ?_;have i1:(YP a0 a1).2.1.toNat<a0.Zd.length:=zBE
 simp[i1,ZD];repeat with_reducible refine HU ?_
 refine cRs (Jz a0.Frame.Zt (nth a0.Zd (YP a0 a1).2.1.toNat).Z4) ?_;refine dIs mixed ?_;refine gIo ?_ ?_<;>intro G
 ·have g1:=G;try simp at g1
  have i2:(Z6 a0.Frame.Zt (nth a0.Zd (YP a0 a1).2.1.toNat).Z4).toNat<a0.Frame.Zt.length:=by have:=zz a0.Frame.Zt (nth a0.Zd (YP a0 a1).2.1.toNat).Z4;first|omega|(have z:=Ql a0 a1 zBu;(try simp at*);omega)
  simp[i2,ZD,G];repeat with_reducible refine jZ ?_
  refine cKo f ?_ ?_<;>intro k4 h2 f
  ·simp;refine cD [false,false,false,true,true,false,false,true,false,false,true,false] (YY a0 (sg u0)) ?_;simp;exact yV _ f
  ·have i3:(YP a0 a1).2.1.toNat<a0.Zw.length:=zBE;simp[i3,ZD];repeat with_reducible refine jZ ?_
   refine cKo f ?_ ?_<;>intro k5 h3 f
   ·simp;refine dIo mixed ?_;simp[i1,ZD];repeat with_reducible refine jZ ?_
    refine cD [false,false,false,true,true,false,false,true,false,false,true,false] (Td a0 (YP a0 a1).1 a1 (Zp.mk (nth a0.Zd (YP a0 a1).2.1.toNat).Za a0.Frame.Now (-1) (nth a0.Zd (YP a0 a1).2.1.toNat).Z4 0) (sg u0) zBO) ?_;simp;exact yV _ f
   ·simp;refine dIo mixed ?_;simp[i1,ZD];repeat with_reducible refine jZ ?_
    refine cD [false,false,false,true,true,false,false,true,false,false,true,false] (Td a0 (YP a0 a1).1 a1 (Zp.mk (nth a0.Zd (YP a0 a1).2.1.toNat).Za a0.Frame.Now (nth a0.Zw (YP a0 a1).2.1.toNat) (nth a0.Zd (YP a0 a1).2.1.toNat).Z4 0) (sg u0) zBO) ?_;simp;exact yV _ f
 ·simp[G];refine cKo f ?_ ?_<;>intro k8 h4 f
  ·simp;refine cD [false,false,false,true,true,false,false,true,false,false,true,false] (YY a0 (sg u0)) ?_;simp;exact yV _ f
  ·simp[G]at h4
theorem Im(a0:ZF)(a1:Int)(u0:Sm 2314240 a0):Sd 34 [a0.row,rI a1] [(QS a0 a1).1.row,rB (QS a0 a1).2]:=by
 have f:=me (QS.eq_1 a0 a1);refine soD func34 ntmps34 ?_;refine cDs [false,false,false,true,true,false,false,true,false,false,true,false] (YY a0 (sg u0)) ?_;refine cRs (Zv a1 0 (W ((a0.Zw.length:Int)-1))) ?_;refine gIf ?_ ?_<;>intro G
 ·have c1:=sl 2314240 a0.Zw u0;have w1:IntKind.i64.wrap ((a0.Zw.length:Int)-1)=(a0.Zw.length:Int)-1:=YX zAA zAA;have g1:=G;try simp[ZX,w1]at g1
  have i1:=ik a1.toNat a0.Zw;simp[i1,ZD,G];refine rpG ?_;refine cKo f ?_ ?_<;>intro k1 h1 f
  ·have q1:=h1;try simp[ZX,w1]at q1
   simp;refine rpG ?_;exact yV _ f
  ·have q1:=h1;try simp[ZX,w1]at q1
   simp[i1,ZD];refine rpG ?_;refine Il (rv:=[.cell 4 33,.tmp 5]) rfl ?_;simp[f.h];all_goals(repeat' (first|exact G6 zAE zAE|refine And.intro ?_ ?_))
 ·have c2:=sl 2314240 a0.Zw u0;refine cKo f ?_ ?_<;>intro k2 h2 f
  ·have q2:=h2;try simp[ZX,w2]at q2
   simp;refine rpG ?_;exact yV _ f
  ·simp[G]at h2
theorem UT(a0:List Int):Sa 82 [rL 1 iR a0] [rB (Qe a0)]:=by
 have f:=me (Qe.eq_1 a0);refine so func82 ntmps82 ?_;refine lp1 (jM.eq_2 a0) (fun J=>Yx 20 [eL 0 1 a0 iR,eI 3 (J:Int)]) (fun n1 J=>a0.length<n1+J/\1<=J) (a0.length+1) 1 (fun p1 J e1 j1=>?_);refine cF e1 ?_ ?_<;>intro k2 h1 e1
 ·have i1:=ix h1;have m2:=ml a0 (k2 0 _ rfl);have w1:=wr J;refine dIo mixed ?_;have i2:=ik (J-1) a0;have w2:IntKind.i64.wrap ((J:Int)-1)=(J:Int)-1:=YX zAA zAA;simp[i2,ZD,w2,i1];refine rpS ?_;refine cF e1 ?_ ?_<;>intro k4 h2 e1
  ·exact rt _ (ms f e1)
  exact ny1 (an w1 w2) e1
 exact rt _ (ms f e1)
theorem UE(a0:Zm):Sd 152 [a0.row] [rL 1 iR (Jg a0)]:=by
 have f:=me (Jg.eq_1 a0);refine soD func152 ntmps152 ?_;exact rtD [.tmp 2] f
theorem jf(a0:Int)(a1:Zb)(u0:Sm 2326528 a1):Sa 158 [rI a0,a1.row] [rI (JX a0 a1)]:=by
 have f:=me (JX.eq_1 a0 a1);refine so func158 ntmps158 ?_;refine lp2 (Kj.eq_2 a1) (fun J U=>Yx 59 [eI 0 a0,eX 3 (a1.row.map .d),(5,.one (.sref 5 0 0 J.length),[.arr false 1 (J.map iR)]),eL 19 2 a1.Path X8.row,eI 20 (a1.Path.length:Int),eI 21 (U:Int)]) (fun n1 J U=>a1.Path.length<n1+U/\U<=a1.Path.length/\J.length<=4+2*U) (a1.Path.length+1) ([4,a1.Count,a1.Method,a1.BQ]:List Int) 0 (fun p1 J U e1 j1=>?_) (h0:=wkS [((5,0),some (17,0))] []);refine cFo e1 ?_ ?_<;>intro k2 h1 e1
 ·have q1:=h1;try simp at q1
  have i1:=ix h1;have m2:=ml a1.Path (k2 19 _ rfl);have c1:=sl 2326528 a1.Path u0;have w1:=wr U;simp[i1,ZD];refine rpS ?_;refine cFo e1 ?_ ?_<;>intro k3 h2 e1
  ·have q2:=h2;try simp at q2
   simp;refine rpS ?_;exact nx2 e1 (hw:=XO [((5,0),some (32,0))] [] rfl zAd)
  have q2:=h2;try simp at q2
  simp;refine rpS ?_;exact nx2 e1 (hw:=XO [((5,0),some (32,0))] [] rfl zAd)
 have q1:=h1;try simp at q1
 have c2:=sl 2326528 a1.Path u0;have f:=ms f e1;simp;refine rpS ?_;refine lp2 (zo.eq_2 a1) (fun iF iI=>Yx 59 [eI 0 a0,(5,.one (.sref 5 0 0 iF.length),[.arr false 1 (iF.map iR)]),eL 41 5 a1.YW Zm.row,eI 42 (a1.YW.length:Int),eI 43 (iI:Int)]) (fun n2 iF iI=>a1.YW.length<n2+iI/\iI<=a1.YW.length/\iF.length<=5+2*2326528+6*iI) (a1.YW.length+1) (J++([(a1.YW.length:Int)]:List Int)) 0 (fun p2 iF iI e2 j2=>?_) (hI:=by(have o:a1.Path.length<=2326528:=YQ (xs u0);simp at*;omega)) (h0:=wkS [((5,0),some (39,0))] []);refine cFo e2 ?_ ?_<;>intro k5 h3 e2
 ·have q3:=h3;try simp at q3
  have i2:=ix h3;have m4:=ml a1.YW (k5 41 _ rfl);have c3:=sl 2326528 a1.YW u0;have w2:=wr iI;simp[i2,ZD];refine rpS ?_;refine dIs mixed ?_;refine cRs (Yg.rd (UE (nth a1.YW iI))) ?_;exact nx2 e2 (hI:=by(simp;omega)) (hw:=XO [((5,0),some (54,0))] [] rfl (by simp[w2]))
 have q3:=h3;try simp at q3
 have c4:=sl 2326528 a1.YW u0;have f:=ms f e2;simp;refine cRs (KT a0 iF zAK) ?_;exact rt [.tmp 4] f
theorem U6(a0:Int)(a1:List ZT)(u0:Sm 2326528 a1):Sa 232 [rI a0,rL 3 ZT.row a1] [rI (Ki a0 a1)]:=by
 have f:=me (Ki.eq_1 a0 a1);refine so func232 ntmps232 ?_;refine lp2 (yb.eq_2 a0 a1) (fun J U=>Yx 32 [eI 0 a0,(5,.one (.sref 5 0 0 J.length),[.arr false 1 (J.map iR)]),eL 9 3 a1 ZT.row,eI 10 (a1.length:Int),eI 11 (U:Int)]) (fun n1 J U=>a1.length<n1+U/\U<=a1.length/\J.length<=1+1*U) (a1.length+1) ([2]:List Int) 0 (fun p1 J U e1 j1=>?_) (h0:=wkS [((5,0),some (8,0))] []);refine cFf e1 ?_ ?_<;>intro k2 h1 e1
 ·have i1:=ix h1;have m2:=ml a1 (k2 9 _ rfl);have c1:=sl 2326528 a1 u0;have w1:=wr U;have c2:=sl 2326528 (nth a1 U).YM u0;simp[i1,ZD];refine rpS ?_;refine cRs (KT a0 (([(nth a1 U).Key,(nth a1 U).Mark]:List Int)++(nth a1 U).YM) zAj) ?_;exact nx2 e1 (hw:=XO [((5,0),some (27,0))] [] rfl zAd)
 have c3:=sl 2326528 a1 u0;have f:=ms f e1;refine cRs (KT a0 J zAK) ?_;exact rt [.tmp 4] f
theorem Ux(a0 a1:Int)(a2:List ZT)(a3:Int)(u0:Sm 2322432 a2):Sa 159 [rI a0,rI a1,rL 3 ZT.row a2,rI a3] [rI (Wz a0 a1 a2 a3)]:=by
 have f:=me (Wz.eq_1 a0 a1 a2 a3);refine so func159 ntmps159 ?_;refine cRs (U6 a0 a2 (sg u0)) ?_;refine cRs (KT a0 ([3,a1,Ki a0 a2,a3]:List Int) zAj) ?_;exact rt _ f
theorem ME(a0:ZN)(a1:Int)(u0:Sm 2318336 a0):Sa 92 [a0.row,rI a1] [rI (Q6 a0 a1)]:=by
 have f:=me (Q6.eq_1 a0 a1);refine so func92 ntmps92 ?_;refine cFf f ?_ ?_<;>intro k1 h1 f
 ·have i1:=ik (a0.ZG.ZM.length-1) a0.ZG.ZM;have m1:=ml a0.ZG.ZM (k1 9 _ rfl);have w1:IntKind.i64.wrap ((a0.ZG.ZM.length:Int)-1)=(a0.ZG.ZM.length:Int)-1:=YX zAA zAA;simp[i1,ZD,w1];refine rpS ?_;refine cRs (jf a1 (nth a0.ZG.ZM (a0.ZG.ZM.length-1)) (sg (Zr (ZW.zR (ZN.XY u0))))) ?_;refine dIs mixed ?_;refine cRs (yW a1 a0.Doc (sg (ZN.xx u0))) ?_;refine cRs (Ux a1 (Yb a1 a0.Doc) a0.ZG.ZI (JX a1 (nth a0.ZG.ZM (a0.ZG.ZM.length-1))) (sg (ZW.QE (ZN.XY u0)))) ?_;exact rt _ f
 refine dIs mixed ?_;refine cRs (yW a1 a0.Doc (sg (ZN.xx u0))) ?_;refine cRs (Ux a1 (Yb a1 a0.Doc) a0.ZG.ZI 0 (sg (ZW.QE (ZN.XY u0)))) ?_;exact rt _ f
theorem RV(a0:ZE)(a1:Int)(u0:Sm 2314240 a0):Sd 148 [a0.row,rI a1] [rL 1 iR (Xn a0 a1)]:=by
 have f:=me (Xn.eq_1 a0 a1);refine soD func148 ntmps148 ?_;refine lp2 (xo.eq_2 a0 a1) (fun J U=>Yx 23 [eI 1 a1,(5,.one (.sref 5 0 0 J.length),[.arr false 1 (J.map iR)]),eL 9 16 a0.ZB ZN.row,eI 10 (a0.ZB.length:Int),eI 11 (U:Int)]) (fun n1 J U=>a0.ZB.length<n1+U/\U<=a0.ZB.length/\J.length<=0+1*U) (a0.ZB.length+1) ([]:List Int) 0 (fun p1 J U e1 j1=>?_) (h0:=wkS [((5,0),none)] []);refine cFf e1 ?_ ?_<;>intro k2 h1 e1
 ·have i1:=ix h1;have m2:=ml a0.ZB (k2 9 _ rfl);have c1:=sl 2314240 a0.ZB u0;have w1:=wr U;simp[i1,ZD];refine rpS ?_;refine cRs (ME (nth a0.ZB U) a1 (sg (Zr (ZE.YO u0)))) ?_;exact nx2 e1 (hw:=XO [((5,0),some (20,0))] [] rfl zAd)
 exact rtD [.tmp 4] (ms f e1)
theorem VI(a0 a1 a2:Int):Sa 260 [rI a0,rI a1,rI a2] [rI (xK a0 a1 a2)]:=by
 have f:=me (xK.eq_1 a0 a1 a2);refine so func260 ntmps260 ?_;refine cRs (KT a0 ([1,a1,a2]:List Int) (by simp(maxDischargeDepth:=12) [SA,XM];try omega)) ?_;exact rt [.tmp 6] f
theorem jY(a0:Int)(a1:List Int)(u0:Sm 2322432 a1):Sd 228 [rI a0,rL 1 iR a1] [rL 1 iR (KP a0 a1)]:=by
 have f:=me (KP.eq_1 a0 a1);refine soD func228 ntmps228 ?_;refine lp2 (Kc.eq_2 a0 a1) (fun J U=>Yx 40 [eI 0 a0,eL 1 1 a1 iR,(5,.one (.sref 5 0 0 J.length),[.arr false 1 (J.map iR)]),eI 6 (U:Int)]) (fun n1 J U=>a1.length<n1+U/\U<=a1.length+1/\J.length<=U) (a1.length+1) ([]:List Int) 0 (fun p1 J U e1 j1=>?_) (h0:=wkS [((5,0),none)] []);refine cF e1 ?_ ?_<;>intro k2 h1 e1
 ·have i1:=ix h1;have m2:=ml a1 (k2 1 _ rfl);have c1:=sl 2322432 a1 u0;have w1:=wr U;refine cFt e1 ?_ ?_<;>intro k3 h2 e1
  ·refine okD fun k4=>?_;refine dIo mixed ?_;have i2:=ik (W ((U:Int)+1)).toNat a1
   simp[i1,ZD,i2];refine rpS ?_;refine cRs (VI a0 (nth a1 U) (nth a1 (W ((U:Int)+1)).toNat)) ?_ (ij:=by first|(simp;done)|(simp[W,w1];done));have w2:IntKind.i64.wrap ((U:Int)+2)=(U:Int)+2:=YX zAA zAA
   exact nx2 e1 (hI:=by first|omega|(simp at*;omega)) (hw:=XO [((5,0),some (31,0))] [] rfl zB1)
  simp[i1,ZD];refine rpS ?_;have w3:IntKind.i64.wrap ((U:Int)+2)=(U:Int)+2:=YX zAA zAA
  exact nx2 e1 (hI:=by first|omega|(simp at*;omega)) (hw:=XO [((5,0),some (38,0))] [] rfl (by simp[w1,w3]))
 exact rtD [.tmp 4] (ms f e1)
theorem OK(a0:Int)(a1:List Int)(u0:Sm 2318336 a1):Sa 147 [rI a0,rL 1 iR a1] [rI (jt a0 a1)]:=by
 have f:=me (jt.eq_1 a0 a1);refine so func147 ntmps147 ?_;refine cRs (Zv (a1.length:Int) 1 16) ?_;refine cFo f ?_ ?_<;>intro k1 h1 f
 ·have q1:=h1;try simp[ZX]at q1
  simp;exact rt _ f
 have q1:=h1;try simp[ZX]at q1
 simp;refine lp1 (kU.eq_2 a0) (fun J=>Yx 18 [eI 0 a0,eL 1 1 J iR]) (fun n1 J=>J.length<n1/\1<=J.length/\J.length<=16) (a1.length+1) a1 (fun p1 J e1 j1=>?_) (hI:=by first|omega|(simp at*;omega));refine cFt e1 ?_ ?_<;>intro k3 h2 e1
 ·refine cRs (Yg.rd (jY a0 J zAP)) ?_;exact nx1 e1 (hI:=by(have z:=qi a0 J zAA;(try dsimp only);simp at*;omega))
 have f:=ms f e1;have i1:=ik 0 J;simp[i1,ZD];refine rpS ?_;exact rt _ f
theorem NL(a0:ZE)(a1:Int)(u0:Sm 2310144 a0):Sa 83 [a0.row,rI a1] [rI (QO a0 a1)]:=by
 have f:=me (QO.eq_1 a0 a1);refine so func83 ntmps83 ?_;refine cRs (Yg.rd (RV a0 a1 (sg u0))) ?_;refine cRs (OK a1 (Xn a0 a1) (by simp(maxDischargeDepth:=12) [UH,ZQ (m:=2318336) zAD u0];try omega)) ?_;exact rt _ f
theorem zZ(a0:List Zi)(a1:Int):Sa 84 [rL 3 Zi.row a0,rI a1] [rI (ZY a0 a1)]:=by
 have f:=me (ZY.eq_1 a0 a1);refine so func84 ntmps84 ?_;refine lp1 (Jx.eq_2 a0 a1) (fun J=>Yx 20 [eI 1 a1,eL 7 3 a0 Zi.row,eI 8 (a0.length:Int),eI 9 (J:Int)]) (fun n1 J=>a0.length<n1+J/\J<=a0.length) (a0.length+1) 0 (fun p1 J e1 j1=>?_);refine cFf e1 ?_ ?_<;>intro k2 h1 e1
 ·have i1:=ix h1;have m2:=ml a0 (k2 7 _ rfl);have w1:=wr J;simp[i1,ZD];refine rpS ?_;refine cF e1 ?_ ?_<;>intro k3 h2 e1
  ·exact rt _ (ms f e1)
  exact ny1 w1 e1
 exact rt _ (ms f e1)
theorem Cp(a0:List Int)(a1:Int):Sa 149 [rL 1 iR a0,rI a1] [rI (Pe a0 a1)]:=by
 have f:=me (Pe.eq_1 a0 a1);refine so func149 ntmps149 ?_;refine lp1 (U1.eq_2 a0 a1) (fun J=>Yx 19 [eI 1 a1,eL 7 1 a0 iR,eI 8 (a0.length:Int),eI 9 (J:Int)]) (fun n1 J=>a0.length<n1+J/\J<=a0.length) (a0.length+1) 0 (fun p1 J e1 j1=>?_);refine cFf e1 ?_ ?_<;>intro k2 h1 e1
 ·have i1:=ix h1;have m2:=ml a0 (k2 7 _ rfl);have w1:=wr J;simp[i1,ZD];refine rpS ?_;refine cF e1 ?_ ?_<;>intro k3 h2 e1
  ·exact rt _ (ms f e1)
  exact ny1 w1 e1
 exact rt _ (ms f e1)
theorem Wj(a0:List Int)(a1:Int):Sa 85 [rL 1 iR a0,rI a1] [rB (QM a0 a1)]:=by
 have f:=me (QM.eq_1 a0 a1);refine so func85 ntmps85 ?_;refine cRs (Cp a0 a1) ?_;exact rt [.tmp 4] f
theorem kS(a0:List Y4)(a1:List Zi)(a2:Zm)(u0:Sm 2318336 a0)(u1:Sm 2318336 a1):Sa 86 [rL 5 Y4.row a0,rL 3 Zi.row a1,a2.row] [(Xk a0 a1 a2).1.row,rB (Xk a0 a1 a2).2]:=by
 have f:=me (Xk.eq_1 a0 a1 a2);refine so func86 ntmps86 ?_;refine cRs (zZ a1 a2.Authority) ?_;refine cGs (fun gg=>zI a2.Time) ?_;refine cF f ?_ ?_<;>intro k1 h1 f
 ·exact rt [.cell 6 135,.tmp 7] f
 refine dIo mixed ?_;have i1:(ZY a1 a2.Authority).toNat<a1.length:=by have:=QR a1 a2.Authority;exact il
 simp[i1,ZD];refine rpS ?_;refine cRs (Yg.rd (UE a2)) ?_;refine cRs (TB a0 (nth a1 (ZY a1 a2.Authority).toNat).Key (Jg a2) (sg u0) (by simp(maxDischargeDepth:=12) [FH,ZQ (m:=2322432) zAD u0,ZQ (m:=2322432) zAD u1];try omega)) ?_;refine cF f ?_ ?_<;>intro k3 h2 f
 ·exact rt [.cell 6 135,.tmp 7] f
 exact rt [.cell 6 135,.tmp 7] f
theorem OA(h:b)(k:a:=by(intros;first|omega|with_unfolding_all (first|first|omega|(have tm:=Int.tmod_eq_emod_of_nonneg (b:=2) (show 0<=U by omega);(try simp only[Y0,show ∀x,IntKind.i64.wrap x=W x from fun _=>rfl]at*);(try simp at*);omega))|((try simp only[Y0,show ∀x,IntKind.i64.wrap x=W x from fun _=>rfl]at*);omega))):a/\b:=⟨k,h⟩
theorem Fs(a0:Int)(a1:List Int)(a2:Int)(u0:Sm 2318336 a1):Sd 153 [rI a0,rL 1 iR a1,rI a2] [rL 2 X8.row (JH a0 a1 a2)]:=by
 have f:=me (JH.eq_1 a0 a1 a2);refine soD func153 ntmps153 ?_;refine cRs (Zv a2 0 (W ((a1.length:Int)-1))) ?_;have c1:=sl 2318336 a1 u0;have w1:IntKind.i64.wrap ((a1.length:Int)-1)=(a1.length:Int)-1:=YX zAA zAA;refine cFo f ?_ ?_<;>intro k1 h1 f
 ·have q1:=h1;try simp[ZX,w1]at q1
  simp;exact rtD [.tmp 6] f
 have q1:=h1;try simp[ZX,w1]at q1
 simp;refine lp3 (Kz.eq_2 a0) (fun J U iD=>Yx 54 [eI 0 a0,eL 1 1 J iR,eI 2 U,(7,.one (.sref 7 0 0 iD.length),[.arr false 2 (iD.map X8.row)])]) (fun n1 J U iD=>J.length<n1/\0<=U/\U<(J.length:Int)/\J.length<=16/\iD.length+n1<=17) (a1.length+1) a1 a2 ([]:List X8) (fun p1 J U iD e1 j1=>?_) (hI:=by first|omega|(simp at*;omega)) (h0:=wkS [((7,0),none)] []);refine cF e1 ?_ ?_<;>intro k3 h2 e1
 ·refine cFf e1 ?_ ?_<;>intro k4 h3 e1
  ·have i1:(W (U-1)).toNat<J.length:=zAr;simp[i1,ZD];repeat with_reducible refine OA ?_
   refine cRs (Yg.rd (jY a0 J zAP)) ?_;exact nx3 e1 (hI:=by(have z:=qi a0 J zAA;have td:=Int.tdiv_eq_ediv_of_nonneg (b:=2) (show 0<=U by omega);have w2:W (Int.tdiv U 2)=Int.tdiv U 2:=YX zAA zAA;(try dsimp only);rw[w2];simp at*;omega)) (hw:=XO [((7,0),some (33,0))] [] rfl zAd)
  refine cFo e1 ?_ ?_<;>intro k5 h4 e1
  ·have q4:=h4;try simp[w1]at q4
   have i2:(W (U+1)).toNat<J.length:=zAr;simp[i2,ZD];repeat with_reducible refine OA ?_
   refine cRs (Yg.rd (jY a0 J zAP)) ?_;exact nx3 e1 (hI:=by(have z:=qi a0 J zAA;have td:=Int.tdiv_eq_ediv_of_nonneg (b:=2) (show 0<=U by omega);have w2:W (Int.tdiv U 2)=Int.tdiv U 2:=YX zAA zAA;(try dsimp only);rw[w2];simp at*;omega)) (hw:=XO [((7,0),some (47,0))] [] rfl zAd)
  have q4:=h4;try simp[w1]at q4
  simp;refine cRs (Yg.rd (jY a0 J zAP)) ?_;exact ny3 w1 e1 (hI:=by(have z:=qi a0 J zAA;have td:=Int.tdiv_eq_ediv_of_nonneg (b:=2) (show 0<=U by omega);have w2:W (Int.tdiv U 2)=Int.tdiv U 2:=YX zAA zAA;(try dsimp only);rw[w2];simp at*;omega))
 exact rtD [.tmp 6] (ms f e1)
theorem S5(a0:ZW)(a1:Zb)(u0:Sm 2326528 a0)(u1:Sm 2326528 a1):Sd 93 [a0.row,a1.row] [(Y9 a0 a1).1.row,rB (Y9 a0 a1).2]:=by
 have f:=me (Y9.eq_1 a0 a1);refine soD func93 ntmps93 ?_;refine cDs [] (zP a0 (sg u0)) ?_;refine drJ [14] mixed ?_;simp;refine cDs [true,true,true,false,false] (Uq a1 (sg u1)) ?_;refine kI ?_;have c1:=sl 2326528 a0.ZM (an u0 u1);simp;refine WV (iJ:=a0.ZM.map Zb.row) (news:=([a1]:List Zb).map Zb.row) (l1:=[(8,1)]) (l2:=[(12,3),(12,4)]) (size:=5) ?_;simp;refine cRs (TX (ZW.mk a0.ZI (a0.ZM++([a1]:List Zb)))) ?_;refine cF f ?_ ?_<;>intro k2 h1 f
 ·refine cDs [] (zP a0 (sg u0)) ?_;exact rtD [.cell 4 50,.tmp 5] f
 exact rtD [.cell 4 50,.tmp 5] f
theorem Mj(a0:ZE)(a1:Int)(a2:List Zm)(u0:Sm 2306048 a0)(u1:Sm 2306048 a2):Sd 87 [a0.row,rI a1,rL 5 Zm.row a2] [(XK a0 a1 a2).1.row,rB (XK a0 a1 a2).2]:=by
 have f:=me (XK.eq_1 a0 a1 a2);refine soD func87 ntmps87 ?_;refine cGs (fun gg=>y6 a0) ?_;refine cF f ?_ ?_<;>intro k1 h1 f
 ·refine cDs [] (Yo a0 (sg u0)) ?_;exact rtD [.cell 6 55,.tmp 7] f
 refine cDs [] (Yo a0 (sg u0)) ?_;refine cRs (Yg.rd (RV a0 a1 (sg u0))) ?_;refine lp2 (Xz.eq_2 a0 a1 a2) (fun J U=>Yx 75 [eI 1 a1,eL 2 5 a2 Zm.row,eX 3 (a0.row.map .d),(6,.one (.bptr 6 0),[.box [.d (.int .i64 0),.nil 16]]),(8,.one (.bptr 8 0),[.box [.d (.int .i64 a0.Id),.sref 26 1 0 U.length]]),eL 9 1 (Xn a0 a1) iR,(26,.any,[.none,.arr true 16 (U.map ZN.row)]),eL 31 16 a0.ZB ZN.row,eI 32 (a0.ZB.length:Int),eI 33 (J:Int)]) (fun n1 J U=>a0.ZB.length<n1+J/\J<=a0.ZB.length/\U.length=a0.ZB.length) (a0.ZB.length+1) 0 a0.ZB (fun p1 J U e1 j1=>?_);refine cFf e1 ?_ ?_<;>intro k3 h2 e1
 ·have i1:=ix h2;have m2:=ml a0.ZB (k3 31 _ rfl);have c1:=sl 2306048 a0.ZB (an u0 u1);have w1:=wr J;simp[i1,ZD];refine rpS ?_;refine dIs mixed ?_;refine cRs (NL a0 a1 (sg u0)) ?_;refine cRs (Yg.rd (Fs a1 (Xn a0 a1) (J:Int) (by simp(maxDischargeDepth:=12) [UH,ZQ (m:=2318336) zAD u0,ZQ (m:=2318336) zAD u1];try omega))) ?_;refine cDs [] (S5 (nth a0.ZB J).ZG (Zb.mk ((nth a0.ZB J).ZG.ZI.length:Int) a1 (QO a0 a1) (JH a1 (Xn a0 a1) (J:Int)) a2) (sg (ZN.XY (Zr (ZE.YO u0)))) (by simp(maxDischargeDepth:=12) [OO,UH,ZQ (m:=2326528) zAD u0,ZQ (m:=2326528) zAD u1];try omega)) ?_;refine cFt e1 ?_ ?_<;>intro k5 h3 e1
  ·refine cDs [] (Yo a0 (sg u0)) ?_;exact rtD [.cell 6 55,.tmp 7] (ms f e1)
  have i2:=ik J U;simp[i2,ZD];refine rpS ?_;refine pb (t:=26) (j:=1) (i:=J) (c:=14) (size:=16) (rows:=U.map ZN.row) (ds:=(Y9 (nth a0.ZB J).ZG (Zb.mk ((nth a0.ZB J).ZG.ZI.length:Int) a1 (QO a0 a1) (JH a1 (Xn a0 a1) (J:Int)) a2)).1.row) (L:=[(55,0),(55,1)]) rfl rfl rfl rfl zAE zAE (by simp;try omega) zAE zAE zAE zAE zAE zAE ?_;simp[Kx (x:=ZN.mk (nth U J).Id (nth U J).XF (nth U J).Doc (nth U J).Sig (Y9 (nth a0.ZB J).ZG (Zb.mk ((nth a0.ZB J).ZG.ZI.length:Int) a1 (QO a0 a1) (JH a1 (Xn a0 a1) (J:Int)) a2)).1) rfl,i2,ZD,XX];refine rpS ?_;exact ny2 w1 e1
 have c2:=sl 2306048 a0.ZB (an u0 u1);have f:=ms f e1;refine cRs (y6 (ZE.mk a0.Id U)) ?_;refine cF f ?_ ?_<;>intro k6 h4 f
 ·refine cDs [] (Yo a0 (sg u0)) ?_;exact rtD [.cell 6 55,.tmp 7] f
 exact rtD [.cell 6 55,.tmp 7] f
theorem G0(a0:ZF)(a1:Int)(a2:List Int)(a3:Int)(u0:Sm 2301952 a0)(u1:Sm 2301952 a2):Sd 35 [a0.row,rI a1,rL 1 iR a2,rI a3] [(Qd a0 a1 a2 a3).1.row,rB (Qd a0 a1 a2 a3).2]:=by
 have f:=me (Qd.eq_1 a0 a1 a2 a3);refine soD func35 ntmps35 ?_;refine cDs [false,false,false,true,true,false,false,true,false,false,true,false] (YY a0 (sg u0)) ?_;refine cRs (jc a0.Frame.Methods a0.Frame.Now) ?_;refine cRs (yf a0 a1) ?_;refine cGs (fun gg=>UT a2) ?_;refine cGs (fun gg=>Zv a3 (-10000) 10000) ?_;have c1:=sl 2301952 a0.ZA (an u0 u1);have w1:IntKind.i64.wrap ((a0.ZA.length:Int)-1)=(a0.ZA.length:Int)-1:=YX zAA zAA;refine cFo f ?_ ?_<;>intro k1 h1 f
 ·have q1:=h1;try simp[ZX,w1,YG]at q1
  simp;exact rtD [.cell 8 33,.tmp 9] f
 have q1:=h1;try simp[ZX,w1,YG]at q1
 have i1:=ik a1.toNat a0.ZA;simp[i1,ZD];refine rpS ?_;refine cRs (NL (nth a0.ZA a1.toNat) (ZS a0.Frame.Methods a0.Frame.Now) (sg (Zr (ZF.YR u0)))) ?_;refine lp3 (Xh.eq_2 a0 a1 a2 a3) (fun J U iD=>Yx 175 [eI 1 a1,eI 3 a3,eX 4 (a0.row.map .d),(8,.one (.bptr 8 0),[.box [.nil 5,.nil 3,.nil 4,.d (.int .i64 0),.d (.int .i64 0),.nil 7,.nil 1,.nil 2,.nil 1,.nil 1,.d (.int .i64 0),.nil 1]]),eX 10 (a0.Frame.row.map .d),(11,.one (.bptr 11 0),[.box [.sref 27 0 0 a0.Frame.Zt.length,.sref 27 1 0 a0.Frame.ZC.length,.sref 27 2 0 a0.Frame.Methods.length,.d (.int .i64 a0.Frame.XJ),.d (.int .i64 a0.Frame.Now),.sref 27 5 0 a0.Zd.length,.sref 27 6 0 a0.Zw.length,.sref 27 7 0 a0.ZA.length,.sref 27 8 0 iD.length,.sref 27 9 0 a0.Yc.length,.d (.int .i64 a0.Next),.sref 27 11 0 a0.YL.length]]),eI 12 (ZS a0.Frame.Methods a0.Frame.Now),eI 13 (QO (nth a0.ZA a1.toNat) (ZS a0.Frame.Methods a0.Frame.Now)),(14,.one (.sref 14 0 0 J.length),[.arr false 5 (J.map Zm.row)]),(27,.any,[.arr false 5 (a0.Frame.Zt.map Y4.row),.arr false 3 (a0.Frame.ZC.map Zi.row),.arr false 4 (a0.Frame.Methods.map YH.row),.none,.none,.arr false 7 (a0.Zd.map YN.row),.arr false 1 (a0.Zw.map iR),.arr true 2 (a0.ZA.map ZE.row),.arr false 1 (iD.map iR),.arr false 1 (a0.Yc.map iR),.none,.arr false 1 (a0.YL.map iR)]),eL 64 1 a2 iR,eI 65 (a2.length:Int),eI 66 (U:Int)]) (fun n1 J U iD=>a2.length<n1+U/\U<=a2.length/\J.length<=0+1*U/\iD.length=a0.Y2.length) (a2.length+1) ([]:List Zm) 0 a0.Y2 (fun p1 J U iD e1 j1=>?_) (h0:=wkS [((14,0),none)] []);refine cFo e1 ?_ ?_<;>intro k3 h2 e1
 ·have i2:=ix h2;have m2:=ml a2 (k3 64 _ rfl);have c2:=sl 2301952 a2 (an u0 u1);have w2:=wr U;simp[i2,ZD];refine rpS ?_;refine cRs (zZ a0.Frame.ZC (nth a2 U)) ?_;refine cF e1 ?_ ?_<;>intro k4 h3 e1
  ·refine cDs [false,false,false,true,true,false,false,true,false,false,true,false] (YY a0 (sg u0)) ?_;exact rtD [.cell 8 33,.tmp 9] (ms f e1)
  refine dIo mixed ?_;have i3:(ZY a0.Frame.ZC (nth a2 U)).toNat<a0.Frame.ZC.length:=zBG
  simp[i3,ZD];refine rpS ?_;refine cRs (Jz a0.Frame.Zt (nth a0.Frame.ZC (ZY a0.Frame.ZC (nth a2 U)).toNat).Key) ?_;refine dIs mixed ?_;refine gIf ?_ ?_<;>intro G
  ·have i4:(Z6 a0.Frame.Zt (nth a0.Frame.ZC (ZY a0.Frame.ZC (nth a2 U)).toNat).Key).toNat<a0.Frame.Zt.length:=by have:=zz a0.Frame.Zt (nth a0.Frame.ZC (ZY a0.Frame.ZC (nth a2 U)).toNat).Key;exact il
   simp[i4,ZD,G];refine rpG ?_;refine cK e1 ?_ ?_<;>intro k7 h4 e1
   ·refine cDg [false,false,false,true,true,false,false,true,false,false,true,false] (YY a0 (sg u0)) ?_;exact yV [.cell 8 33,.tmp 9] (ms f e1)
   ·refine cRg (Wj a0.Yc (nth a2 U)) ?_;refine cK e1 ?_ ?_<;>intro k8 h5 e1
    ·refine dIo mixed ?_;have i5:(ZY a0.Frame.ZC (nth a2 U)).toNat<a0.Y2.length:=zBG
     simp[i5,ZD,G];refine rpG ?_;refine cRg (kS a0.Frame.Zt a0.Frame.ZC (Zm.mk (nth a2 U) (nth a0.Y2 (ZY a0.Frame.ZC (nth a2 U)).toNat) (if(if W (a0.Frame.Now+a3)<10000 then W (a0.Frame.Now+a3)else 10000)>0 then(if W (a0.Frame.Now+a3)<10000 then W (a0.Frame.Now+a3)else 10000)else 0) (QO (nth a0.ZA a1.toNat) (ZS a0.Frame.Methods a0.Frame.Now)) 0) (sg (ZO.Xb (ZF.Xr u0))) (sg (ZO.XW (ZF.Xr u0)))) ?_ (ij:=by first|(simp;done)|(simp[W,w1,w2];done));refine cKo e1 ?_ ?_<;>intro aZ h6 e1
     ·have q6:=h6;try simp[w1]at q6
      simp[G];refine rpG ?_;refine cDg [false,false,false,true,true,false,false,true,false,false,true,false] (YY a0 (sg u0)) ?_;exact yV [.cell 8 33,.tmp 9] (ms f e1)
     ·have q6:=h6;try simp[w1]at q6
      have i6:(ZY a0.Frame.ZC (nth a2 U)).toNat<iD.length:=zBG;simp[i6,ZD,Kx (x:=W (nth iD (ZY a0.Frame.ZC (nth a2 U)).toNat+1)) rfl,G];refine rpG ?_;exact nx3 e1 (hw:=XO [((14,0),some (145,0))] [] rfl (by simp[w1,w2,G]))
    ·refine dIo mixed ?_;have i7:(ZY a0.Frame.ZC (nth a2 U)).toNat<a0.Y2.length:=zBG
     simp[i7,ZD,G];refine rpG ?_;refine cRg (kS a0.Frame.Zt a0.Frame.ZC (Zm.mk (nth a2 U) (nth a0.Y2 (ZY a0.Frame.ZC (nth a2 U)).toNat) a0.Frame.Now (QO (nth a0.ZA a1.toNat) (ZS a0.Frame.Methods a0.Frame.Now)) 0) (sg (ZO.Xb (ZF.Xr u0))) (sg (ZO.XW (ZF.Xr u0)))) ?_;refine cKt e1 ?_ ?_<;>intro k12 h7 e1
     ·refine cDg [false,false,false,true,true,false,false,true,false,false,true,false] (YY a0 (sg u0)) ?_;exact yV [.cell 8 33,.tmp 9] (ms f e1)
     ·have i8:(ZY a0.Frame.ZC (nth a2 U)).toNat<iD.length:=zBG;simp[i8,ZD,Kx (x:=W (nth iD (ZY a0.Frame.ZC (nth a2 U)).toNat+1)) rfl,G];refine rpG ?_;exact nx3 e1 (hw:=XO [((14,0),some (145,0))] [] rfl (by simp[w1,w2,G]))
  ·refine cK e1 ?_ ?_<;>intro aY h8 e1
   ·refine cDg [false,false,false,true,true,false,false,true,false,false,true,false] (YY a0 (sg u0)) ?_;exact yV [.cell 8 33,.tmp 9] (ms f e1)
   ·simp[G]at h8
 have c3:=sl 2301952 a2 (an u0 u1);have f:=ms f e1;simp[i1,ZD];refine rpS ?_;refine cDs [] (Mj (nth a0.ZA a1.toNat) (ZS a0.Frame.Methods a0.Frame.Now) J (sg (Zr (ZF.YR u0))) (by first|(simp(maxDischargeDepth:=12) [XM];omega)|(simp(maxDischargeDepth:=12) [ZQ (m:=2306048) zAD u0,ZQ (m:=2306048) zAD u1];done))) ?_;refine cFt f ?_ ?_<;>intro k19 h12 f
 ·refine cDs [false,false,false,true,true,false,false,true,false,false,true,false] (YY a0 (sg u0)) ?_;exact rtD [.cell 8 33,.tmp 9] f
 simp[i1,ZD];refine rpS ?_;refine MU (t:=27) (j:=7) (i:=a1.toNat) (size:=2) (rows:=a0.ZA.map ZE.row) (ds:=(XK (nth a0.ZA a1.toNat) (ZS a0.Frame.Methods a0.Frame.Now) J).1.row) (L:=[(162,1)]) ?_;simp[Kx (x:=(XK (nth a0.ZA a1.toNat) (ZS a0.Frame.Methods a0.Frame.Now) J).1) rfl,c1,i1,ZD,XX];refine rpS ?_;exact rtD [.cell 8 33,.tmp 9] f
theorem HD(a0:Int)(a1:ZN)(u0:Sm 2318336 a1):Sa 277 [rI a0,a1.row] [rI (kn a0 a1)]:=by
 have f:=me (kn.eq_1 a0 a1);refine so func277 ntmps277 ?_;refine dIs mixed ?_;refine cRs (yW a0 a1.Doc (sg (ZN.xx u0))) ?_;refine cRs (U6 a0 a1.ZG.ZI (sg (ZW.QE (ZN.XY u0)))) ?_;refine lp2 (qF.eq_2 a0 a1) (fun J U=>Yx 40 [eI 0 a0,(5,.one (.sref 5 0 0 J.length),[.arr false 1 (J.map iR)]),eL 24 5 a1.ZG.ZM Zb.row,eI 25 (a1.ZG.ZM.length:Int),eI 26 (U:Int)]) (fun n1 J U=>a1.ZG.ZM.length<n1+U/\U<=a1.ZG.ZM.length/\J.length<=5+1*U) (a1.ZG.ZM.length+1) ([5,a1.Id,a1.XF,Yb a0 a1.Doc,Ki a0 a1.ZG.ZI]:List Int) 0 (fun p1 J U e1 j1=>?_) (h0:=wkS [((5,0),some (21,0))] []);refine cFf e1 ?_ ?_<;>intro k3 h1 e1
 ·have i1:=ix h1;have m2:=ml a1.ZG.ZM (k3 24 _ rfl);have c1:=sl 2318336 a1.ZG.ZM u0;have w1:=wr U;simp[i1,ZD];refine rpS ?_;refine cRs (jf a0 (nth a1.ZG.ZM U) (sg (Zr (ZW.zR (ZN.XY u0))))) ?_;exact nx2 e1 (hw:=XO [((5,0),some (35,0))] [] rfl zAd)
 have c2:=sl 2318336 a1.ZG.ZM u0;have f:=ms f e1;refine cRs (KT a0 J zAK) ?_;exact rt [.tmp 4] f
theorem UO(a0:Int)(a1:List ZN)(u0:Sm 2314240 a1):Sa 230 [rI a0,rL 16 ZN.row a1] [rI (QW a0 a1)]:=by
 have f:=me (QW.eq_1 a0 a1);refine so func230 ntmps230 ?_;refine lp2 (yG.eq_2 a0 a1) (fun J U=>Yx 24 [eI 0 a0,(5,.one (.sref 5 0 0 J.length),[.arr false 1 (J.map iR)]),eL 8 16 a1 ZN.row,eI 9 (a1.length:Int),eI 10 (U:Int)]) (fun n1 J U=>a1.length<n1+U/\U<=a1.length/\J.length<=0+1*U) (a1.length+1) ([]:List Int) 0 (fun p1 J U e1 j1=>?_) (h0:=wkS [((5,0),none)] []);refine cFf e1 ?_ ?_<;>intro k2 h1 e1
 ·have i1:=ix h1;have m2:=ml a1 (k2 8 _ rfl);have c1:=sl 2314240 a1 u0;have w1:=wr U;simp[i1,ZD];refine rpS ?_;refine cRs (HD a0 (nth a1 U) (sg (Zr u0))) ?_;exact nx2 e1 (hw:=XO [((5,0),some (19,0))] [] rfl zAd)
 have c2:=sl 2314240 a1 u0;have f:=ms f e1;refine cRs (OK a0 J zA4) ?_;exact rt [.tmp 4] f
theorem HJ(a0:ZE)(a1:Int)(a2:List Int)(a3:Int)(u0:Sm 2310144 a0)(u1:Sm 2310144 a2):Sd 154 [a0.row,rI a1,rL 1 iR a2,rI a3] [(Y6 a0 a1 a2 a3).1.row,rB (Y6 a0 a1 a2 a3).2]:=by
 have f:=me (Y6.eq_1 a0 a1 a2 a3);refine soD func154 ntmps154 ?_;refine lp2 (Qp.eq_2 a0 a2) (fun J U=>Yx 52 [eL 2 1 a2 iR,eI 3 a3,eX 4 (a0.row.map .d),(8,.one (.bptr 8 0),[.box [.d (.int .i64 0),.d (.int .i64 0),.nil 16,.d (.int .i64 0)]]),(10,.one (.bptr 10 0),[.box [.d (.int .i64 a0.Id),.d (.int .i64 a1),.sref 10 3 0 U.length,.d (.int .i64 0)],.none,.none,.arr true 16 (U.map ZN.row)]),eL 18 1 a2 iR,eI 19 (a2.length:Int),eI 20 (J:Int)]) (fun n1 J U=>a2.length<n1+J/\J<=a2.length/\U.length<=J/\(∀x∈U,Sm 2310144 x)) (a2.length+1) 0 ([]:List ZN) (fun p1 J U e1 j1=>?_) (hI:=by exact⟨zAA,zAA,Nat.zero_le _,Nat.zero_le _,fun x h=>by cases h⟩) (h0:=wkS [((10,3),none)] []);try dsimp only at j1
 refine cFf e1 ?_ ?_<;>intro k2 h1 e1
 ·have i1:=ix h1;have m2:=ml a2 (k2 2 _ rfl);have c1:=sl 2310144 a2 (an u0 u1);have w1:=wr J;simp[i1,ZD];refine rpS ?_;refine cRs (jJ a0 (nth a2 J)) ?_;refine cF e1 ?_ ?_<;>intro k3 h2 e1
  ·exact rtD [.cell 8 197,.tmp 9] (ms f e1)
  refine drJ [39] mixed ?_;have i2:(ZZ a0 (nth a2 J)).toNat<a0.ZB.length:=by have:=Jn a0 (nth a2 J);exact il
  simp[i2,ZD];refine rpS ?_;refine cDs [true,true,true,false,false] (qb (nth a0.ZB (ZZ a0 (nth a2 J)).toNat) (sg (Zr (ZE.YO u0)))) ?_;refine kI ?_;simp;refine WV (iJ:=U.map ZN.row) (news:=([nth a0.ZB (ZZ a0 (nth a2 J)).toNat]:List ZN).map ZN.row) (l1:=[(10,3)]) (l2:=[(37,3),(37,4),(37,14),(37,15)]) (size:=16) ?_;simp;exact nx2 e1 (hI:=by((try dsimp only);refine⟨zAA,zAA,zAA,by simp;omega,fun x hx=>?_⟩;rcases List.mem_append.1 hx with hx|hx;exact j1.2.2.2.2 x hx;have e:=List.mem_singleton.1 hx;subst e;exact Zr (ZE.YO u0))) (hw:=XO [((10,3),some (39,0))] [] rfl zAd)
 have c2:=sl 2310144 a2 (an u0 u1);have f:=ms f e1;refine cF f ?_ ?_<;>intro k5 h3 f
 ·exact rtD [.cell 8 197,.tmp 9] f
 refine cRs (UO a3 U zBF) ?_;exact rtD [.cell 8 197,.tmp 9] f
theorem M0(a0:Yl)(a1:Int)(u0:Sm 2310144 a0):Sa 231 [a0.row,rI a1] [rB (Qz a0 a1)]:=by
 have f:=me (Qz.eq_1 a0 a1);refine so func231 ntmps231 ?_;refine lp1 (KB.eq_2 a0) (fun J=>Yx 31 [eI 1 a1,eX 2 (a0.row.map .d),eL 8 16 a0.ZB ZN.row,eI 9 (a0.ZB.length:Int),eI 10 (J:Int)]) (fun n1 J=>a0.ZB.length<n1+J/\J<=a0.ZB.length) (a0.ZB.length+1) 0 (fun p1 J e1 j1=>?_);refine cFf e1 ?_ ?_<;>intro k2 h1 e1
 ·have i1:=ix h1;have m2:=ml a0.ZB (k2 8 _ rfl);have c1:=sl 2310144 a0.ZB u0;have w1:=wr J;simp[i1,ZD];refine rpS ?_;refine cRs (L1 (nth a0.ZB J)) ?_;refine cF e1 ?_ ?_<;>intro k3 h2 e1
  ·exact rt [.tmp 4] (ms f e1)
  exact ny1 w1 e1
 have f:=ms f e1;refine dIs mixed ?_;refine cRs (Zv (a0.ZB.length:Int) 1 8) ?_;refine cGs (fun gg=>UO a1 a0.ZB (sg (Yl.YO u0))) ?_;exact rt [.tmp 4] f
theorem Nb(a0:ZE)(a1:Yl)(a2:Int)(u0:Sm 2306048 a0)(u1:Sm 2306048 a1):Sd 155 [a0.row,a1.row,rI a2] [(XL a0 a1 a2).1.row,rB (XL a0 a1 a2).2]:=by
 have f:=me (XL.eq_1 a0 a1 a2);refine soD func155 ntmps155 ?_;refine cRs (M0 a1 a2 (sg u1)) ?_;refine cF f ?_ ?_<;>intro k1 h1 f
 ·refine cDs [] (Yo a0 (sg u0)) ?_;exact rtD [.cell 6 55,.tmp 7] f
 refine cDs [] (Yo a0 (sg u0)) ?_;refine lp3 (QK.eq_2 a0 a1) (fun J U iD=>Yx 48 [eX 3 (a0.row.map .d),(6,.one (.bptr 6 0),[.box [.d (.int .i64 0),.nil 16]]),(8,.one (.bptr 8 0),[.box [.d (.int .i64 U),.sref 8 2 0 iD.length],.none,.arr true 16 (iD.map ZN.row)]),eL 29 16 a1.ZB ZN.row,eI 30 (a1.ZB.length:Int),eI 31 (J:Int)]) (fun n1 J U iD=>a1.ZB.length<n1+J/\J<=a1.ZB.length/\Sm (2306048+J) (ZE.mk U iD)) (a1.ZB.length+1) 0 a0.Id a0.ZB (fun p1 J U iD e1 j1=>?_) (hI:=by exact⟨zAA,zAA,Nat.zero_le _,u0⟩) (h0:=wkS [((8,2),some (27,1))] []);try dsimp only at j1
 refine cFf e1 ?_ ?_<;>intro k3 h2 e1
 ·have i1:=ix h2;have m2:=ml a1.ZB (k3 29 _ rfl);have c1:=sl 2306048 a1.ZB (an u0 u1);have w1:=wr J;simp[i1,ZD];refine rpS ?_;refine cDs [] (Nf (ZE.mk U iD) (nth a1.ZB J) zA3 zA3) ?_;refine cF e1 ?_ ?_<;>intro k4 h3 e1
  ·refine cDs [] (Yo a0 (sg u0)) ?_;exact rtD [.cell 6 55,.tmp 7] (ms f e1)
  exact nx3 e1 (hI:=by((try dsimp only);refine⟨zAA,zAA,zAA,?_⟩;exact Sc (n:=2306048+J) j1.2.2.2 (ZQ (n:=2306048) zAA (Zr (Yl.YO u1))))) (hw:=XO [((8,2),some (38,1))] [] rfl zAd)
 have c2:=sl 2306048 a1.ZB (an u0 u1);exact rtD [.cell 6 55,.tmp 7] (ms f e1)
theorem Fm(h:b)(k:a:=by(intros;first|omega|with_unfolding_all (first|first|omega|(have h0:=h1;simp only[decide_eq_false_iff_not]at h0;have z:=Jn a0 a1;have hc:=YQ (ZE.YO u0);have w2:IntKind.i64.wrap ((ZZ a0 a1)+1)=(ZZ a0 a1)+1:=(YX zAA zAA);have w:W ((ZZ a0 a1)+1)=(ZZ a0 a1)+1:=w2;omega))|((try simp only[Y0,show ∀x,IntKind.i64.wrap x=W x from fun _=>rfl]at*);omega))):a/\b:=⟨k,h⟩
theorem Fv(a0:ZE)(a1:Int)(u0:Sm 2318336 a0):Sd 156 [a0.row,rI a1] [(QG a0 a1).1.row,rB (QG a0 a1).2]:=by
 have f:=me (QG.eq_1 a0 a1);refine soD func156 ntmps156 ?_;refine cDs [] (Yo a0 (sg u0)) ?_;refine cRs (jJ a0 a1) ?_;refine cF f ?_ ?_<;>intro k1 h1 f
 ·exact rtD [.cell 4 55,.tmp 5] f
 refine drJ [25] mixed ?_;have c1:=sl 2318336 a0.ZB u0
 simp;repeat with_reducible refine Fm ?_
 refine mq (rows:=a0.ZB.map ZN.row) (news:=(a0.ZB.drop (W (ZZ a0 a1+1)).toNat).map ZN.row) (size:=16) (u:=9) (j:=1) (len:=(ZZ a0 a1).toNat) (lo:=(W (ZZ a0 a1+1)).toNat) (n:=a0.ZB.length-(W (ZZ a0 a1+1)).toNat) rfl rfl rfl rfl zAE zAE zAE zAE zAE (by first|omega|(first|omega|(have h0:=h1;simp only[decide_eq_false_iff_not]at h0;have z:=Jn a0 a1;have hc:=YQ (ZE.YO u0);have w2:IntKind.i64.wrap (ZZ a0 a1+1)=ZZ a0 a1+1:=YX zAA zAA;have w:W (ZZ a0 a1+1)=ZZ a0 a1+1:=w2;omega))|(simp;first|omega|(have h0:=h1;simp only[decide_eq_false_iff_not]at h0;have z:=Jn a0 a1;have hc:=YQ (ZE.YO u0);have w2:IntKind.i64.wrap (ZZ a0 a1+1)=ZZ a0 a1+1:=YX zAA zAA;have w:W (ZZ a0 a1+1)=ZZ a0 a1+1:=w2;omega))) (by first|omega|(simp;done)|(simp;first|omega|(have h0:=h1;simp only[decide_eq_false_iff_not]at h0;have z:=Jn a0 a1;have hc:=YQ (ZE.YO u0);have w2:IntKind.i64.wrap (ZZ a0 a1+1)=ZZ a0 a1+1:=YX zAA zAA;have w:W (ZZ a0 a1+1)=ZZ a0 a1+1:=w2;omega))) (Rr _ _ _) zAE (by first|omega|(simp;first|omega|(have h0:=h1;simp only[decide_eq_false_iff_not]at h0;have z:=Jn a0 a1;have hc:=YQ (ZE.YO u0);have w2:IntKind.i64.wrap (ZZ a0 a1+1)=ZZ a0 a1+1:=YX zAA zAA;have w:W (ZZ a0 a1+1)=ZZ a0 a1+1:=w2;omega))) ?_;simp;exact rtD [.cell 4 55,.tmp 5] f
theorem G8(a0 a1:ZE)(a2:List Int)(a3:Int)(u0:Sm 2301952 a0)(u1:Sm 2301952 a1)(u2:Sm 2301952 a2):Sd 88 [a0.row,a1.row,rL 1 iR a2,rI a3] [(Y8 a0 a1 a2 a3).1.row,(Y8 a0 a1 a2 a3).2.1.row,rB (Y8 a0 a1 a2 a3).2.2]:=by
 have f:=me (Y8.eq_1 a0 a1 a2 a3);refine soD func88 ntmps88 ?_;refine cRs (Yg.rd (HJ a0 a1.Id a2 a3 zBe zBe)) ?_;refine cDs [] (Nb a1 (Y6 a0 a1.Id a2 a3).1 a3 zBf zBf) ?_;refine cF f ?_ ?_<;>intro k1 h1 f
 ·refine okD fun k2=>?_;refine dIs mixed ?_;refine cDs [] (Yo a0 (sg u0)) ?_;refine cDs [] (Yo a1 (sg u1)) ?_;exact rtD [.cell 8 55,.cell 9 55,.tmp 10] f
 refine cDs [] (Yo a0 (sg u0)) ?_;refine lp3 (QY.eq_2 a0 a1 a2) (fun J U iD=>Yx 70 [eX 4 (a0.row.map .d),eX 5 (a1.row.map .d),(8,.one (.bptr 8 0),[.box [.d (.int .i64 0),.nil 16]]),(9,.one (.bptr 9 0),[.box [.d (.int .i64 0),.nil 16]]),(13,.one (.bptr 13 0),[.box [.d (.int .i64 (XL a1 (Y6 a0 a1.Id a2 a3).1 a3).1.Id),.sref 33 1 0 (XL a1 (Y6 a0 a1.Id a2 a3).1 a3).1.ZB.length]]),(15,.one (.bptr 15 0),[.box [.d (.int .i64 U),.sref 15 2 0 iD.length],.none,.arr true 16 (iD.map ZN.row)]),(33,.any,[.none,.arr true 16 ((XL a1 (Y6 a0 a1.Id a2 a3).1 a3).1.ZB.map ZN.row)]),eL 48 1 a2 iR,eI 49 (a2.length:Int),eI 50 (J:Int)]) (fun n1 J U iD=>a2.length<n1+J/\J<=a2.length/\Sm 2301952 (ZE.mk U iD)) (a2.length+1) 0 a0.Id a0.ZB (fun p1 J U iD e1 j1=>?_) (hI:=by exact⟨zAA,zAA,Nat.zero_le _,u0⟩) (h0:=wkS [((15,2),some (47,1))] []);try dsimp only at j1
 refine cFf e1 ?_ ?_<;>intro k4 h2 e1
 ·have i1:=ix h2;have m2:=ml a2 (k4 48 _ rfl);have c1:=sl 2301952 a2 (an u0 (an u1 u2));have w1:=wr J;simp[i1,ZD];refine rpS ?_;refine cDs [] (Fv (ZE.mk U iD) (nth a2 J) (by exact ZQ (n:=2301952) zAD j1.2.2.2)) ?_;refine cF e1 ?_ ?_<;>intro k5 h3 e1
  ·refine okD fun k6=>?_;refine dIs mixed ?_;refine cDs [] (Yo a0 (sg u0)) ?_;refine cDs [] (Yo a1 (sg u1)) ?_;exact rtD [.cell 8 55,.cell 9 55,.tmp 10] (ms f e1)
  exact nx3 e1 (hI:=by((try dsimp only);refine⟨zAA,zAA,zAA,?_⟩;exact Tp zAD j1.2.2.2)) (hw:=XO [((15,2),some (57,1))] [] rfl zAd)
 have c2:=sl 2301952 a2 (an u0 (an u1 u2));have f:=ms f e1;refine sY [(8,8),(9,9),(13,13),(15,15)] mixed zAV zAV zAV zAV ?_;simp;exact rtD [.cell 8 55,.cell 9 55,.tmp 10] f
theorem Fj(a0:ZF)(a1 a2 a3:Int)(u0:Sm 2297856 a0):Sd 36 [a0.row,rI a1,rI a2,rI a3] [(KH a0 a1 a2 a3).1.row,rB (KH a0 a1 a2 a3).2]:=by
 have f:=me (KH.eq_1 a0 a1 a2 a3);refine soD func36 ntmps36 ?_;refine cDs [false,false,false,true,true,false,false,true,false,false,true,false] (YY a0 (sg u0)) ?_;refine cRs (jc a0.Frame.Methods a0.Frame.Now) ?_;refine cRs (yf a0 a1) ?_;refine cGs (fun gg=>yf a0 a2) ?_;have c1:=sl 2297856 a0.ZA u0;have w1:IntKind.i64.wrap ((a0.ZA.length:Int)-1)=(a0.ZA.length:Int)-1:=YX zAA zAA;refine cFo f ?_ ?_<;>intro k1 h1 f
 ·have q1:=h1;try simp[w1,YG,ZX]at q1
  simp;exact rtD [.cell 8 33,.tmp 9] f
 have q1:=h1;try simp[w1,YG,ZX]at q1
 simp;refine dIo mixed ?_;have i1:=ik a1.toNat a0.ZA
 have i2:=ik a2.toNat a0.ZA;simp[i1,ZD,i2];refine rpS ?_;refine cDs [] (G8 (nth a0.ZA a1.toNat) (nth a0.ZA a2.toNat) ([a3]:List Int) (ZS a0.Frame.Methods a0.Frame.Now) (sg (Zr (ZF.YR u0))) (sg (Zr (ZF.YR u0))) (by simp(maxDischargeDepth:=12) [SA,XM,ZQ (m:=2301952) zAD u0];try omega)) ?_;refine cF f ?_ ?_<;>intro k3 h2 f
 ·refine okD fun k4=>?_;refine vj [(10,10),(12,12),(13,13),(63,10),(66,10)] [71,72] [] mixed zAV zAV zAV zAV zAV zAV zAV ?_;simp[i1,ZD];refine rpS ?_;refine MU (t:=16) (j:=7) (i:=a1.toNat) (size:=2) (rows:=a0.ZA.map ZE.row) (ds:=(Y8 (nth a0.ZA a1.toNat) (nth a0.ZA a2.toNat) ([a3]:List Int) (ZS a0.Frame.Methods a0.Frame.Now)).1.row) (L:=[(58,1)]) ?_;simp[Kx (x:=(Y8 (nth a0.ZA a1.toNat) (nth a0.ZA a2.toNat) ([a3]:List Int) (ZS a0.Frame.Methods a0.Frame.Now)).1) rfl,c1,i1,i2,ZD,XX];refine rpS ?_;refine MU (t:=16) (j:=7) (i:=a2.toNat) (size:=2) (rows:=(a0.ZA.set a1.toNat (Y8 (nth a0.ZA a1.toNat) (nth a0.ZA a2.toNat) ([a3]:List Int) (ZS a0.Frame.Methods a0.Frame.Now)).1).map ZE.row) (ds:=(Y8 (nth a0.ZA a1.toNat) (nth a0.ZA a2.toNat) ([a3]:List Int) (ZS a0.Frame.Methods a0.Frame.Now)).2.1.row) (L:=[(58,3)]) ?_;simp[Kx (x:=(Y8 (nth a0.ZA a1.toNat) (nth a0.ZA a2.toNat) ([a3]:List Int) (ZS a0.Frame.Methods a0.Frame.Now)).1) rfl,c1,i1,i2,ZD,XX];refine rpS ?_;exact rtD [.cell 8 33,.tmp 9] f
 exact rtD [.cell 8 33,.tmp 9] f
theorem IP(a0:ZE)(a1:Int)(u0:Sm 2322432 a0):Sd 89 [a0.row,rI a1] [(K6 a0 a1).1.row,rI (K6 a0 a1).2]:=by
 have f:=me (K6.eq_1 a0 a1);refine soD func89 ntmps89 ?_;refine lp2 (QU.eq_2 a0 a1) (fun J U=>Yx 39 [eI 1 a1,eX 2 (a0.row.map .d),(4,.one (.bptr 4 0),[.box [.d (.int .i64 0),.nil 16]]),(6,.one (.bptr 6 0),[.box [.d (.int .i64 a0.Id),.sref 6 2 0 U.length],.none,.arr true 16 (U.map ZN.row)]),eL 13 16 a0.ZB ZN.row,eI 14 (a0.ZB.length:Int),eI 15 (J:Int)]) (fun n1 J U=>a0.ZB.length<n1+J/\J<=a0.ZB.length/\U.length<=0+1*J) (a0.ZB.length+1) 0 ([]:List ZN) (fun p1 J U e1 j1=>?_) (h0:=wkS [((6,2),none)] []);refine cFf e1 ?_ ?_<;>intro k2 h1 e1
 ·have i1:=ix h1;have m2:=ml a0.ZB (k2 13 _ rfl);have c1:=sl 2322432 a0.ZB u0;have w1:=wr J;simp[i1,ZD];refine rpS ?_;refine cF e1 ?_ ?_<;>intro k3 h2 e1
  ·refine okD fun k4=>?_;refine drJ [28] mixed ?_;simp;refine cDs [true,true,true,false,false] (qb (nth a0.ZB J) (sg (Zr (ZE.YO u0)))) ?_;refine kI ?_;simp;refine WV (iJ:=U.map ZN.row) (news:=([nth a0.ZB J]:List ZN).map ZN.row) (l1:=[(6,2)]) (l2:=[(26,3),(26,4),(26,14),(26,15)]) (size:=16) ?_;simp;exact nx2 e1 (hw:=XO [((6,2),some (28,0))] [] rfl zAd)
  exact ny2 w1 e1
 have c2:=sl 2322432 a0.ZB u0;have f:=ms f e1;refine sY [(2,2),(4,4),(6,6),(32,2),(35,6)] mixed zAV zAV zAV zAV ?_;simp;exact rtD [.cell 4 55,.tmp 5] f
theorem HG(a0:ZF)(a1:Int)(u0:Sm 2314240 a0):Sd 37 [a0.row,rI a1] [(Q8 a0 a1).1.row,rB (Q8 a0 a1).2]:=by
 have f:=me (Q8.eq_1 a0 a1);refine soD func37 ntmps37 ?_;refine cDs [false,false,false,true,true,false,false,true,false,false,true,false] (YY a0 (sg u0)) ?_;refine cRs (yf a0 a1) ?_;have c1:=sl 2314240 a0.ZA u0;have w1:IntKind.i64.wrap ((a0.ZA.length:Int)-1)=(a0.ZA.length:Int)-1:=YX zAA zAA;refine cFo f ?_ ?_<;>intro k1 h1 f
 ·have q1:=h1;try simp[w1,YG,ZX]at q1
  simp;exact rtD [.cell 4 33,.tmp 5] f
 have q1:=h1;try simp[w1,YG,ZX]at q1
 simp;refine drJ [] mixed ?_;have i1:=ik a1.toNat a0.ZA
 simp[i1,ZD];refine rpS ?_;refine cDf i1 [] (IP (nth a0.ZA a1.toNat) a0.Frame.Now (sg (Zr (ZF.YR u0)))) ?_;refine MU (t:=8) (j:=7) (i:=a1.toNat) (size:=2) (rows:=a0.ZA.map ZE.row) (ds:=(K6 (nth a0.ZA a1.toNat) a0.Frame.Now).1.row) (L:=[(26,1)]) ?_;simp;refine rpS ?_;exact rtD [.cell 4 33,.tmp 5] f
theorem Is(a0:List YH)(a1:Int):Sa 264 [rL 4 YH.row a0,rI a1] [rI (zp a0 a1)]:=by
 have f:=me (zp.eq_1 a0 a1);refine so func264 ntmps264 ?_;refine lp1 (ya.eq_2 a0 a1) (fun J=>Yx 20 [eI 1 a1,eL 7 4 a0 YH.row,eI 8 (a0.length:Int),eI 9 (J:Int)]) (fun n1 J=>a0.length<n1+J/\J<=a0.length) (a0.length+1) 0 (fun p1 J e1 j1=>?_);refine cFf e1 ?_ ?_<;>intro k2 h1 e1
 ·have i1:=ix h1;have m2:=ml a0 (k2 7 _ rfl);have w1:=wr J;simp[i1,ZD];refine rpS ?_;refine cF e1 ?_ ?_<;>intro k3 h2 e1
  ·exact rt [.tmp 4] (ms f e1)
  exact ny1 w1 e1
 exact rt [.tmp 4] (ms f e1)
theorem VQ(a0:List YH)(a1:Int):Sa 213 [rL 4 YH.row a0,rI a1] [rI (zL a0 a1)]:=by
 have f:=me (zL.eq_1 a0 a1);refine so func213 ntmps213 ?_;refine cRs (Is a0 a1) ?_;refine cFf f ?_ ?_<;>intro k1 h1 f
 ·have i1:(zp a0 a1).toNat<a0.length:=by have:=IN a0 a1;exact il
  simp[i1,ZD];refine rpS ?_;exact rt [.tmp 4] f
 exact rt [.tmp 4] f
theorem VL(a0:ZO)(a1:Int):Sa 157 [a0.row,rI a1] [rI (YJ a0 a1)]:=by
 have f:=me (YJ.eq_1 a0 a1);refine so func157 ntmps157 ?_;refine cRs (Jz a0.Zt a1) ?_;refine cF f ?_ ?_<;>intro k1 h1 f
 ·exact rt [.tmp 4] f
 refine dIo mixed ?_;have i1:(Z6 a0.Zt a1).toNat<a0.Zt.length:=by have:=zz a0.Zt a1;exact il
 simp[i1,ZD];refine rpS ?_;refine cRs (VQ a0.Methods (nth a0.Zt (Z6 a0.Zt a1).toNat).Method) ?_;exact rt [.tmp 4] f
theorem Te(a0:ZO)(a1:Int):Sa 90 [a0.row,rI a1] [rB (Qh a0 a1)]:=by
 have f:=me (Qh.eq_1 a0 a1);refine so func90 ntmps90 ?_;refine dIs mixed ?_;refine cRs (Jz a0.Zt a1) ?_;refine cGs (fun gg=>VL a0 a1) ?_;exact rt [.tmp 4] f
theorem GV(h:b)(k:a:=by(intros;first|omega|with_unfolding_all (first|first|omega|(have o:=YQ (ZF.My (zA (n:=2310144) (a1:=a1) (a2:=a2) (a4:=0) (a5:=10000) u0 u1 zAD));(try simp);omega))|((try simp only[Y0,show ∀x,IntKind.i64.wrap x=W x from fun _=>rfl]at*);omega))):a/\b:=⟨k,h⟩
theorem G1(a0:ZF)(a1 a2:Int)(a3:ZR)(u0:Sm 2310144 a0)(u1:Sm 2310144 a3):Sd 38 [a0.row,rI a1,rI a2,a3.row] [(JM a0 a1 a2 a3).1.row,rB (JM a0 a1 a2 a3).2]:=by
 have f:=me (JM.eq_1 a0 a1 a2 a3);refine soD func38 ntmps38 ?_;refine cRs (Te a0.Frame a2) ?_;refine cFo f ?_ ?_<;>intro k1 h1 f
 ·have q1:=h1;try simp at q1
  simp;refine cDs [false,false,false,true,true,false,false,true,false,false,true,false] (YY a0 zAi) ?_;refine Il (rv:=[.cell 8 33,.tmp 9]) rfl ?_;simp[f.h];all_goals((try simp only[q2,true_and]);(try(rintro r (⟨a,_,rfl⟩|rfl) x hx<;>simp at hx<;>subst hx<;>rfl)))
 have q1:=h1;try simp at q1
 simp;refine cRs (OB a0 a1 a2 a3 0 10000 (sg u0) (sg u1)) ?_;refine cDs [false,false,false,true,true,false,false,true,false,false,true,false] (YY (XR a0 a1 a2 a3 0 10000).1 zA1) ?_;refine cFo f ?_ ?_<;>intro k2 h2 f
 ·have q2:=h2;try simp at q2
  simp;repeat with_reducible refine GV ?_
  refine Il (rv:=[.cell 8 33,.tmp 9]) rfl ?_;simp[f.h];all_goals((try simp only[q2,true_and]);(try(rintro r (⟨a,_,rfl⟩|rfl) x hx<;>simp at hx<;>subst hx<;>rfl)))
 have q2:=h2;try simp at q2
 simp;refine Il (rv:=[.cell 8 33,.tmp 9]) rfl ?_;simp[f.h];all_goals((try simp only[q2,true_and]);(try(rintro r (⟨a,_,rfl⟩|rfl) x hx<;>simp at hx<;>subst hx<;>rfl)))
theorem RS(a0:ZF)(u0:Sm 2326528 a0):Sd 91 [a0.row] [rL 1 iR (Zs a0)]:=by
 have f:=me (Zs.eq_1 a0);refine soD func91 ntmps91 ?_;refine lp2 (X6.eq_2 a0) (fun J U=>Yx 33 [eX 1 (a0.row.map .d),(3,.one (.sref 3 0 0 J.length),[.arr false 1 (J.map iR)]),eL 8 3 a0.Frame.ZC Zi.row,eI 9 (a0.Frame.ZC.length:Int),eI 10 (U:Int)]) (fun n1 J U=>a0.Frame.ZC.length<n1+U/\U<=a0.Frame.ZC.length/\J.length<=0+1*U) (a0.Frame.ZC.length+1) ([]:List Int) 0 (fun p1 J U e1 j1=>?_) (h0:=wkS [((3,0),none)] []);refine cFf e1 ?_ ?_<;>intro k2 h1 e1
 ·have i1:=ix h1;have m2:=ml a0.Frame.ZC (k2 8 _ rfl);have c1:=sl 2326528 a0.Frame.ZC u0;have w1:=wr U;simp[i1,ZD];refine rpS ?_;refine cRs (Wj a0.Yc (nth a0.Frame.ZC U).Id) ?_;refine cGs (fun gg=>Te a0.Frame (nth a0.Frame.ZC U).Key) ?_;refine cF e1 ?_ ?_<;>intro k3 h2 e1
  ·exact nx2 e1 (hw:=XO [((3,0),some (30,0))] [] rfl zAd)
  exact ny2 w1 e1
 exact rtD [.tmp 2] (ms f e1)
theorem yE(h:b)(k:a:=by(intros;first|omega|with_unfolding_all (first|first|omega|(have f0:0<=(ZK a0 a1).1:=(by first|omega|(simp at*;omega));have fi:=XT a0 a1 f0;omega)|(have fl:=Js a0;have fm:=YQ (ZO.XW (ZF.Xr u0));(try dsimp only at*);omega))|((try simp only[Y0,show ∀x,IntKind.i64.wrap x=W x from fun _=>rfl]at*);omega))):a/\b:=⟨k,h⟩
theorem NZ(a0:ZF)(a1 a2:Int)(u0:Sm 2314240 a0):Sd 39 [a0.row,rI a1,rI a2] [(X7 a0 a1 a2).1.row,rB (X7 a0 a1 a2).2]:=by
 have f:=me (X7.eq_1 a0 a1 a2);refine soD func39 ntmps39 ?_;refine cDs [false,false,false,true,true,false,false,true,false,false,true,false] (YY a0 (sg u0)) ?_;refine cRs (Ws a0 a1) ?_;refine cRs (jc a0.Frame.Methods a0.Frame.Now) ?_;refine cRs (Yg.rd (RS a0 (sg u0))) ?_;refine cRs (Wj a0.YL a1) ?_;refine cFt f ?_ ?_<;>intro k1 h1 f
 ·exact rtD [.cell 6 33,.tmp 7] f
 have i1:(ZK a0 a1).1.toNat<a0.ZA.length:=zBB;have i2:(ZK a0 a1).2.toNat<(nth a0.ZA (ZK a0 a1).1.toNat).ZB.length:=zBB;simp[i1,ZD,i2];repeat with_reducible refine yE ?_
 refine dIs mixed ?_;refine cRs (ME (nth (nth a0.ZA (ZK a0 a1).1.toNat).ZB (ZK a0 a1).2.toNat) (ZS a0.Frame.Methods a0.Frame.Now) (sg (Zr (ZE.YO (Zr (ZF.YR u0)))))) ?_;refine lp2 (XN.eq_2 a0 a1 a2) (fun J U=>Yx 124 [eI 2 a2,(6,.one (.bptr 6 0),[.box [.nil 5,.nil 3,.nil 4,.d (.int .i64 0),.d (.int .i64 0),.nil 7,.nil 1,.nil 2,.nil 1,.nil 1,.d (.int .i64 0),.nil 1]]),eX 8 (a0.Frame.row.map .d),(9,.one (.bptr 9 0),[.box [.sref 25 0 0 a0.Frame.Zt.length,.sref 25 1 0 a0.Frame.ZC.length,.sref 25 2 0 a0.Frame.Methods.length,.d (.int .i64 a0.Frame.XJ),.d (.int .i64 a0.Frame.Now),.sref 25 5 0 a0.Zd.length,.sref 25 6 0 a0.Zw.length,.sref 25 7 0 a0.ZA.length,.sref 25 8 0 a0.Y2.length,.sref 25 9 0 a0.Yc.length,.d (.int .i64 a0.Next),.sref 25 11 0 a0.YL.length]]),eI 10 (ZK a0 a1).1,eI 11 (ZK a0 a1).2,eX 14 ((nth (nth a0.ZA (ZK a0 a1).1.toNat).ZB (ZK a0 a1).2.toNat).row.map .d),(15,.one (.bptr 15 0),[.box [.d (.int .i64 ((nth (nth a0.ZA (ZK a0 a1).1.toNat).ZB (ZK a0 a1).2.toNat).ZG.ZI.length:Int)),.d (.int .i64 (ZS a0.Frame.Methods a0.Frame.Now)),.d (.int .i64 (Q6 (nth (nth a0.ZA (ZK a0 a1).1.toNat).ZB (ZK a0 a1).2.toNat) (ZS a0.Frame.Methods a0.Frame.Now))),.nil 2,.sref 15 5 0 U.length],.none,.none,.none,.none,.arr false 5 (U.map Zm.row)]),(25,.any,[.arr false 5 (a0.Frame.Zt.map Y4.row),.arr false 3 (a0.Frame.ZC.map Zi.row),.arr false 4 (a0.Frame.Methods.map YH.row),.none,.none,.arr false 7 (a0.Zd.map YN.row),.arr false 1 (a0.Zw.map iR),.arr true 2 (a0.ZA.map ZE.row),.arr false 1 (a0.Y2.map iR),.arr false 1 (a0.Yc.map iR),.none,.arr false 1 (a0.YL.map iR)]),eL 76 1 (Zs a0) iR,eI 77 ((Zs a0).length:Int),eI 78 (J:Int)]) (fun n1 J U=>(Zs a0).length<n1+J/\J<=(Zs a0).length/\U.length<=0+1*J) ((Zs a0).length+1) 0 ([]:List Zm) (fun p1 J U e1 j1=>?_) (h0:=wkS [((15,5),none)] []);try dsimp only at j1
 refine cFf e1 ?_ ?_<;>intro k4 h2 e1
 ·have i3:=ix h2;have m2:=ml (Zs a0) (k4 76 _ rfl);have w1:=wr J;simp[i3,ZD];repeat with_reducible refine yE ?_
  refine cRs (kS a0.Frame.Zt a0.Frame.ZC (Zm.mk (nth (Zs a0) J) 0 a2 (Q6 (nth (nth a0.ZA (ZK a0 a1).1.toNat).ZB (ZK a0 a1).2.toNat) (ZS a0.Frame.Methods a0.Frame.Now)) 0) (sg (ZO.Xb (ZF.Xr u0))) (sg (ZO.XW (ZF.Xr u0)))) ?_;refine cFt e1 ?_ ?_<;>intro k5 h3 e1
  ·exact rtD [.cell 6 33,.tmp 7] (ms f e1)
  simp;repeat with_reducible refine yE ?_
  exact nx2 e1 (hw:=XO [((15,5),some (102,0))] [] rfl zAd)
 have f:=ms f e1;refine cDs [] (S5 (nth (nth a0.ZA (ZK a0 a1).1.toNat).ZB (ZK a0 a1).2.toNat).ZG (Zb.mk ((nth (nth a0.ZA (ZK a0 a1).1.toNat).ZB (ZK a0 a1).2.toNat).ZG.ZI.length:Int) (ZS a0.Frame.Methods a0.Frame.Now) (Q6 (nth (nth a0.ZA (ZK a0 a1).1.toNat).ZB (ZK a0 a1).2.toNat) (ZS a0.Frame.Methods a0.Frame.Now)) ([]:List X8) U) zAz zAz) ?_;refine drJ [] mixed ?_;simp[i1,ZD,i2];repeat with_reducible refine yE ?_
 refine mI (t:=25) (j:=7) (i:=(ZK a0 a1).1.toNat) (c:=1) (k':=(ZK a0 a1).2.toNat) (q:=14) (n:=16) (size:=2) (s:=(nth a0.ZA (ZK a0 a1).1.toNat).ZB.map ZN.row) (rows:=a0.ZA.map ZE.row) (ds:=(Y9 (nth (nth a0.ZA (ZK a0 a1).1.toNat).ZB (ZK a0 a1).2.toNat).ZG (Zb.mk ((nth (nth a0.ZA (ZK a0 a1).1.toNat).ZB (ZK a0 a1).2.toNat).ZG.ZI.length:Int) (ZS a0.Frame.Methods a0.Frame.Now) (Q6 (nth (nth a0.ZA (ZK a0 a1).1.toNat).ZB (ZK a0 a1).2.toNat) (ZS a0.Frame.Methods a0.Frame.Now)) ([]:List X8) U)).1.row) (L:=[(109,0),(109,1)]) rfl rfl rfl rfl (by simp;rfl) zAE zAE (by simp[i1,i2]) (by simp[ZD,XX,i1,i2]) (by simp[i1,i2]) zAE zAE zAE zAE zAE zAE ?_;simp[Kx (x:=ZE.mk (nth a0.ZA (ZK a0 a1).1.toNat).Id ((nth a0.ZA (ZK a0 a1).1.toNat).ZB.set (ZK a0 a1).2.toNat (ZN.mk (nth (nth a0.ZA (ZK a0 a1).1.toNat).ZB (ZK a0 a1).2.toNat).Id (nth (nth a0.ZA (ZK a0 a1).1.toNat).ZB (ZK a0 a1).2.toNat).XF (nth (nth a0.ZA (ZK a0 a1).1.toNat).ZB (ZK a0 a1).2.toNat).Doc (nth (nth a0.ZA (ZK a0 a1).1.toNat).ZB (ZK a0 a1).2.toNat).Sig (Y9 (nth (nth a0.ZA (ZK a0 a1).1.toNat).ZB (ZK a0 a1).2.toNat).ZG (Zb.mk ((nth (nth a0.ZA (ZK a0 a1).1.toNat).ZB (ZK a0 a1).2.toNat).ZG.ZI.length:Int) (ZS a0.Frame.Methods a0.Frame.Now) (Q6 (nth (nth a0.ZA (ZK a0 a1).1.toNat).ZB (ZK a0 a1).2.toNat) (ZS a0.Frame.Methods a0.Frame.Now)) ([]:List X8) U)).1))) rfl,ZD,XX,i1,i2];repeat with_reducible refine yE ?_
 exact rtD [.cell 6 33,.tmp 7] f
theorem OS(h:b)(k:a:=by(intros;first|omega|with_unfolding_all (first|first|omega|(have z:=Ql a0 a1 zBu;(try simp at*);omega))|(simp_all;done)|(simp_all;omega)|grind|((try simp only[Y0,show ∀x,IntKind.i64.wrap x=W x from fun _=>rfl]at*);omega))):a/\b:=⟨k,h⟩
theorem EB(a0:ZF)(a1 a2:Int)(u0:Sm 2310144 a0):Sd 40 [a0.row,rI a1,rI a2] [(KJ a0 a1 a2).1.row,rB (KJ a0 a1 a2).2]:=by
 have f:=me (KJ.eq_1 a0 a1 a2);refine soD func40 ntmps40 ?_;refine cRs (Lt a0 a1) ?_;refine dIs mixed ?_;refine gIo ?_ ?_<;>intro G
 ·have g1:=G;try simp at g1
  have i1:(YP a0 a1).2.1.toNat<a0.Zd.length:=zBE;simp[i1,ZD,G];repeat with_reducible refine OS ?_
  refine cGo (fun gg=>Te a0.Frame (nth a0.Zd (YP a0 a1).2.1.toNat).Z4) ?_;simp;refine cKo f ?_ ?_<;>intro k2 h1 f
  ·simp;refine cD [false,false,false,true,true,false,false,true,false,false,true,false] (YY a0 (sg u0)) ?_;simp;exact yV _ f
  ·simp;refine dIo mixed ?_;simp[i1,ZD];repeat with_reducible refine OS ?_
   refine cD [false,false,false,true,true,false,false,true,false,false,true,false] (Td a0 (YP a0 a1).1 a1 (Zp.mk (nth a0.Zd (YP a0 a1).2.1.toNat).Za a2 (-1) (nth a0.Zd (YP a0 a1).2.1.toNat).Z4 0) (sg u0) zBO) ?_;simp;exact yV _ f
 ·simp[G];refine sGo ?_;simp;refine cKo f ?_ ?_<;>intro k4 h2 f
  ·simp;refine cD [false,false,false,true,true,false,false,true,false,false,true,false] (YY a0 (sg u0)) ?_;simp;exact yV _ f
  ·simp[G]at h2
theorem HF(a0:ZF)(a1:Zx)(u0:Sm 2293760 a0)(u1:Sm 2293760 a1):Sd 16 [a0.row,a1.row] [(YF a0 a1).1.row,rB (YF a0 a1).2]:=by
 have f:=me (YF.eq_1 a0 a1);refine soD func16 ntmps16 ?_;refine cF f ?_ ?_<;>intro k1 h1 f
 ·refine cDs [false,false,false,true,true,false,false,true,false,false,true,false] (Eh a0 a1.A (sg u0)) ?_;exact rtD _ f
 refine cF f ?_ ?_<;>intro k2 h2 f
 ·refine cDs [false,false,false,true,true,false,false,true,false,false,true,false] (F7 a0 a1.A a1.B a1.Doc a1.C a1.D (sg u0) (sg (Zx.xx u1))) ?_;exact rtD _ f
 refine cF f ?_ ?_<;>intro k3 h3 f
 ·refine cDs [false,false,false,true,true,false,false,true,false,false,true,false] (Ip a0 a1.A (sg u0)) ?_;exact rtD _ f
 refine cF f ?_ ?_<;>intro k4 h4 f
 ·refine cDs [false,false,false,true,true,false,false,true,false,false,true,false] (Im a0 a1.A (sg u0)) ?_;exact rtD _ f
 refine cF f ?_ ?_<;>intro k5 h5 f
 ·refine cDs [false,false,false,true,true,false,false,true,false,false,true,false] (G0 a0 a1.A a1.Ids a1.B (sg u0) (sg (Zx.wz u1))) ?_;exact rtD _ f
 refine cF f ?_ ?_<;>intro k6 h6 f
 ·refine cDs [false,false,false,true,true,false,false,true,false,false,true,false] (Fj a0 a1.A a1.B a1.C (sg u0)) ?_;exact rtD _ f
 refine cF f ?_ ?_<;>intro k7 h7 f
 ·refine cDs [false,false,false,true,true,false,false,true,false,false,true,false] (HG a0 a1.A (sg u0)) ?_;exact rtD _ f
 refine cF f ?_ ?_<;>intro k8 h8 f
 ·refine cDs [false,false,false,true,true,false,false,true,false,false,true,false] (G1 a0 a1.A a1.B a1.Doc (sg u0) (sg (Zx.xx u1))) ?_;exact rtD _ f
 refine cF f ?_ ?_<;>intro k9 h9 f
 ·refine cDs [false,false,false,true,true,false,false,true,false,false,true,false] (NZ a0 a1.A a1.B (sg u0)) ?_;exact rtD _ f
 refine cF f ?_ ?_<;>intro aZ cA f
 ·refine cDs [false,false,false,true,true,false,false,true,false,false,true,false] (EB a0 a1.A a1.B (sg u0)) ?_;exact rtD _ f
 refine cDs [false,false,false,true,true,false,false,true,false,false,true,false] (YY a0 (sg u0)) ?_;exact rtD _ f
theorem HO(a0:Int):Sa 283 [rI a0] [rB (kV a0)]:=by
 have f:=me (kV.eq_1 a0);refine so func283 ntmps283 ?_;refine cRs (Zv a0 1 2147483646) ?_;exact rt [.tmp 2] f
theorem Ah(a0:Y4):Sa 251 [a0.row] [rB (Ca a0)]:=by
 have f:=me (Ca.eq_1 a0);refine so func251 ntmps251 ?_;refine cRs (Zv a0.Number 1 99) ?_;refine cGs (fun gg=>Zv a0.jE 0 99) ?_;refine cGs (fun gg=>Zv a0.Method 0 99) ?_;refine cGs (fun gg=>zI a0.VO) ?_;refine cGs (fun gg=>HO a0.PB) ?_;exact rt [.tmp 2] f
theorem Cf(a0:List Y4):Sa 188 [rL 5 Y4.row a0] [rB (Li a0)]:=by
 have f:=me (Li.eq_1 a0);refine so func188 ntmps188 ?_;refine lp1 (R7.eq_2 a0) (fun J=>Yx 34 [eL 0 5 a0 Y4.row,eL 5 5 a0 Y4.row,eI 6 (a0.length:Int),eI 7 (J:Int)]) (fun n1 J=>a0.length<n1+J/\J<=a0.length) (a0.length+1) 0 (fun p1 J e1 j1=>?_);refine cFf e1 ?_ ?_<;>intro k2 h1 e1
 ·have i1:=ix h1;have m2:=ml a0 (k2 0 _ rfl);have w1:=wr J;simp[i1,ZD];refine rpS ?_;refine dIs mixed ?_;refine cRs (Ah (nth a0 J)) ?_;refine gIf ?_ ?_<;>intro G
  ·have i2:=ik (J-1) a0;have w2:IntKind.i64.wrap ((J:Int)-1)=(J:Int)-1:=YX zAA zAA;simp[i2,ZD,w2,G];refine rpG ?_;refine cK e1 ?_ ?_<;>intro k4 h2 e1
   ·exact rtg [.tmp 2] (ms f e1)
   ·exact ny1 (an w1 (an w2 G)) e1
  ·refine cK e1 ?_ ?_<;>intro k5 h3 e1
   ·exact rtg [.tmp 2] (ms f e1)
   ·exact ny1 (an w1 G) e1
 exact rt [.tmp 2] (ms f e1)
theorem P7(a0:List Zi):Sa 189 [rL 3 Zi.row a0] [rB (WD a0)]:=by
 have f:=me (WD.eq_1 a0);refine so func189 ntmps189 ?_;refine lp1 (ju.eq_2 a0) (fun J=>Yx 47 [eL 0 3 a0 Zi.row,eL 5 3 a0 Zi.row,eI 6 (a0.length:Int),eI 7 (J:Int)]) (fun n1 J=>a0.length<n1+J/\J<=a0.length) (a0.length+1) 0 (fun p1 J e1 j1=>?_);refine cFf e1 ?_ ?_<;>intro k2 h1 e1
 ·have i1:=ix h1;have m2:=ml a0 (k2 0 _ rfl);have w1:=wr J;simp[i1,ZD];refine rpS ?_;refine dIs mixed ?_;refine cRs (Zv (nth a0 J).Id 0 99) ?_;refine cGs (fun gg=>Zv (nth a0 J).Key 1 99) ?_;refine cGs (fun gg=>Zv (nth a0 J).Error 0 100) ?_;refine gIf ?_ ?_<;>intro G
  ·have i2:=ik (J-1) a0;have w2:IntKind.i64.wrap ((J:Int)-1)=(J:Int)-1:=YX zAA zAA;simp[i2,ZD,w2,G];refine rpG ?_;refine cKo e1 ?_ ?_<;>intro k4 h2 e1
   ·have q2:=h2;try simp[ZX]at q2
    have f:=ms f e1;simp;refine rpG ?_;exact rtg [.tmp 2] f
   ·have q2:=h2;try simp[ZX]at q2
    simp;refine rpG ?_;exact ny1 (an w1 (an w2 G)) e1
  ·refine cKo e1 ?_ ?_<;>intro k5 h3 e1
   ·have q3:=h3;try simp[ZX]at q3
    have f:=ms f e1;simp;refine rpG ?_;exact rtg [.tmp 2] f
   ·have q3:=h3;try simp[ZX]at q3
    simp;refine rpG ?_;exact ny1 (an w1 G) e1
 exact rt [.tmp 2] (ms f e1)
theorem Fc(a0:YH):Sa 252 [a0.row] [rB (NG a0)]:=by
 have f:=me (NG.eq_1 a0);refine so func252 ntmps252 ?_;refine cRs (Zv a0.Id 0 99) ?_;refine cGs (fun gg=>zI a0.Lz) ?_;refine cGs (fun gg=>Zv a0.Ends 1 10001) ?_;refine cGs (fun gg=>Zv a0.On 1 10001) ?_;exact rt [.tmp 2] f
theorem I8(a0:List YH):Sa 190 [rL 4 YH.row a0] [rB (Sj a0)]:=by
 have f:=me (Sj.eq_1 a0);refine so func190 ntmps190 ?_;refine lp1 (UL.eq_2 a0) (fun J=>Yx 34 [eL 0 4 a0 YH.row,eL 5 4 a0 YH.row,eI 6 (a0.length:Int),eI 7 (J:Int)]) (fun n1 J=>a0.length<n1+J/\J<=a0.length) (a0.length+1) 0 (fun p1 J e1 j1=>?_);refine cFf e1 ?_ ?_<;>intro k2 h1 e1
 ·have i1:=ix h1;have m2:=ml a0 (k2 0 _ rfl);have w1:=wr J;simp[i1,ZD];refine rpS ?_;refine dIs mixed ?_;refine cRs (Fc (nth a0 J)) ?_;refine gIf ?_ ?_<;>intro G
  ·have i2:=ik (J-1) a0;have w2:IntKind.i64.wrap ((J:Int)-1)=(J:Int)-1:=YX zAA zAA;simp[i2,ZD,w2,G];refine rpG ?_;refine cK e1 ?_ ?_<;>intro k4 h2 e1
   ·exact rtg [.tmp 2] (ms f e1)
   ·exact ny1 (an w1 (an w2 G)) e1
  ·refine cK e1 ?_ ?_<;>intro k5 h3 e1
   ·exact rtg [.tmp 2] (ms f e1)
   ·exact ny1 (an w1 G) e1
 exact rt [.tmp 2] (ms f e1)
theorem NN(a0:ZO):Sa 118 [a0.row] [rB (yY a0)]:=by
 have f:=me (yY.eq_1 a0);refine so func118 ntmps118 ?_;refine cRs (Cf a0.Zt) ?_;refine cGs (fun gg=>P7 a0.ZC) ?_;refine cGs (fun gg=>I8 a0.Methods) ?_;refine cGs (fun gg=>Zv a0.XJ 0 6) ?_;refine cGs (fun gg=>zI a0.Now) ?_;exact rt [.tmp 2] f
theorem OF(a0:YN):Sa 254 [a0.row] [(JI a0).row]:=by
 have f:=me (JI.eq_1 a0);refine so func254 ntmps254 ?_;exact rt [.cell 2 60] f
theorem Kb(a0:Ze):Sa 253 [a0.row] [rB (Y7 a0)]:=by
 have f:=me (Y7.eq_1 a0);refine so func253 ntmps253 ?_;refine cRs (zI a0.XH) ?_;refine cGs (fun gg=>zI a0.To) ?_;exact rt [.tmp 2] f
theorem Bm(a0:YN):Sa 191 [a0.row] [rB (Rf a0)]:=by
 have f:=me (Rf.eq_1 a0);refine so func191 ntmps191 ?_;refine cRs (Zv a0.Za 1 999) ?_;refine cGs (fun gg=>Zv a0.Key 1 99) ?_;refine cGs (fun gg=>Zv a0.Z4 1 99) ?_;refine cGs (fun gg=>Zv a0.jE 0 99) ?_;refine cGs (fun gg=>OF a0) ?_;refine cGs (fun gg=>Kb (JI a0)) ?_;exact rt [.tmp 2] f
theorem J1(a0:List Y4)(a1:Int)(a2:List Int)(a3:Int)(u0:Sm 2318336 a0)(u1:Sm 2318336 a2):Sa 192 [rL 5 Y4.row a0,rI a1,rL 1 iR a2,rI a3] [rB (KW a0 a1 a2 a3)]:=by
 have f:=me (KW.eq_1 a0 a1 a2 a3);refine so func192 ntmps192 ?_;refine cRs (TB a0 a1 a2 (sg u0) (sg u1)) ?_;exact rt [.tmp 8] f
theorem MQ(a0:List Y4)(a1:Int):Sa 194 [rL 5 Y4.row a0,rI a1] [rI (Pc a0 a1)]:=by
 have f:=me (Pc.eq_1 a0 a1);refine so func194 ntmps194 ?_;refine cRs (Jz a0 a1) ?_;refine cFf f ?_ ?_<;>intro k1 h1 f
 ·have i1:(Z6 a0 a1).toNat<a0.length:=by have:=zz a0 a1;exact il
  simp[i1,ZD];refine rpS ?_;exact rt [.tmp 4] f
 exact rt [.tmp 4] f
theorem PV(a0:List Y4)(a1:YN)(u0:Sm 2314240 a0):Sa 119 [rL 5 Y4.row a0,a1.row] [rB (xD a0 a1)]:=by
 have f:=me (xD.eq_1 a0 a1);refine so func119 ntmps119 ?_;refine dIs mixed ?_;refine cRs (Bm a1) ?_;refine cGs (fun gg=>Yg.rd (Og a1)) ?_;refine cGs (fun gg=>J1 a0 a1.Z4 (yR a1) a1.Mark (sg u0) (by simp(maxDischargeDepth:=12) [OC];try omega)) ?_;refine cGs (fun gg=>MQ a0 a1.Key) ?_;exact rt [.tmp 4] f
theorem jB(h:b)(k:a:=by(intros;first|omega|with_unfolding_all (first|first|omega|(have o:(nth a0.ZA iI).ZB.length<=2310144:=YQ (xs u0);have o2:a0.ZA.length<=2310144:=YQ (xs u0);omega))|((try simp only[Y0,show ∀x,IntKind.i64.wrap x=W x from fun _=>rfl]at*);omega))):a/\b:=⟨k,h⟩
theorem xU(h:b)(k:a:=by(intros;first|omega|with_unfolding_all (first|first|omega|(have o:(nth a0.ZA iI).ZB.length<=2310144:=YQ (xs u0);have o2:a0.ZA.length<=2310144:=YQ (xs u0);omega))|(simp_all;done)|(simp_all;omega)|grind|((try simp only[Y0,show ∀x,IntKind.i64.wrap x=W x from fun _=>rfl]at*);omega))):a/\b:=⟨k,h⟩
theorem Ct(a0:ZF)(u0:Sm 2310144 a0):Sa 51 [a0.row] [rB (Vy a0)]:=by
 have f:=me (Vy.eq_1 a0);refine so func51 ntmps51 ?_;refine cRs (NN a0.Frame) ?_;refine cGs (fun gg=>Zv (a0.ZA.length:Int) 1 4) ?_;refine cGs (fun gg=>UT a0.Yc) ?_;refine cGs (fun gg=>UT a0.YL) ?_;refine cFo f ?_ ?_<;>intro k1 h1 f
 ·have q1:=h1;try simp[ZX]at q1
  simp;exact rt [.tmp 2] f
 have q1:=h1;try simp[ZX]at q1
 simp;refine lp1 (Wp.eq_2 a0) (fun J=>Yx 167 [eX 1 (a0.row.map .d),eX 3 (a0.Frame.row.map .d),eL 71 7 a0.Zd YN.row,eI 72 (a0.Zd.length:Int),eI 73 (J:Int)]) (fun n1 J=>a0.Zd.length<n1+J/\J<=a0.Zd.length) (a0.Zd.length+1) 0 (fun p1 J e1 j1=>?_);try dsimp only at j1
 refine cFf e1 ?_ ?_<;>intro k3 h2 e1
 ·have i1:=ix h2;have m2:=ml a0.Zd (k3 71 _ rfl);have c1:=sl 2310144 a0.Zd u0;have w1:=wr J;simp[i1,ZD];repeat with_reducible refine jB ?_
  refine cRs (PV a0.Frame.Zt (nth a0.Zd J) (sg (ZO.Xb (ZF.Xr u0)))) ?_;refine cGs (fun gg=>OU a0.Zd (nth a0.Zd J).Za) ?_;refine gIo ?_ ?_<;>intro G
  ·have fD:=G;have g1:=G;try simp at g1
   have i2:=ik J a0.Zw;simp[i2,ZD,G];repeat with_reducible refine xU ?_
   refine cGo (fun gg=>Zv (nth a0.Zw J) (-1) 10001) ?_;simp[G];repeat with_reducible refine xU ?_
   refine cKo e1 ?_ ?_<;>intro k4 h3 e1
   ·have q3:=h3;try simp[ZX]at q3
    have f:=ms f e1;simp[G];repeat with_reducible refine xU ?_
    exact rtg [.tmp 2] f
   ·have q3:=h3;try simp[ZX]at q3
    simp[G];repeat with_reducible refine xU ?_
    exact ny1 (an w1 G) e1
  ·have fD:=G;simp[G];repeat with_reducible refine xU ?_
   refine sGo ?_;simp[G];repeat with_reducible refine xU ?_
   refine cKo e1 ?_ ?_<;>intro k5 h4 e1
   ·have q4:=h4;try simp[ZX]at q4
    have f:=ms f e1;simp[G];repeat with_reducible refine xU ?_
    exact rtg [.tmp 2] f
   ·simp[G]at h4
 have c2:=sl 2310144 a0.Zd u0;have f:=ms f e1;refine lp2 (xF.eq_2 a0) (fun iF iI=>Yx 167 [eX 1 (a0.row.map .d),eX 3 (a0.Frame.row.map .d),(6,.one (.sref 6 0 0 iF.length),[.arr false 1 (iF.map iR)]),eL 103 2 a0.ZA ZE.row,eI 104 (a0.ZA.length:Int),eI 105 (iI:Int)]) (fun n2 iF iI=>a0.ZA.length<n2+iI/\iF.length<=2310144*iI) (a0.ZA.length+1) ([]:List Int) 0 (fun p2 iF iI e2 j2=>?_) (h0:=wkS [((6,0),none)] []);try dsimp only at j2
 refine cFf e2 ?_ ?_<;>intro k7 h5 e2
 ·have i4:=ix h5;have m4:=ml a0.ZA (k7 103 _ rfl);have c3:=sl 2310144 a0.ZA u0;have w2:=wr iI;simp[i4,ZD];repeat with_reducible refine jB ?_
  refine cRs (y6 (nth a0.ZA iI)) ?_;refine cF e2 ?_ ?_<;>intro k8 h6 e2
  ·exact rt [.tmp 2] (ms f e2)
  refine lp2 (z9.eq_2 a0 iI) (fun hH hG=>Yx 167 [eX 1 (a0.row.map .d),eX 3 (a0.Frame.row.map .d),(6,.one (.sref 6 0 0 hH.length),[.arr false 1 (hH.map iR)]),eL 103 2 a0.ZA ZE.row,eI 104 (a0.ZA.length:Int),eI 105 (iI:Int),eL 120 16 (nth a0.ZA iI).ZB ZN.row,eI 121 ((nth a0.ZA iI).ZB.length:Int),eI 122 (hG:Int)]) (fun n3 hH hG=>(nth a0.ZA iI).ZB.length<n3+hG/\hG<=(nth a0.ZA iI).ZB.length/\hH.length<=2310144*iI+hG) ((nth a0.ZA iI).ZB.length+1) iF 0 (fun p3 hH hG e3 j3=>?_);try dsimp only at j3
  refine cFf e3 ?_ ?_<;>intro aZ h7 e3
  ·have i5:=ix h7;have m6:=ml (nth a0.ZA iI).ZB (aZ 120 _ rfl);have c4:=sl 2310144 (nth a0.ZA iI).ZB u0;have w3:=wr hG;simp[i5,ZD];repeat with_reducible refine jB ?_
   refine cRs (Wj hH (nth (nth a0.ZA iI).ZB hG).Id) ?_;refine cFt e3 ?_ ?_<;>intro k11 h8 e3
   ·have e2:=ms e2 e3;exact rt [.tmp 2] (ms f e2)
   simp;repeat with_reducible refine jB ?_
   exact nx2 e3 (hI:=by(have o:(nth a0.ZA iI).ZB.length<=2310144:=YQ (xs u0);first|omega|(simp at*;omega))) (hw:=XO [((6,0),some (141,0))] [] rfl (by simp[w2,w3]))
  have c5:=sl 2310144 (nth a0.ZA iI).ZB u0;have e2:=ms e2 e3;exact ny2 w2 e2 (hI:=by(have o:(nth a0.ZA iI).ZB.length<=2310144:=YQ (xs u0);first|omega|(simp at*;omega)))
 have c6:=sl 2310144 a0.ZA u0;have f:=ms f e2;refine lp1 (Wv.eq_2 a0) (fun fJ=>Yx 167 [eX 1 (a0.row.map .d),eX 3 (a0.Frame.row.map .d),eL 145 1 a0.Y2 iR,eI 146 (a0.Y2.length:Int),eI 147 (fJ:Int)]) (fun n4 fJ=>a0.Y2.length<n4+fJ/\fJ<=a0.Y2.length) (a0.Y2.length+1) 0 (fun p4 fJ e4 j4=>?_);try dsimp only at j4
 refine cFf e4 ?_ ?_<;>intro aY h9 e4
 ·have i6:=ix h9;have m8:=ml a0.Y2 (aY 145 _ rfl);have c7:=sl 2310144 a0.Y2 u0;have w4:=wr fJ;simp[i6,ZD];repeat with_reducible refine jB ?_
  refine cF e4 ?_ ?_<;>intro k14 cA e4
  ·exact rt [.tmp 2] (ms f e4)
  exact ny1 w4 e4
 have c8:=sl 2310144 a0.Y2 u0;have f:=ms f e4;refine lp1 (W1.eq_2 a0) (fun ed=>Yx 167 [eX 3 (a0.Frame.row.map .d),eL 155 1 a0.Yc iR,eI 156 (a0.Yc.length:Int),eI 157 (ed:Int)]) (fun n5 ed=>a0.Yc.length<n5+ed/\ed<=a0.Yc.length) (a0.Yc.length+1) 0 (fun p5 ed e5 j5=>?_);try dsimp only at j5
 refine cFf e5 ?_ ?_<;>intro k16 h11 e5
 ·have i7:=ix h11;have m10:=ml a0.Yc (k16 155 _ rfl);have c9:=sl 2310144 a0.Yc u0;have w5:=wr ed;simp[i7,ZD];repeat with_reducible refine jB ?_
  refine cRs (zZ a0.Frame.ZC (nth a0.Yc ed)) ?_;refine cF e5 ?_ ?_<;>intro k17 h12 e5
  ·exact rt [.tmp 2] (ms f e5)
  exact ny1 w5 e5
 have c10:=sl 2310144 a0.Yc u0;exact rt [.tmp 2] (ms f e5)
theorem Dy(h:b)(k:a:=by(intros;first|omega|with_unfolding_all (first|(have d:=BD (l:=a0.ZA) (i:=U) zAY;omega))|((try simp only[Y0,show ∀x,IntKind.i64.wrap x=W x from fun _=>rfl]at*);omega))):a/\b:=⟨k,h⟩
theorem D1(a0:ZF)(u0:Sm 2342912 a0)(u1:itn a0.ZA<=1048576):So 25 [a0.row] [rL 16 ZN.row (Q0 a0)]:=by
 have f:=me (Q0.eq_1 a0);refine so func25 ntmps25 ?_;refine lp2 (TK.eq_2 a0) (fun J U=>Yx 19 [(3,.one (.sref 3 0 0 J.length),[.arr false 16 (J.map ZN.row)]),eL 7 2 a0.ZA ZE.row,eI 8 (a0.ZA.length:Int),eI 9 (U:Int)]) (fun n1 J U=>a0.ZA.length<n1+U/\U<=a0.ZA.length/\J.length+itn (a0.ZA.drop U)<=1048576) (a0.ZA.length+1) ([]:List ZN) 0 (fun p1 J U e1 j1=>?_) (hI:=by((try dsimp only);simp only[List.length_nil,List.drop_zero];omega)) (h0:=wkS [((3,0),none)] []);refine cFf e1 ?_ ?_<;>intro k2 h1 e1
 ·have i1:=ix h1;have m2:=ml a0.ZA (k2 7 _ rfl);have c1:=sl 2342912 a0.ZA (an u0 u1);have w1:=wr U;simp[i1,ZD];refine evI rfl rfl rfl ?_;have c2:=sl 2342912 (nth a0.ZA U).ZB (an u0 u1);simp;repeat with_reducible refine Dy ?_
  exact nx2 e1 (hI:=by(have d:=BD (l:=a0.ZA) (i:=U) zAY;(try dsimp only);simp only[List.length_append];omega)) (hw:=XO [((3,0),some (16,0))] [] rfl zAd)
 exact rtO [.tmp 2] (ms f e1)
theorem Nt(a0:ZN)(u0:Sm 2326528 a0):Sd 74 [a0.row] [(ZU a0).row]:=by
 have f:=me (ZU.eq_1 a0);refine soD func74 ntmps74 ?_;refine cDs [] (zP a0.ZG (sg (ZN.XY u0))) ?_;refine vS (news:=([a0.ZG]:List ZW).map ZW.row) (L:=[(5,0),(5,1)]) rfl rfl rfl rfl zAE zAE zAE zAE zAE zAE ?_;simp;exact rtD [.cell 2 115] f
theorem VB(a0:ZW)(a1:ZR)(u0:Sm 2318336 a0)(u1:Sm 2318336 a1):Sd 13 [a0.row,a1.row] [rL 1 iR (XU a0 a1)]:=by
 have f:=me (XU.eq_1 a0 a1);refine soD func13 ntmps13 ?_;refine lp2 (zQ.eq_2 a0 a1) (fun J U=>Yx 24 [eX 3 (a1.row.map .d),(5,.one (.sref 5 0 0 J.length),[.arr false 1 (J.map iR)]),eL 9 5 a0.ZM Zb.row,eI 10 (a0.ZM.length:Int),eI 11 (U:Int)]) (fun n1 J U=>a0.ZM.length<n1+U/\U<=a0.ZM.length/\J.length<=0+1*U) (a0.ZM.length+1) ([]:List Int) 0 (fun p1 J U e1 j1=>?_) (h0:=wkS [((5,0),none)] []);refine cFf e1 ?_ ?_<;>intro k2 h1 e1
 ·have i1:=ix h1;have m2:=ml a0.ZM (k2 9 _ rfl);have c1:=sl 2318336 a0.ZM (an u0 u1);have w1:=wr U;simp[i1,ZD];refine rpS ?_;refine cRs (yW (nth a0.ZM U).Method a1 (sg u1)) ?_;exact nx2 e1 (hw:=XO [((5,0),some (21,0))] [] rfl zAd)
 exact rtD [.tmp 4] (ms f e1)
theorem Ot(a0:Z9)(a1:ZR)(u0:Sm 2314240 a0)(u1:Sm 2314240 a1):Sd 137 [a0.row,a1.row] [rL 1 (slR 1 iR) (Z3 a0 a1)]:=by
 have f:=me (Z3.eq_1 a0 a1);refine soD func137 ntmps137 ?_;refine lp2 (Ko.eq_2 a0 a1) (fun J U=>Yx 23 [eX 3 (a1.row.map .d),(5,.one (.sref 5 0 0 J.length),[.arr true 1 (J.map (slR 1 iR))]),eL 9 2 a0.Z8 ZW.row,eI 10 (a0.Z8.length:Int),eI 11 (U:Int)]) (fun n1 J U=>a0.Z8.length<n1+U/\U<=a0.Z8.length/\J.length<=U) (a0.Z8.length+1) ([]:List (List Int)) 0 (fun p1 J U e1 j1=>?_) (h0:=wkS [((5,0),none)] []);refine cFf e1 ?_ ?_<;>intro k2 h1 e1
 ·have i1:=ix h1;have m2:=ml a0.Z8 (k2 9 _ rfl);have c1:=sl 2314240 a0.Z8 (an u0 u1);have w1:=wr U;simp[i1,ZD];refine cDs [false] (VB (nth a0.Z8 U) a1 (sg (Zr (Z9.Qt u0))) (sg u1)) ?_;refine kI ?_;simp;refine mE (iJ:=J.map (slR 1 iR)) (news:=([XU (nth a0.Z8 U) a1]:List (List Int)).map (slR 1 iR)) (l1:=[(5,0)]) (l2:=[(18,0)]) (size:=1) rfl rfl rfl rfl zAE zAE zAE zAE zAE (by simp;(first|omega|(have z:=YQ (Z9.Qt u0);omega))) ?_;simp;exact nx2 e1 (hw:=XO [((5,0),some (20,0))] [] rfl zAd)
 exact rtD [.tmp 4] (ms f e1)
theorem V0(a0:Int):Sa 208 [rI a0] [(SP a0).row]:=by
 have f:=me (SP.eq_1 a0);refine so func208 ntmps208 ?_;exact rt [.cell 2 62] f
theorem SS(a0:Int):Sa 210 [rI a0] [(Vu a0).row]:=by
 have f:=me (Vu.eq_1 a0);refine so func210 ntmps210 ?_;exact rt [.cell 2 62] f
theorem P8(a0:List Y4)(a1:Zl)(u0:Sm 2314240 a0):Sa 211 [rL 5 Y4.row a0,a1.row] [rB (qt a0 a1)]:=by
 have f:=me (qt.eq_1 a0 a1);refine so func211 ntmps211 ?_;refine dIs mixed ?_;refine cRs (WM a1) ?_;refine cGs (fun gg=>Yg.rd (jq a1)) ?_;refine cGs (fun gg=>J1 a0 a1.Key (X0 a1) a1.Mark (sg u0) (by simp(maxDischargeDepth:=12) [je];try omega)) ?_;exact rt [.tmp 4] f
theorem Gl(a0:ZW)(a1:ZT):Sa 285 [a0.row,a1.row] [rI (zn a0 a1)]:=by
 have f:=me (zn.eq_1 a0 a1);refine so func285 ntmps285 ?_;refine lp1 (xn.eq_2 a0 a1) (fun J=>Yx 20 [eX 3 (a1.row.map .d),eL 8 3 a0.ZI ZT.row,eI 9 (a0.ZI.length:Int),eI 10 (J:Int)]) (fun n1 J=>a0.ZI.length<n1+J/\J<=a0.ZI.length) (a0.ZI.length+1) 0 (fun p1 J e1 j1=>?_);refine cFf e1 ?_ ?_<;>intro k2 h1 e1
 ·have i1:=ix h1;have m2:=ml a0.ZI (k2 8 _ rfl);have w1:=wr J;simp[i1,ZD];refine rpS ?_;refine cRs (WR (nth a0.ZI J) a1) ?_;refine cF e1 ?_ ?_<;>intro k3 h2 e1
  ·exact rt [.tmp 4] (ms f e1)
  exact ny1 w1 e1
 exact rt [.tmp 4] (ms f e1)
theorem Tj(a0 a1:Int):Sa 205 [rI a0,rI a1] [(zT a0 a1).1.row,rB (zT a0 a1).2]:=by
 have f:=me (zT.eq_1 a0 a1);refine so func205 ntmps205 ?_;refine cGs (fun gg=>Kb (Ze.mk (if 0>a0 then 0 else a0) (if 10000<a1 then 10000 else a1))) ?_;refine cF f ?_ ?_<;>intro k1 h1 f
 ·exact rt [.cell 4 60,.tmp 5] f
 exact rt [.cell 4 60,.tmp 5] f
theorem FT(a0:List Zi)(a1:Zm):Sa 132 [rL 3 Zi.row a0,a1.row] [(Xu a0 a1).1.row,rB (Xu a0 a1).2]:=by
 have f:=me (Xu.eq_1 a0 a1);refine so func132 ntmps132 ?_;refine cRs (zZ a0 a1.Authority) ?_;refine gIf ?_ ?_<;>intro G
 ·have i1:(ZY a0 a1.Authority).toNat<a0.length:=zBr;simp[i1,ZD,G];refine rpG ?_;refine cGg (fun gg=>zI a1.Time) ?_;refine cK f ?_ ?_<;>intro k1 h1 f
  ·try(simp[G]at h1;done)
   all_goals
    exact rtg [.cell 4 60,.tmp 5] f
  ·try(simp[G]at h1;done)
   all_goals
    refine dIo mixed ?_;simp[i1,ZD,G];refine rpG ?_;refine cRg (Tj (W (a1.Time-(nth a0 (ZY a0 a1.Authority).toNat).Error)) (W (a1.Time+(nth a0 (ZY a0 a1.Authority).toNat).Error))) ?_;exact rtg [.cell 4 60,.tmp 5] f
 ·refine cGg (fun gg=>zI a1.Time) ?_;refine cK f ?_ ?_<;>intro k3 h2 f
  ·try(simp[G]at h2;done)
   all_goals
    exact rtg [.cell 4 60,.tmp 5] f
  ·try(simp[G]at h2;done)
   all_goals
    refine dIo mixed ?_;have i3:(ZY a0 a1.Authority).toNat<a0.length:=zBr
    simp[i3,ZD,G];refine rpG ?_;refine cRg (Tj (W (a1.Time-(nth a0 (ZY a0 a1.Authority).toNat).Error)) (W (a1.Time+(nth a0 (ZY a0 a1.Authority).toNat).Error))) ?_;exact rtg [.cell 4 60,.tmp 5] f
theorem CQ(a0:List Ze)(a1:Int):Sa 262 [rL 2 Ze.row a0,rI a1] [rI (Pp a0 a1)]:=by
 have f:=me (Pp.eq_1 a0 a1);refine so func262 ntmps262 ?_;refine lp2 (jz.eq_2 a0 a1) (fun J U=>Yx 28 [eI 1 a1,eI 5 J,eL 8 2 a0 Ze.row,eI 9 (a0.length:Int),eI 10 (U:Int)]) (fun n1 J U=>a0.length<n1+U/\U<=a0.length) (a0.length+1) 0 0 (fun p1 J U e1 j1=>?_);refine cFf e1 ?_ ?_<;>intro k2 h1 e1
 ·have i1:=ix h1;have m2:=ml a0 (k2 8 _ rfl);have w1:=wr U;simp[i1,ZD];refine rpS ?_;refine cRs (Kb (nth a0 U)) ?_;refine cGs (fun gg=>Zv a1 (nth a0 U).XH (nth a0 U).To) ?_;refine cFo e1 ?_ ?_<;>intro k3 h2 e1
  ·have q2:=h2;try simp[ZX]at q2
   simp;exact ny2 w1 e1
  have q2:=h2;try simp[ZX]at q2
  simp;exact ny2 w1 e1
 exact rt [.tmp 4] (ms f e1)
theorem Mz(a0:List Ze)(a1 a2:Int):Sa 206 [rL 2 Ze.row a0,rI a1,rI a2] [rB (JR a0 a1 a2)]:=by
 have f:=me (JR.eq_1 a0 a1 a2);refine so func206 ntmps206 ?_;refine cRs (Zv a2 0 (W ((a0.length:Int)-1))) ?_;refine cGs (fun gg=>CQ a0 a1) ?_;exact rt [.tmp 6] f
theorem I0(a0:List Ze)(a1:Int):Sa 133 [rL 2 Ze.row a0,rI a1] [(Jo a0 a1).1.row,rB (Jo a0 a1).2]:=by
 have f:=me (Jo.eq_1 a0 a1);refine so func133 ntmps133 ?_;refine lp4 (J0.eq_2 a0 a1) (fun J U iD iG=>Yx 25 [eL 0 2 a0 Ze.row,eI 1 a1,(4,.one (.bptr 4 0),[.box [.d (.int .i64 0),.d (.int .i64 0)]]),(6,.one (.bptr 6 0),[.box [.d (.int .i64 iD),.d (.int .i64 iG)]]),eB 7 J,eI 8 (U:Int)]) (fun n1 J U iD iG=>10001<n1+U) 10002 false 0 0 0 (fun p1 J U iD iG e1 j1=>?_);refine cF e1 ?_ ?_<;>intro k2 h1 e1
 ·have w1:=wr U;refine cRs (Mz a0 (U:Int) a1) ?_;refine cF e1 ?_ ?_<;>intro k3 h2 e1
  ·refine cF e1 ?_ ?_<;>intro k4 h3 e1
   ·exact ny4 w1 e1
   exact ny4 w1 e1
  exact ny4 w1 e1
 exact rt [.cell 4 60,.tmp 5] (ms f e1)
theorem Ta(a0:List Zi)(a1:List Zm)(a2:Int)(u0:Sm 2318336 a0)(u1:Sm 2318336 a1):Sa 69 [rL 3 Zi.row a0,rL 5 Zm.row a1,rI a2] [(Qf a0 a1 a2).1.row,rB (Qf a0 a1 a2).2]:=by
 have f:=me (Qf.eq_1 a0 a1 a2);refine so func69 ntmps69 ?_;refine lp2 (yH.eq_2 a0 a1) (fun J U=>Yx 38 [eL 0 3 a0 Zi.row,eI 2 a2,(6,.one (.bptr 6 0),[.box [.d (.int .i64 0),.d (.int .i64 0)]]),(8,.one (.sref 8 0 0 J.length),[.arr false 2 (J.map Ze.row)]),eL 13 5 a1 Zm.row,eI 14 (a1.length:Int),eI 15 (U:Int)]) (fun n1 J U=>a1.length<n1+U/\U<=a1.length/\J.length<=0+1*U) (a1.length+1) ([]:List Ze) 0 (fun p1 J U e1 j1=>?_) (h0:=wkS [((8,0),none)] []);refine cFf e1 ?_ ?_<;>intro k2 h1 e1
 ·have i1:=ix h1;have m2:=ml a1 (k2 13 _ rfl);have c1:=sl 2318336 a1 (an u0 u1);have w1:=wr U;simp[i1,ZD];refine rpS ?_;refine cRs (FT a0 (nth a1 U)) ?_;refine cF e1 ?_ ?_<;>intro k3 h2 e1
  ·exact rt [.cell 6 60,.tmp 7] (ms f e1)
  exact nx2 e1 (hw:=XO [((8,0),some (31,0))] [] rfl zAd)
 have c2:=sl 2318336 a1 (an u0 u1);have f:=ms f e1;refine cRs (I0 J a2) ?_;exact rt [.cell 6 60,.tmp 7] f
theorem T8(a0:List Zi)(a1:Zb)(a2:Int)(u0:Sm 2314240 a0)(u1:Sm 2314240 a1):Sa 28 [rL 3 Zi.row a0,a1.row,rI a2] [(Yn a0 a1 a2).1.row,rB (Yn a0 a1 a2).2]:=by
 have f:=me (Yn.eq_1 a0 a1 a2);refine so func28 ntmps28 ?_;refine cRs (Ta a0 a1.YW a2 (sg u0) (sg (Zb.Ew u1))) ?_;exact rt [.cell 6 60,.tmp 7] f
theorem kY(a0:ZO)(a1:Zb)(u0:Sm 2310144 a0)(u1:Sm 2310144 a1):Sa 128 [a0.row,a1.row] [(J3 a0 a1).1.row,rB (J3 a0 a1).2]:=by
 have f:=me (J3.eq_1 a0 a1);refine so func128 ntmps128 ?_;refine cRs (T8 a0.ZC a1 a0.XJ (sg (ZO.XW u0)) (sg u1)) ?_;exact rt [.cell 4 60,.tmp 5] f
theorem Qu(h:b)(k:a:=by(intros;first|omega|with_unfolding_all (first|first|omega|(have cc:a0.ZM.length<=2318336:=YQ (xs u0);have z0:=fD;simp at z0;have z:=jU zAA z0.1;have z2:=z0.2;(try have w3:IntKind.i64.wrap (a2-1)=a2-1:=YX zAA zAA);(try have w4:W (a2-1)=a2-1:=w3);first|omega|(refine⟨⟨z0.1,zAA⟩,zAA,zAA⟩)|(simp_all;omega)))|(simp_all;done)|(simp_all;omega)|grind|((try simp only[Y0,show ∀x,IntKind.i64.wrap x=W x from fun _=>rfl]at*);omega))):a/\b:=⟨k,h⟩
theorem BK(a0:ZW)(a1:List Int)(a2:Int)(u0:Sm 2318336 a0)(u1:Sm 2318336 a1):Sa 130 [a0.row,rL 1 iR a1,rI a2] [rI (SH a0 a1 a2)]:=by
 have f:=me (SH.eq_1 a0 a1 a2);refine so func130 ntmps130 ?_;refine dIs mixed ?_;refine cRs (Zv a2 0 (W ((a0.ZM.length:Int)-1))) ?_;refine gIo ?_ ?_<;>intro G
 ·have fD:=G;have c1:=sl 2318336 a0.ZM (an u0 u1);have w1:IntKind.i64.wrap ((a0.ZM.length:Int)-1)=(a0.ZM.length:Int)-1:=YX zAA zAA;have g1:=G;try simp[ZX,w1]at g1
  have i1:a2.toNat<a0.ZM.length:=zAQ;simp[i1,ZD,G];refine zCH ?_;refine cGo (fun gg=>Zv (nth a0.ZM a2.toNat).Count 0 (a0.ZI.length:Int)) ?_;simp[G];refine zCH ?_;refine cKo f ?_ ?_<;>intro k2 h1 f
  ·have q1:=h1;try simp[ZX,w1]at q1
   simp[G];refine zCH ?_;exact rtg [.tmp 6] f
  ·have q1:=h1;try simp[ZX,w1]at q1
   simp[i1,ZD,G];refine zCH ?_;refine cKo f ?_ ?_<;>intro k3 h2 f
   ·simp[G];refine zCH ?_;refine dIo mixed ?_;have i2:(W (a2-1)).toNat<a0.ZM.length:=zAQ
    simp[i2,ZD,G];refine zCH ?_;refine cR (jf (nth a0.ZM a2.toNat).Method (nth a0.ZM (W (a2-1)).toNat) (sg (Zr (ZW.zR u0)))) ?_ (ij:=by first|(simp;done)|(simp[W,w1];done));simp[G];refine zCH ?_;refine dIo mixed ?_;have i3:a2.toNat<a1.length:=zAQ
    simp[i3,ZD,G];refine zCH ?_;refine cR (Ux (nth a0.ZM a2.toNat).Method (nth a1 a2.toNat) (a0.ZI.take (nth a0.ZM a2.toNat).Count.toNat) (JX (nth a0.ZM a2.toNat).Method (nth a0.ZM (W (a2-1)).toNat)) (ZQ (n:=2318336) zAD (xs (an u0 u1)))) ?_ (ij:=by first|(simp;done)|(simp[W,w1];done));simp[G];refine zCH ?_;exact rtg [.tmp 6] f
   ·simp[G];refine zCH ?_;refine dIo mixed ?_;have i4:a2.toNat<a1.length:=zAQ
    simp[i4,ZD,G];refine zCH ?_;refine cR (Ux (nth a0.ZM a2.toNat).Method (nth a1 a2.toNat) (a0.ZI.take (nth a0.ZM a2.toNat).Count.toNat) 0 (ZQ (n:=2318336) zAD (xs (an u0 u1)))) ?_;simp[G];refine zCH ?_;exact rtg [.tmp 6] f
 ·have fD:=G;simp[G];refine zCH ?_;refine sGo ?_;simp[G];refine zCH ?_;have c2:=sl 2318336 a0.ZM (an u0 u1);have w2:IntKind.i64.wrap ((a0.ZM.length:Int)-1)=(a0.ZM.length:Int)-1:=YX zAA zAA;refine cKo f ?_ ?_<;>intro k7 h3 f
  ·have q3:=h3;try simp[ZX,w2]at q3
   simp[G];refine zCH ?_;exact rtg [.tmp 6] f
  ·simp[G]at h3
theorem HV(a0 a1:Int)(a2:List X8):Sa 201 [rI a0,rI a1,rL 2 X8.row a2] [rI (S0 a0 a1 a2)]:=by
 have f:=me (S0.eq_1 a0 a1 a2);refine so func201 ntmps201 ?_;refine lp2 (kN.eq_2 a0 a2) (fun J U=>Yx 29 [eI 0 a0,eI 1 J,eL 9 2 a2 X8.row,eI 10 (a2.length:Int),eI 11 (U:Int)]) (fun n1 J U=>a2.length<n1+U/\U<=a2.length) (a2.length+1) a1 0 (fun p1 J U e1 j1=>?_);refine cFf e1 ?_ ?_<;>intro k2 h1 e1
 ·have i1:=ix h1;have m2:=ml a2 (k2 9 _ rfl);have w1:=wr U;simp[i1,ZD];refine rpS ?_;refine cF e1 ?_ ?_<;>intro k3 h2 e1
  ·refine cRs (VI a0 (nth a2 U).QL J) ?_;exact ny2 w1 e1
  refine cRs (VI a0 J (nth a2 U).QL) ?_;exact ny2 w1 e1
 exact rt [.tmp 6] (ms f e1)
theorem xM(a0:List Zm):Sa 202 [rL 5 Zm.row a0] [rB (Kv a0)]:=by
 have f:=me (Kv.eq_1 a0);refine so func202 ntmps202 ?_;refine lp1 (x1.eq_2 a0) (fun J=>Yx 22 [eL 0 5 a0 Zm.row,eI 3 (J:Int)]) (fun n1 J=>a0.length<n1+J/\1<=J) (a0.length+1) 1 (fun p1 J e1 j1=>?_);refine cF e1 ?_ ?_<;>intro k2 h1 e1
 ·have i1:=ix h1;have m2:=ml a0 (k2 0 _ rfl);have w1:=wr J;refine dIo mixed ?_;have i2:=ik (J-1) a0;have w2:IntKind.i64.wrap ((J:Int)-1)=(J:Int)-1:=YX zAA zAA;simp[i2,ZD,w2,i1];refine rpS ?_;refine cF e1 ?_ ?_<;>intro k4 h2 e1
  ·exact rt [.tmp 2] (ms f e1)
  exact ny1 (an w1 w2) e1
 exact rt [.tmp 2] (ms f e1)
theorem HA(a0:List Y4)(a1:List Zi)(a2:Zm)(u0:Sm 2314240 a0)(u1:Sm 2314240 a1):Sa 203 [rL 5 Y4.row a0,rL 3 Zi.row a1,a2.row] [rB (Sh a0 a1 a2)]:=by
 have f:=me (Sh.eq_1 a0 a1 a2);refine so func203 ntmps203 ?_;refine cRs (kS a0 a1 a2 (sg u0) (sg u1)) ?_;exact rt [.tmp 6] f
theorem MI(a0:List Y4)(a1:List Zi)(a2:Zb)(a3:Int)(u0:Sm 2310144 a0)(u1:Sm 2310144 a1)(u2:Sm 2310144 a2):Sa 129 [rL 5 Y4.row a0,rL 3 Zi.row a1,a2.row,rI a3] [rB (US a0 a1 a2 a3)]:=by
 have f:=me (US.eq_1 a0 a1 a2 a3);refine so func129 ntmps129 ?_;refine dIs mixed ?_;refine cGs (fun gg=>HV a2.Method a3 a2.Path) ?_;refine cGs (fun gg=>Zv (a2.YW.length:Int) 1 6) ?_;refine cGs (fun gg=>xM a2.YW) ?_;refine cFo f ?_ ?_<;>intro k2 h1 f
 ·have q1:=h1;try simp[ZX]at q1
  simp;exact rt [.tmp 8] f
 have q1:=h1;try simp[ZX]at q1
 simp;refine lp1 (WW.eq_2 a0 a1 a2) (fun J=>Yx 59 [eL 0 5 a0 Y4.row,eL 1 3 a1 Zi.row,eX 6 (a2.row.map .d),eL 40 5 a2.YW Zm.row,eI 41 (a2.YW.length:Int),eI 42 (J:Int)]) (fun n1 J=>a2.YW.length<n1+J/\J<=a2.YW.length) (a2.YW.length+1) 0 (fun p1 J e1 j1=>?_);refine cFf e1 ?_ ?_<;>intro k4 h2 e1
 ·have i1:=ix h2;have w1:=wr J;simp[i1,ZD];refine rpS ?_;refine cGs (fun gg=>HA a0 a1 (nth a2.YW J) (sg u0) (sg u1)) ?_;refine cF e1 ?_ ?_<;>intro k5 h3 e1
  ·exact rt [.tmp 8] (ms f e1)
  exact ny1 w1 e1
 exact rt [.tmp 8] (ms f e1)
theorem Tb(a0:List Zi)(a1:Zm):Sa 261 [rL 3 Zi.row a0,a1.row] [rI (X9 a0 a1)]:=by
 have f:=me (X9.eq_1 a0 a1);refine so func261 ntmps261 ?_;refine cRs (zZ a0 a1.Authority) ?_;refine cFf f ?_ ?_<;>intro k1 h1 f
 ·have i1:(ZY a0 a1.Authority).toNat<a0.length:=zBr;simp[i1,ZD];refine rpS ?_;exact rt [.tmp 4] f
 exact rt [.tmp 4] f
theorem Nk(a0:List Y4)(a1:List Zi)(a2:List YH)(a3:Zb):Sa 204 [rL 5 Y4.row a0,rL 3 Zi.row a1,rL 4 YH.row a2,a3.row] [rI (Jt a0 a1 a2 a3)]:=by
 have f:=me (Jt.eq_1 a0 a1 a2 a3);refine so func204 ntmps204 ?_;refine cRs (VQ a2 a3.Method) ?_;refine lp2 (yy.eq_2 a0 a1 a2 a3) (fun J U=>Yx 42 [eL 0 5 a0 Y4.row,eL 1 3 a1 Zi.row,eL 2 4 a2 YH.row,eI 9 J,eL 18 5 a3.YW Zm.row,eI 19 (a3.YW.length:Int),eI 20 (U:Int)]) (fun n1 J U=>a3.YW.length<n1+U/\U<=a3.YW.length) (a3.YW.length+1) (zL a2 a3.Method) 0 (fun p1 J U e1 j1=>?_);refine cFf e1 ?_ ?_<;>intro k2 h1 e1
 ·have i1:=ix h1;have m2:=ml a3.YW (k2 18 _ rfl);have w1:=wr U;simp[i1,ZD];refine rpS ?_;refine cRs (Tb a1 (nth a3.YW U)) ?_;refine cRs (Jz a0 (X9 a1 (nth a3.YW U))) ?_;refine cFt e1 ?_ ?_<;>intro k3 h2 e1
  ·exact rt [.tmp 8] (ms f e1)
  have i2:(Z6 a0 (X9 a1 (nth a3.YW U))).toNat<a0.length:=by have:=zz a0 (X9 a1 (nth a3.YW U));exact il
  simp[i2,ZD];refine rpS ?_;refine cRs (VQ a2 (nth a0 (Z6 a0 (X9 a1 (nth a3.YW U))).toNat).Method) ?_;exact ny2 w1 e1
 exact rt [.tmp 8] (ms f e1)
theorem R1(h:b)(k:a:=by(intros;first|omega|with_unfolding_all (first|(first|omega|(have mm:a1.ZM.length<=2306048:=YQ (xs u1);have ww:=Mt a1.ZM.length zAA;(try rw[ww]at q1);(try rw[ww]at q2);have w3:W (a2+1)=a2+1:=YX zAA zAA;have w4:IntKind.i64.wrap (a2+1)=a2+1:=w3;omega)))|((try simp only[Y0,show ∀x,IntKind.i64.wrap x=W x from fun _=>rfl]at*);omega))):a/\b:=⟨k,h⟩
theorem PG(a0:ZO)(a1:ZW)(a2:Int)(u0:Sm 2306048 a0)(u1:Sm 2306048 a1):Sa 131 [a0.row,a1.row,rI a2] [rB (yF a0 a1 a2)]:=by
 have f:=me (yF.eq_1 a0 a1 a2);refine so func131 ntmps131 ?_;refine cRs (Zv a2 0 (W ((a1.ZM.length:Int)-1))) ?_;have c1:=sl 2306048 a1.ZM (an u0 u1);have w1:IntKind.i64.wrap ((a1.ZM.length:Int)-1)=(a1.ZM.length:Int)-1:=YX zAA zAA;refine cFo f ?_ ?_<;>intro k1 h1 f
 ·have q1:=h1;try simp[ZX,w1]at q1
  simp;exact rt [.tmp 6] f
 have q1:=h1;try simp[ZX,w1]at q1
 simp;refine dIo mixed ?_;have i1:a2.toNat<a1.ZM.length:=zAl
 simp[i1,ZD];repeat with_reducible refine R1 ?_
 refine cRs (Nk a0.Zt a0.ZC a0.Methods (nth a1.ZM a2.toNat)) ?_;refine cFo f ?_ ?_<;>intro k3 h2 f
 ·have q2:=h2;try simp[w1]at q2
  simp;exact rt [.tmp 6] f
 have q2:=h2;try simp[w1]at q2
 simp;refine dIo mixed ?_;have i2:(W (a2+1)).toNat<a1.ZM.length:=zAl
 simp[i2,ZD];repeat with_reducible refine R1 ?_
 refine cRs (kY a0 (nth a1.ZM (W (a2+1)).toNat) (sg u0) (sg (Zr (ZW.zR u1)))) ?_ (ij:=by first|(simp;done)|(simp;done));exact rt [.tmp 6] f
theorem Rc(a0:ZO)(a1:ZW)(a2:List Int)(u0:Sm 2301952 a0)(u1:Sm 2301952 a1)(u2:Sm 2301952 a2):Sa 68 [a0.row,a1.row,rL 1 iR a2] [rI (Je a0 a1 a2)]:=by
 have f:=me (Je.eq_1 a0 a1 a2);refine so func68 ntmps68 ?_;refine okL fun k1=>?_;refine lp1 (K8.eq_2 a0 a1 a2) (fun J=>Yx 58 [eL 2 1 a2 iR,eX 3 (a0.row.map .d),eX 4 (a1.row.map .d),eI 7 (J:Int)]) (fun n1 J=>J<n1/\J<=a1.ZM.length) (a1.ZM.length+1) a1.ZM.length (fun p1 J e1 j1=>?_);refine cFo e1 ?_ ?_<;>intro k2 h1 e1
 ·have q1:=h1;try simp at q1
  have m1:=ml a1.ZM (k1 11 _ rfl);have w1:IntKind.i64.wrap ((J:Int)-1)=(J:Int)-1:=YX zAA zAA;have w2:((J-1:Nat):Int)=(J:Int)-1:=zAA;simp;refine dIo mixed ?_;have i2:=ik (J-1) a1.ZM;simp[i2,ZD,w1,NH];refine rpS ?_;refine cRs (kY a0 (nth a1.ZM (J-1)) (sg u0) (sg (Zr (ZW.zR u1)))) ?_;refine dIs mixed ?_;refine gIf ?_ ?_<;>intro G
  ·have fD:=G;have g1:=G;try simp at g1
   simp[i2,ZD,w1,NH,G];refine rpG ?_;refine vk rfl rfl rfl rfl rfl rfl (fun gg=>BK a1 a2 (W ((J:Int)-1)) (sg u1) (sg u2)) zAM zAM zAM zAM ?_;simp[G];refine rpG ?_;refine vk rfl rfl rfl rfl rfl rfl (fun gg=>MI a0.Zt a0.ZC (nth a1.ZM (J-1)) (SH a1 a2 (W ((J:Int)-1))) (sg (ZO.Xb u0)) (sg (ZO.XW u0)) (sg (Zr (ZW.zR u1)))) zAM zAM zAM zAM ?_;simp[G];refine rpG ?_;refine vk rfl rfl rfl rfl rfl rfl (fun gg=>PG a0 a1 (W ((J:Int)-1)) (sg u0) (sg u1)) zAM zAM zAM zAM ?_;simp[G];refine rpG ?_;refine cKo e1 ?_ ?_<;>intro k5 h2 e1
   ·have q2:=h2;try simp[w1,w2]at q2
    have f:=ms f e1;simp[G];refine rpG ?_;exact rtg [.tmp 6] f
   ·have q2:=h2;try simp[w1,w2]at q2
    simp[G];refine rpG ?_;exact ny1 (an w1 (an w2 G)) e1
  ·have fD:=G;refine sGo ?_;simp[G];refine rpG ?_;refine sGo ?_;simp[G];refine rpG ?_;refine vk rfl rfl rfl rfl rfl rfl (fun gg=>PG a0 a1 (W ((J:Int)-1)) (sg u0) (sg u1)) zAM zAM zAM zAM ?_;simp[G];refine rpG ?_;refine cKo e1 ?_ ?_<;>intro k6 h3 e1
   ·have q3:=h3;try simp[w1,w2]at q3
    have f:=ms f e1;simp[G];refine rpG ?_;exact rtg [.tmp 6] f
   ·simp[G]at h3
 have q1:=h1;try simp at q1
 have f:=ms f e1;simp;exact rt [.tmp 6] f
theorem CK(a0:ZO)(a1:ZW)(a2:List Int)(a3:Int)(u0:Sm 2297856 a0)(u1:Sm 2297856 a1)(u2:Sm 2297856 a2):Sa 286 [a0.row,a1.row,rL 1 iR a2,rI a3] [rI (zj a0 a1 a2 a3)]:=by
 have f:=me (zj.eq_1 a0 a1 a2 a3);refine so func286 ntmps286 ?_;refine cRs (Rc a0 a1 a2 (sg u0) (sg u1) (sg u2)) ?_;refine lp2 (zt.eq_2 a0 a1 a3) (fun J U=>Yx 49 [eI 3 a3,eX 4 (a0.row.map .d),eX 5 (a1.row.map .d),eI 9 J,eI 10 U]) (fun n1 J U=>(a1.ZM.length:Int)+1<n1+U/\0<=U/\U<=a1.ZM.length) (a1.ZM.length+2) a0.Now (Je a0 a1 a2) (fun p1 J U e1 j1=>?_) (hI:=by(have z:=HK a0 a1 a2;(try dsimp only);omega));refine cF e1 ?_ ?_<;>intro k2 h1 e1
 ·refine okD fun k3=>?_;refine dIo mixed ?_;have i1:=ik U.toNat a1.ZM
  simp[i1,ZD];refine rpS ?_;refine cRf i1 (kY a0 (nth a1.ZM U.toNat) (sg u0) (sg (Zr (ZW.zR u1)))) ?_;refine cF e1 ?_ ?_<;>intro k4 h2 e1
  ·exact nx2 e1 (hI:=by(have cc:a1.ZM.length<=2297856:=YQ (xs u1);have w2:W (U+1)=U+1:=YX (by simp at*;omega) (by simp at*;omega);(try dsimp only);rw[w2];simp at*;omega))
  exact nx2 e1 (hI:=by(have cc:a1.ZM.length<=2297856:=YQ (xs u1);have w2:W (U+1)=U+1:=YX (by simp at*;omega) (by simp at*;omega);(try dsimp only);rw[w2];simp at*;omega))
 exact rt [.tmp 8] (ms f e1)
theorem HT(a0:ZO)(a1:ZW)(a2:List Int)(a3:ZT)(u0:Sm 2293760 a0)(u1:Sm 2293760 a1)(u2:Sm 2293760 a2)(u3:Sm 2293760 a3):Sa 263 [a0.row,a1.row,rL 1 iR a2,a3.row] [rI (zq a0 a1 a2 a3)]:=by
 have f:=me (zq.eq_1 a0 a1 a2 a3);refine so func263 ntmps263 ?_;refine cRs (Gl a1 a3) ?_;refine cF f ?_ ?_<;>intro k1 h1 f
 ·exact rt [.tmp 8] f
 refine cRs (CK a0 a1 a2 (zn a1 a3) (sg u0) (sg u1) (sg u2)) ?_;exact rt [.tmp 8] f
theorem Uf(a0:ZO)(a1:Z9)(a2:List (List Int))(a3:ZT)(u0:Sm 2289664 a0)(u1:Sm 2289664 a1)(u2:Sm 2289664 a2)(u3:Sm 2289664 a3):Sa 212 [a0.row,a1.row,rL 1 (slR 1 iR) a2,a3.row] [rI (Zz a0 a1 a2 a3)]:=by
 have f:=me (Zz.eq_1 a0 a1 a2 a3);refine so func212 ntmps212 ?_;refine lp2 (yA.eq_2 a0 a1 a2 a3) (fun J U=>Yx 38 [eL 2 1 a2 (slR 1 iR),eX 4 (a0.row.map .d),eX 7 (a3.row.map .d),eI 9 J,eL 15 2 a1.Z8 ZW.row,eI 16 (a1.Z8.length:Int),eI 17 (U:Int)]) (fun n1 J U=>a1.Z8.length<n1+U/\U<=a1.Z8.length) (a1.Z8.length+1) a0.Now 0 (fun p1 J U e1 j1=>?_);refine cFf e1 ?_ ?_<;>intro k2 h1 e1
 ·have i1:=ix h1;have m2:=ml a1.Z8 (k2 15 _ rfl);have c1:=sl 2289664 a1.Z8 (an u0 (an u1 (an u2 u3)));have w1:=wr U;simp[i1,ZD];refine rpS ?_;refine cF e1 ?_ ?_<;>intro k3 h2 e1
  ·have i2:=ix h2;have w2:=wr U;refine dIo mixed ?_;simp[i2,ZD];refine rpS ?_;refine cRs (HT a0 (nth a1.Z8 U) (nth a2 U) a3 (sg u0) (sg (Zr (Z9.Qt u1))) (sg (Zr u2)) (sg u3)) ?_;exact ny2 w2 e1
  exact ny2 w1 e1
 exact rt [.tmp 8] (ms f e1)
theorem T7(a0:ZT):Sa 270 [a0.row] [(XB a0).1.row,rB (XB a0).2]:=by
 have f:=me (XB.eq_1 a0);refine so func270 ntmps270 ?_;refine dIs mixed ?_;refine cRs (zK a0) ?_;refine gIf ?_ ?_<;>intro G
 ·have fD:=G;have g1:=G;try simp at g1
  have i1:4<a0.YM.length:=zAH;simp[i1,ZD,G];refine rpG ?_;refine cK f ?_ ?_<;>intro k2 h1 f
  ·try(simp[G]at h1;done)
   all_goals
    exact rtg [.cell 2 127,.tmp 3] f
  ·try(simp[G]at h1;done)
   all_goals
    refine dIo mixed ?_;have i2:1<a0.YM.length:=zAH
    have i3:2<a0.YM.length:=zAH;have i4:3<a0.YM.length:=zAH;simp[i2,ZD,i3,i4,i1,G];refine rpG ?_;exact rtg [.cell 2 127,.tmp 3] f
 ·have fD:=G;refine cK f ?_ ?_<;>intro k4 h2 f
  ·try(simp[G]at h2;done)
   all_goals
    exact rtg [.cell 2 127,.tmp 3] f
  ·try(simp[G]at h2;done)
   all_goals
    refine dIo mixed ?_;have i6:1<a0.YM.length:=zAH
    have i7:2<a0.YM.length:=zAH;have i8:3<a0.YM.length:=zAH;have i9:4<a0.YM.length:=zAH;simp[i6,ZD,i7,i8,i9,G];refine rpG ?_;exact rtg [.cell 2 127,.tmp 3] f
theorem HN(a0:ZT):Sa 287 [a0.row] [(VP a0).1.row,rB (VP a0).2]:=by
 have f:=me (VP.eq_1 a0);refine so func287 ntmps287 ?_;refine cRs (zK a0) ?_;refine cF f ?_ ?_<;>intro k1 h1 f
 ·exact rt [.cell 2 135,.tmp 3] f
 refine dIo mixed ?_;have i1:1<a0.YM.length:=zAH
 have i2:2<a0.YM.length:=zAH;have i3:3<a0.YM.length:=zAH;have i4:4<a0.YM.length:=zAH;simp[i1,ZD,i2,i3,i4];refine rpS ?_;exact rt [.cell 2 135,.tmp 3] f
theorem FW(a0:ZT):Sa 288 [a0.row] [(Uv a0).1.row,rB (Uv a0).2]:=by
 have f:=me (Uv.eq_1 a0);refine so func288 ntmps288 ?_;refine dIs mixed ?_;refine cRs (zK a0) ?_;refine gIf ?_ ?_<;>intro G
 ·have fD:=G;have g1:=G;try simp at g1
  have i1:1<a0.YM.length:=zAH;simp[i1,ZD,G];refine rpG ?_;refine cK f ?_ ?_<;>intro k2 h1 f
  ·try(simp[G]at h1;done)
   all_goals
    exact rtg [.cell 2 46,.tmp 3] f
  ·try(simp[G]at h1;done)
   all_goals
    refine dIo mixed ?_;have i2:2<a0.YM.length:=zAH
    have i3:3<a0.YM.length:=zAH;have i4:4<a0.YM.length:=zAH;have i5:5<a0.YM.length:=zAH;have i6:6<a0.YM.length:=zAH;have i7:7<a0.YM.length:=zAH;have i8:8<a0.YM.length:=zAH;simp[i1,ZD,i2,i3,i4,i5,i6,i7,i8,G];refine rpG ?_;exact rtg [.cell 2 46,.tmp 3] f
 ·have fD:=G;refine cK f ?_ ?_<;>intro k4 h2 f
  ·try(simp[G]at h2;done)
   all_goals
    exact rtg [.cell 2 46,.tmp 3] f
  ·try(simp[G]at h2;done)
   all_goals
    refine dIo mixed ?_;have i10:1<a0.YM.length:=zAH
    have i11:2<a0.YM.length:=zAH;have i12:3<a0.YM.length:=zAH;have i13:4<a0.YM.length:=zAH;have i14:5<a0.YM.length:=zAH;have i15:6<a0.YM.length:=zAH;have i16:7<a0.YM.length:=zAH;have i17:8<a0.YM.length:=zAH;simp[i10,ZD,i11,i12,i13,i14,i15,i16,i17,G];refine rpG ?_;exact rtg [.cell 2 46,.tmp 3] f
theorem Uu(a0:ZT):Sa 275 [a0.row] [(Jp a0).1.row,rB (Jp a0).2]:=by
 have f:=me (Jp.eq_1 a0);refine so func275 ntmps275 ?_;refine dIs mixed ?_;refine cRs (zK a0) ?_;refine gIf ?_ ?_<;>intro G
 ·have fD:=G;have g1:=G;try simp at g1
  have i1:5<a0.YM.length:=zAH;simp[i1,ZD,G];refine rpG ?_;refine cK f ?_ ?_<;>intro k2 h1 f
  ·try(simp[G]at h1;done)
   all_goals
    exact rtg [.cell 2 273,.tmp 3] f
  ·try(simp[G]at h1;done)
   all_goals
    refine dIo mixed ?_;have i2:1<a0.YM.length:=zAH
    have i3:2<a0.YM.length:=zAH;have i4:3<a0.YM.length:=zAH;have i5:4<a0.YM.length:=zAH;simp[i2,ZD,i3,i4,i5,i1,G];refine rpG ?_;exact rtg [.cell 2 273,.tmp 3] f
 ·have fD:=G;refine cK f ?_ ?_<;>intro k4 h2 f
  ·try(simp[G]at h2;done)
   all_goals
    exact rtg [.cell 2 273,.tmp 3] f
  ·try(simp[G]at h2;done)
   all_goals
    refine dIo mixed ?_;have i7:1<a0.YM.length:=zAH
    have i8:2<a0.YM.length:=zAH;have i9:3<a0.YM.length:=zAH;have i10:4<a0.YM.length:=zAH;have i11:5<a0.YM.length:=zAH;simp[i7,ZD,i8,i9,i10,i11,G];refine rpG ?_;exact rtg [.cell 2 273,.tmp 3] f
theorem I6(a0:List Y4)(a1:ZT)(u0:Sm 2314240 a0)(u1:Sm 2314240 a1):Sa 265 [rL 5 Y4.row a0,a1.row] [rB (QT a0 a1)]:=by
 have f:=me (QT.eq_1 a0 a1);refine so func265 ntmps265 ?_;refine cRs (zK a1) ?_;refine cF f ?_ ?_<;>intro k1 h1 f
 ·refine cRs (UB a1) ?_;refine cGs (fun gg=>J1 a0 a1.Key a1.YM a1.Mark (sg u0) (sg (ZT.SW u1))) ?_;exact rt [.tmp 4] f
 refine cF f ?_ ?_<;>intro k2 h2 f
 ·refine cRs (T7 a1) ?_;refine cGs (fun gg=>J1 a0 a1.Key a1.YM a1.Mark (sg u0) (sg (ZT.SW u1))) ?_;exact rt [.tmp 4] f
 refine cF f ?_ ?_<;>intro k3 h3 f
 ·refine cRs (HN a1) ?_;refine cGs (fun gg=>J1 a0 a1.Key a1.YM a1.Mark (sg u0) (sg (ZT.SW u1))) ?_;exact rt [.tmp 4] f
 refine cF f ?_ ?_<;>intro k4 h4 f
 ·refine cRs (FW a1) ?_;refine cGs (fun gg=>J1 a0 a1.Key a1.YM a1.Mark (sg u0) (sg (ZT.SW u1))) ?_;exact rt [.tmp 4] f
 refine cF f ?_ ?_<;>intro k5 h5 f
 ·refine cRs (Uu a1) ?_;refine cGs (fun gg=>J1 a0 a1.Key a1.YM a1.Mark (sg u0) (sg (ZT.SW u1))) ?_;exact rt [.tmp 4] f
 refine cGs (fun gg=>J1 a0 a1.Key a1.YM a1.Mark (sg u0) (sg (ZT.SW u1))) ?_;exact rt [.tmp 4] f
theorem Mg(a0 a1:ZT):Sa 266 [a0.row,a1.row] [rB (Tk a0 a1)]:=by
 have f:=me (Tk.eq_1 a0 a1);refine so func266 ntmps266 ?_;refine lp1 (W9.eq_2 a0 a1) (fun J=>Yx 73 [eX 2 (a0.row.map .d),eX 3 (a1.row.map .d),eI 5 (J:Int)]) (fun n1 J=>a0.YM.length<n1+J/\J<=a0.YM.length) (a0.YM.length+1) 0 (fun p1 J e1 j1=>?_);refine cF e1 ?_ ?_<;>intro k2 h1 e1
 ·have i1:J<a0.YM.length:=zBw;have m2:=ml a0.YM (k2 8 _ rfl);have w1:=wr J;refine dIo mixed ?_;have i2:=ik J a1.YM;simp[i1,ZD,i2];refine rpS ?_;refine cF e1 ?_ ?_<;>intro k4 h2 e1
  ·refine okD fun k5=>?_;refine dIo mixed ?_;have f:=ms f e1
   simp[i1,ZD,i2];refine rpS ?_;exact rt [.tmp 4] f
  exact ny1 w1 e1
 have f:=ms f e1;refine cF f ?_ ?_<;>intro k6 h3 f
 ·exact rt [.tmp 4] f
 refine cF f ?_ ?_<;>intro k7 h4 f
 ·exact rt [.tmp 4] f
 exact rt [.tmp 4] f
theorem U0(h:b)(k:a:=by(intros;first|omega|with_unfolding_all (first|(first|omega|(simp_all;done)|(simp_all;omega)))|((try simp only[Y0,show ∀x,IntKind.i64.wrap x=W x from fun _=>rfl]at*);omega))):a/\b:=⟨k,h⟩
theorem Yd(h:b)(k:a:=by(intros;first|omega|with_unfolding_all (first|(first|omega|(simp_all;done)|(simp_all;omega)))|(simp_all;done)|(simp_all;omega)|grind|((try simp only[Y0,show ∀x,IntKind.i64.wrap x=W x from fun _=>rfl]at*);omega))):a/\b:=⟨k,h⟩
theorem N2(a0:ZO)(a1:Z9)(a2:List (List Int))(u0:Sm 2285568 a0)(u1:Sm 2285568 a1)(u2:Sm 2285568 a2)(u3:ph a1<=2097152):So 214 [a0.row,a1.row,rL 1 (slR 1 iR) a2] [rL 3 ZT.row (Zq a0 a1 a2)]:=by
 have f:=me (Zq.eq_1 a0 a1 a2);refine so func214 ntmps214 ?_;refine lp2 (zN.eq_2 a0 a1 a2) (fun J U=>Yx 79 [eL 2 1 a2 (slR 1 iR),eX 3 (a0.row.map .d),eX 4 (a1.row.map .d),(7,.one (.sref 7 0 0 J.length),[.arr false 3 (J.map ZT.row)]),eL 14 2 a1.Z8 ZW.row,eI 15 (a1.Z8.length:Int),eI 16 (U:Int)]) (fun n1 J U=>a1.Z8.length<n1+U/\U<=a1.Z8.length/\J.length+cnL (fun s:ZW=>s.ZI.length) (a1.Z8.drop U)<=2097152/\Sm 2285568 J) (a1.Z8.length+1) ([]:List ZT) 0 (fun p1 J U e1 j1=>?_) (hI:=by(have u:cnL (fun s:ZW=>s.ZI.length) a1.Z8<=2097152:=u3;(try dsimp only);refine⟨zAA,zAA,zAA,?_,⟨Nat.zero_le _,fun x hx=>by cases hx⟩⟩;rw[List.drop_zero];simp only[List.length_nil];omega)) (h0:=wkS [((7,0),none)] []);try dsimp only at j1
 refine cFo e1 ?_ ?_<;>intro k2 h1 e1
 ·have q1:=h1;try simp at q1
  have i1:=ix h1;have m2:=ml a1.Z8 (k2 14 _ rfl);have c1:=sl 2285568 a1.Z8 (an u0 (an u1 (an u2 u3)));have w1:=wr U;simp[i1,ZD];repeat with_reducible refine U0 ?_
  refine lp2 (QX.eq_2 a0 a1 a2 U) (fun iF iI=>Yx 79 [eL 2 1 a2 (slR 1 iR),eX 3 (a0.row.map .d),eX 4 (a1.row.map .d),(7,.one (.sref 7 0 0 iF.length),[.arr false 3 (iF.map ZT.row)]),eL 14 2 a1.Z8 ZW.row,eI 15 (a1.Z8.length:Int),eI 16 (U:Int),eL 21 3 (nth a1.Z8 U).ZI ZT.row,eI 22 ((nth a1.Z8 U).ZI.length:Int),eI 23 (iI:Int)]) (fun n2 iF iI=>(nth a1.Z8 U).ZI.length<n2+iI/\iI<=(nth a1.Z8 U).ZI.length/\iF.length+((nth a1.Z8 U).ZI.length-iI)+cnL (fun s:ZW=>s.ZI.length) (a1.Z8.drop (U+1))<=2097152/\Sm 2285568 iF) ((nth a1.Z8 U).ZI.length+1) J 0 (fun p2 iF iI e2 j2=>?_) (hI:=by(have d:=vC (l:=a1.Z8) (i:=U) zAY;refine⟨?_,?_,?_,?_,j1.2.2.2.2⟩<;>((try dsimp only);omega)));try dsimp only at j2
  refine cFo e2 ?_ ?_<;>intro k4 h2 e2
  ·have q2:=h2;try simp at q2
   have i2:=ix h2;have m4:=ml (nth a1.Z8 U).ZI (k4 21 _ rfl);have c2:=sl 2285568 (nth a1.Z8 U).ZI (an u0 (an u1 (an u2 u3)));have w2:=wr iI;simp[i2,ZD];repeat with_reducible refine U0 ?_
   refine dIs mixed ?_;refine cRs (Wd iF (nth (nth a1.Z8 U).ZI iI)) ?_;refine cGs (fun gg=>I6 a0.Zt (nth (nth a1.Z8 U).ZI iI) zAL zAL) ?_;refine cGs (fun gg=>Uf a0 a1 a2 (nth (nth a1.Z8 U).ZI iI) zAL zAL zAL zAL) ?_;refine cGs (fun gg=>VL a0 (nth (nth a1.Z8 U).ZI iI).Key) ?_;refine cFo e2 ?_ ?_<;>intro k6 h3 e2
   ·have q3:=h3;try simp at q3
    simp;exact ny2 (an w1 w2) e2 (hI:=by first|(refine⟨?_,?_,?_,?_,j2.2.2.2.2⟩<;>((try dsimp only);omega))|(have pk:Sm 2285568 (nth (nth a1.Z8 U).ZI iI):=Zr (ZW.QE (Zr (Z9.Qt u1)));obtain⟨q1,q2⟩:=D4 (z:=hH) j2.2.2.2.2 pk zAA;refine⟨?_,?_,?_,?_,q1⟩<;>((try dsimp only);omega)))
   have q3:=h3;try simp at q3
   simp;refine lp1 (yr.eq_2 a1 U iF iI) (fun hH=>Yx 79 [eL 2 1 a2 (slR 1 iR),eX 3 (a0.row.map .d),eX 4 (a1.row.map .d),(7,.one (.sref 7 0 0 iF.length),[.arr false 3 (iF.map ZT.row)]),eX 11 ((nth (nth a1.Z8 U).ZI iI).row.map .d),eI 12 (hH:Int),eL 14 2 a1.Z8 ZW.row,eI 15 (a1.Z8.length:Int),eI 16 (U:Int),eL 21 3 (nth a1.Z8 U).ZI ZT.row,eI 22 ((nth a1.Z8 U).ZI.length:Int),eI 23 (iI:Int)]) (fun n3 hH=>iF.length<n3+hH/\hH<=iF.length) (iF.length+1) 0 (fun p3 hH e3 j3=>?_);try dsimp only at j3
   refine dIs mixed ?_;refine gIo ?_ ?_<;>intro G
   ·have fD:=G;have g1:=G;try simp at g1
    have i3:=ik hH iF;simp[i3,ZD,G];refine zCF ?_;refine cGo (fun gg=>Mg (nth iF hH) (nth (nth a1.Z8 U).ZI iI)) ?_;simp[G];refine zCF ?_;refine cKo e3 ?_ ?_<;>intro k9 h4 e3
    ·have q4:=h4;try simp at q4
     have i4:hH<iF.length:=by(simp at h4;omega)
     have m6:=ml iF (k9 7 _ rfl);have w3:=wr hH;simp[G];refine zCF ?_;exact ny1 (an w1 (an w2 (an w3 G))) e3
    ·have q4:=h4;try simp at q4
     have e2:=ms e2 e3;simp[G];refine zCF ?_;refine dIo mixed ?_;simp[G];refine zCF ?_;refine evI rfl rfl rfl ?_;simp[G];refine zCF ?_;refine evI rfl rfl rfl ?_;simp[G];refine zCF ?_;refine cR (Yg.rd (jW (nth (nth a1.Z8 U).ZI iI) zAL)) ?_;simp[G];refine zCF ?_;refine evI rfl rfl rfl ?_;simp[G];refine zCF ?_;refine evI rfl rfl rfl ?_;simp[G];refine zCF ?_;refine evI rfl rfl rfl ?_;simp[G];refine zCF ?_;exact nx2 e2 (hI:=by first|(refine⟨?_,?_,?_,?_,j2.2.2.2.2⟩<;>((try dsimp only);omega))|(have pk:Sm 2285568 (nth (nth a1.Z8 U).ZI iI):=Zr (ZW.QE (Zr (Z9.Qt u1)));obtain⟨q1,q2⟩:=D4 (z:=hH) j2.2.2.2.2 pk zAA;refine⟨?_,?_,?_,?_,q1⟩<;>((try dsimp only);omega))) (hw:=XO [((7,0),some (75,0))] [] rfl (by simp[w1,w2,G]))
   ·have fD:=G;simp[G];refine zCF ?_;refine sGo ?_;simp[G];refine zCF ?_;refine cKo e3 ?_ ?_<;>intro k11 h5 e3
    ·simp[G]at h5
    ·have q5:=h5;try simp at q5
     have e2:=ms e2 e3;simp[G];refine zCF ?_;refine dIo mixed ?_;simp[G];refine zCF ?_;refine evI rfl rfl rfl ?_;simp[G];refine zCF ?_;refine evI rfl rfl rfl ?_;simp[G];refine zCF ?_;refine cR (Yg.rd (jW (nth (nth a1.Z8 U).ZI iI) zAL)) ?_;simp[G];refine zCF ?_;refine evI rfl rfl rfl ?_;simp[G];refine zCF ?_;refine evI rfl rfl rfl ?_;simp[G];refine zCF ?_;refine evI rfl rfl rfl ?_;simp[G];refine zCF ?_;exact nx2 e2 (hI:=by first|(refine⟨?_,?_,?_,?_,j2.2.2.2.2⟩<;>((try dsimp only);omega))|(have pk:Sm 2285568 (nth (nth a1.Z8 U).ZI iI):=Zr (ZW.QE (Zr (Z9.Qt u1)));obtain⟨q1,q2⟩:=D4 (z:=hH) j2.2.2.2.2 pk zAA;refine⟨?_,?_,?_,?_,q1⟩<;>((try dsimp only);omega))) (hw:=XO [((7,0),some (75,0))] [] rfl (by simp[w1,w2,G]))
  have q2:=h2;try simp at q2
  have c3:=sl 2285568 (nth a1.Z8 U).ZI (an u0 (an u1 (an u2 u3)));have e1:=ms e1 e2;simp;exact ny2 w1 e1 (hI:=by(refine⟨?_,?_,?_,?_,j2.2.2.2.2⟩<;>((try dsimp only);omega)))
 have q1:=h1;try simp at q1
 have c4:=sl 2285568 a1.Z8 (an u0 (an u1 (an u2 u3)));have f:=ms f e1;simp;exact rtO [.tmp 6] f
theorem CL(a0:ZO)(a1:List ZT)(a2:Zl)(u0:Sm 2310144 a0)(u1:Sm 2310144 a1):Sa 215 [a0.row,rL 3 ZT.row a1,a2.row] [(Qm a0 a1 a2).1.row,rB (Qm a0 a1 a2).2]:=by
 have f:=me (Qm.eq_1 a0 a1 a2);refine so func215 ntmps215 ?_;refine lp9 (j6.eq_2 a0 a1 a2) (fun J U iD iG iP iV iX iY iU=>Yx 54 [eX 3 (a0.row.map .d),eX 5 (a2.row.map .d),(6,.one (.bptr 6 0),[.box [.d (.int .i64 0),.d (.int .i64 0),.d (.int .i64 0),.d (.int .i64 0),.d (.int .i64 0),.d (.int .i64 0),.d (.int .i64 0)]]),(8,.one (.bptr 8 0),[.box [.d (.int .i64 iD),.d (.int .i64 iG),.d (.int .i64 iP),.d (.int .i64 iV),.d (.int .i64 iX),.d (.int .i64 iY),.d (.int .i64 iU)]]),eI 9 J,eL 14 3 a1 ZT.row,eI 15 (a1.length:Int),eI 16 (U:Int)]) (fun n1 J U iD iG iP iV iX iY iU=>a1.length<n1+U/\U<=a1.length) (a1.length+1) 0 0 0 0 0 0 0 0 0 (fun p1 J U iD iG iP iV iX iY iU e1 j1=>?_);refine cFf e1 ?_ ?_<;>intro k2 h1 e1
 ·have i1:=ix h1;have m2:=ml a1 (k2 14 _ rfl);have c1:=sl 2310144 a1 (an u0 u1);have w1:=wr U;simp[i1,ZD];refine rpS ?_;refine cRs (UB (nth a1 U)) ?_;refine cGs (fun gg=>PV a0.Zt (YD (nth a1 U)).1 (sg (ZO.Xb u0))) ?_;refine cF e1 ?_ ?_<;>intro k3 h2 e1
  ·exact ny9 w1 e1
  exact ny9 w1 e1
 have c2:=sl 2310144 a1 (an u0 u1);have f:=ms f e1;refine cF f ?_ ?_<;>intro k4 h3 f
 ·exact rt [.cell 6 124,.tmp 7] f
 exact rt [.cell 6 124,.tmp 7] f
theorem tQ(a0 a1:Int):Sa 289 [rI a0,rI a1] [rI (tT a0 a1)]:=by
 have f:=me (tT.eq_1 a0 a1);refine so func289 ntmps289 ?_;exact rt [.tmp 4] f
theorem U8(a0:Int)(a1:List Zm)(u0:Sm 2326528 a1):Sa 268 [rI a0,rL 5 Zm.row a1] [rI (kM a0 a1)]:=by
 have f:=me (kM.eq_1 a0 a1);refine so func268 ntmps268 ?_;refine cF f ?_ ?_<;>intro k1 h1 f
 ·exact rt [.tmp 4] f
 refine lp2 (WT.eq_2 a1) (fun J U=>Yx 27 [eI 0 a0,(5,.one (.sref 5 0 0 J.length),[.arr false 1 (J.map iR)]),eL 11 5 a1 Zm.row,eI 12 (a1.length:Int),eI 13 (U:Int)]) (fun n1 J U=>a1.length<n1+U/\U<=a1.length/\J.length<=0+1*U) (a1.length+1) ([]:List Int) 0 (fun p1 J U e1 j1=>?_) (h0:=wkS [((5,0),none)] []);refine cFf e1 ?_ ?_<;>intro k3 h2 e1
 ·have i1:=ix h2;have m2:=ml a1 (k3 11 _ rfl);have c1:=sl 2326528 a1 u0;have w1:=wr U;simp[i1,ZD];refine rpS ?_;exact nx2 e1 (hw:=XO [((5,0),some (21,0))] [] rfl zAd)
 have c2:=sl 2326528 a1 u0;have f:=ms f e1;refine cRs (KT a0 J zAK) ?_;refine cRs (tQ 1 (Ju a0 J)) ?_;exact rt [.tmp 4] f
theorem RN(a0:Int)(a1:Zm):Sd 269 [rI a0,a1.row] [(jA a0 a1).row]:=by
 have f:=me (jA.eq_1 a0 a1);refine soD func269 ntmps269 ?_;refine dIs mixed ?_;refine cDs [false] (UE a1) ?_;exact rtD [.cell 4 154] f
end Go.Proofs.YthecodaabaaaoaaGreat
