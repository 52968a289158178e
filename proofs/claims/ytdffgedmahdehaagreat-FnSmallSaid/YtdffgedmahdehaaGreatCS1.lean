/- Contracts of the functions Uw the abstract machine, part S1. No condition. -/
import Derived.Test.YtdffgedmahdehaaGreatL
import Derived.Test.YtdffgedmahdehaaGreatTy
namespace Go.Proofs.YtdffgedmahdehaaGreat
open Tryz
open Go.Vm Go.Mo
set_option maxHeartbeats 1000000
set_option maxRecDepth 100000
set_option linter.unusedSimpArgs false
set_option linter.unusedVariables false
variable{a b:Prop}
theorem Tg(a0:List UInt8):VN prog 20 [rL 1 bR a0] (Y1 a0).row:=by
 have f:=me (Y1.eq_1 a0);refine Mi func20 rfl fL ?_;simp[ntmps20];refine lp2 (VP.eq_2 a0) (fun J U=>Ys 32 [eL 0 1 a0 bR,eI 3 J,eI 4 (U:Int)]) (fun n1 J U=>4000<n1+U) 4001 (W (193017+(a0.length:Int))) 0 (fun p1 J U e1 j1=>?_);refine cFf e1 ?_ ?_<;>intro k2 h1 e1
 ·have i1:U<a0.length:=by(simp at h1;omega)
  have m2:=ml a0 (k2 0 _ rfl);have w1:=wr U;simp[i1,ZI];refine rpS ?_;exact ny2 w1 e1
 have f:=ms f e1;refine Gw 31 (rv:=[.tmp 2]) rfl ?_;simp[f.h]
theorem y3(a0:ZL):Xe prog 70 false a0.row [] (Zi a0).1.row [rI (Zi a0).2]:=by
 have f:=me (Zi.eq_1 a0);refine Ym func70 rfl fL (fun v=>?_);simp[ntmps70];refine dIs mixed ?_;refine dIs mixed ?_;refine cF f ?_ ?_<;>intro k3 h1 f
 ·refine okD fun k4=>?_;refine dIo mixed ?_;have i1:=ik a0.i a0.b
  simp[i1,ZI];refine rpS ?_;refine KU (rv:=[.tmp 2]) rfl ?_;first|(have w0:=wr a0.i (by have z:=ml a0.b (k3 32 _ rfl);simp at h1;omega);simp[f.h,w0];done)|simp[f.h]
 refine KU (rv:=[.tmp 2]) rfl ?_;first|(have w0:=wr a0.i (by have z:=ml a0.b (k3 32 _ rfl);simp at h1;omega);simp[f.h,w0];done)|simp[f.h]
theorem Zh(a0:ZL)(a1:Int):Xe prog 33 false a0.row [rI a1] (ZA a0 a1).1.row [rI (ZA a0 a1).2]:=by
 have f:=me (ZA.eq_1 a0 a1);refine Ym func33 rfl fL (fun v=>?_);simp[ntmps33];refine cF f ?_ ?_<;>intro k1 h1 f
 ·refine KU (rv:=[.tmp 4]) rfl ?_;simp[f.h]
 refine cF f ?_ ?_<;>intro k2 h2 f
 ·refine cBs [] (y3 a0) ?_;refine KU (rv:=[.tmp 4]) rfl ?_;simp[f.h]
 refine cBs [] (y3 a0) ?_;refine cBs [] (y3 (Zi a0).1) ?_;refine cBs [] (y3 (Zi (Zi a0).1).1) ?_;refine KU (rv:=[.tmp 4]) rfl ?_;simp[f.h]
theorem Nb(h:b)(k:a:=by(intros;first|omega|with_unfolding_all (first|first|omega|(have z:=Z4 a0 (a1.length:Int);omega))|((try simp only[Y5,show ∀x,IntKind.i64.wrap x=W x from fun _=>rfl]at*);omega))):a/\b:=⟨k,h⟩
theorem NO(a0:ZL)(a1:List ByteArray)(u0:0<a1.length):Xe prog 55 false a0.row [rL 1 sR a1] (jm a0 a1).1.row [rS (jm a0 a1).2]:=by
 have f:=me (jm.eq_1 a0 a1);refine Ym func55 rfl fL (fun v=>?_);simp[ntmps55];refine cBo [] (Zh a0 (a1.length:Int)) ?_;have i1:(ZA a0 (a1.length:Int)).2.toNat<a1.length:=by(have z:=Z4 a0 (a1.length:Int);omega)
 simp[i1,ZI];repeat with_reducible refine Nb ?_
 refine KU (rv:=[.tmp 4]) rfl ?_;simp[f.h]
theorem PR(a0:ZL):Xe prog 232 false a0.row [] (XY a0).1.row [rS (XY a0).2]:=by have f:=me (XY.eq_1 a0);refine Ym func232 rfl fL (fun v=>?_);simp[ntmps232];refine IE [(4,0)] rfl fM ?_;refine cBs [] (NO a0 ([(⟨#[]⟩:ByteArray),(⟨#[97]⟩:ByteArray),(⟨#[98]⟩:ByteArray),(⟨#[97,98]⟩:ByteArray),(⟨#[121,101,115]⟩:ByteArray),(⟨#[110,111]⟩:ByteArray),(⟨#[111,110,101,32,104,117,110,100,114,101,100]⟩:ByteArray)]:List ByteArray) fr) ?_;refine KU (rv:=[.tmp 2]) rfl ?_;simp[f.h]
theorem Zw(a0 a1 a2:Int):Sa 84 [rI a0,rI a1,rI a2] [rB (Zt a0 a1 a2)]:=by have f:=me (Zt.eq_1 a0 a1 a2);refine so func84 ntmps84 ?_;exact rt [.tmp 6] f
theorem L5(a0 a1:Int):Sa 308 [rI a0,rI a1] [rI (kI a0 a1)]:=by
 have f:=me (kI.eq_1 a0 a1);refine so func308 ntmps308 ?_;refine cRs (Zw a1 1 1000000000000) ?_;refine cFo f ?_ ?_<;>intro k1 h1 f
 ·have q1:=h1;try simp[Zt]at q1
  simp;exact rt [.tmp 4] f
 have q1:=h1;try simp[Zt]at q1
 simp;refine rpS ?_;exact rt [.tmp 4] f
theorem RD(a0:List Int):Sa 264 [rL 1 iR a0] [rI (qp a0)]:=by
 have f:=me (qp.eq_1 a0);refine so func264 ntmps264 ?_;refine lp2 (zb.eq_2 a0) (fun J U=>Ys 22 [eL 0 1 a0 iR,eI 3 J,eI 4 (U:Int)]) (fun n1 J U=>a0.length<n1+U/\U<=a0.length) (a0.length+1) 11 0 (fun p1 J U e1 j1=>?_);refine cFf e1 ?_ ?_<;>intro k2 h1 e1
 ·have i1:=ix h1;have m2:=ml a0 (k2 0 _ rfl);have w1:=wr U;simp[i1,ZI];refine rpS ?_;refine cRs (L5 (nth a0 U) 2147483647) ?_;exact ny2 w1 e1
 exact rt [.tmp 2] (ms f e1)
theorem jd(a0:Int)(a1:List Int)(u0:Sm 2330624 a1):Sa 202 [rI a0,rL 1 iR a1] [rI (Jc a0 a1)]:=by have f:=me (Jc.eq_1 a0 a1);have c1:=sl 2330624 a1 u0;refine so func202 ntmps202 ?_;refine cRs (RD ((([a0]:List Int)++a1)++([a0]:List Int))) ?_;exact rt [.tmp 4] f
theorem Lx(a0 a1:Int):Sa 92 [rI a0,rI a1] [rI (Tx a0 a1)]:=by
 have f:=me (Tx.eq_1 a0 a1);refine so func92 ntmps92 ?_;refine cF f ?_ ?_<;>intro k1 h1 f
 ·exact rt [.tmp 4] f
 exact rt [.tmp 4] f
theorem zu(a0:ZP):Sa 144 [a0.row] [rB (YJ a0)]:=by
 have f:=me (YJ.eq_1 a0);refine so func144 ntmps144 ?_;refine lp1 (XP.eq_2 a0) (fun J=>Ys 51 [eX 1 (a0.row.map .d),eI 3 (J:Int)]) (fun n1 J=>a0.Zz.length<n1+J/\J<=a0.Zz.length) (a0.Zz.length+1) 0 (fun p1 J e1 j1=>?_);refine cFf e1 ?_ ?_<;>intro k2 h1 e1
 ·have i1:=ix h1;have m2:=ml a0.Zz (k2 7 _ rfl);have w1:=wr J;simp[i1,ZI];refine rpS ?_;refine cF e1 ?_ ?_<;>intro k3 h2 e1
  ·exact rt [.tmp 2] (ms f e1)
  exact ny1 w1 e1
 have f:=ms f e1;refine lp1 (XT.eq_2 a0) (fun wK=>Ys 51 [eX 1 (a0.row.map .d),eI 4 (wK:Int)]) (fun n2 wK=>a0.Yw.length<n2+wK/\wK<=a0.Yw.length) (a0.Yw.length+1) 0 (fun p2 wK e2 j2=>?_);refine cFf e2 ?_ ?_<;>intro k5 h3 e2
 ·have i2:=ix h3;have m4:=ml a0.Yw (k5 21 _ rfl);have w2:=wr wK;simp[i2,ZI];refine rpS ?_;refine cRs (Zw (nth a0.Yw wK) 1 1000000000000) ?_;refine cFo e2 ?_ ?_<;>intro k6 h4 e2
  ·have q4:=h4;try simp[Zt]at q4
   have f:=ms f e2;simp;exact rt [.tmp 2] f
  have q4:=h4;try simp[Zt]at q4
  simp;exact ny1 w2 e2
 have f:=ms f e2;refine cRs (Zw a0.zj 0 999) ?_;refine cGs (fun gg=>Zw (a0.Zz.length:Int) 1 6) ?_;exact rt [.tmp 2] f
theorem UN(a0:Int):Sa 279 [rI a0] [rB (yK a0)]:=by have f:=me (yK.eq_1 a0);refine so func279 ntmps279 ?_;refine cRs (Zw a0 1 2147483646) ?_;exact rt [.tmp 2] f
theorem WW(a0:Int)(a1:List ByteArray)(a2:Int)(u0:Sm 2326528 a1):Sd 233 [rI a0,rL 1 sR a1,rI a2] [(XX a0 a1 a2).1.row,rB (XX a0 a1 a2).2]:=by
 have f:=me (XX.eq_1 a0 a1 a2);have c1:=sl 2326528 a1 u0;refine soD func233 ntmps233 ?_;refine lp2 (Ye.eq_2 a0 a1 a2) (fun J U=>Ys 42 [eI 0 a0,eL 1 1 a1 sR,eI 2 a2,(6,.one (.bptr 6 0),[.box [.d (.int .i64 0),.nil 1,.nil 1]]),(8,.one (.bptr 8 0),[.box [.d (.int .i64 a0),.sref 13 0 0 a1.length,.sref 8 3 0 U.length],.none,.none,.arr false 1 (U.map iR)]),eI 9 (J:Int),(13,.any,[.arr false 1 (a1.map sR)])]) (fun n1 J U=>a1.length<n1+J/\J<=a1.length/\U.length<=0+1*J) (a1.length+1) 0 ([]:List Int) (fun p1 J U e1 j1=>?_) (h0:=wkS [((8,3),none)] []);refine cF e1 ?_ ?_<;>intro k2 h1 e1
 ·have i1:=ix h1;have m2:=ml a1 (k2 1 _ rfl);have w1:=wr J;refine dIs mixed ?_;refine cRs (jd a2 ([a0,(J:Int)]:List Int) (by simp(maxDischargeDepth:=12) [QB,Z9,ZN (m:=2330624) fO u0];try omega)) ?_;refine cRs (Lx 1 (Jc a2 ([a0,(J:Int)]:List Int))) ?_;exact nx2 e1 (hw:=Y2 [((8,3),some (30,0))] [] rfl ff)
 have f:=ms f e1;refine cRs (zu (ZP.mk a0 a1 U)) ?_;refine cGs (fun gg=>UN a2) ?_;refine cF f ?_ ?_<;>intro k4 h2 f
 ·exact rtD [.cell 6 53,.tmp 7] f
 exact rtD [.cell 6 53,.tmp 7] f
theorem P0(a0:ZL):Xe prog 161 true a0.row [] (Z7 a0).1.row [(Z7 a0).2.row]:=by
 have f:=me (Z7.eq_1 a0);refine Ym func161 rfl fL (fun v=>?_);simp[ntmps161];refine cBs [] (Zh a0 3) ?_;refine lp5 (QY.eq_2) (fun J U wB wS wX=>Ys 28 [(0,.fix v (.one (.bptr 0 0)),[.box [.d (.sl 1 (wB.map bR)),.d (.int .i64 (wS:Int)),.d (.int .i64 wX)]]),(2,.one (.bptr 2 0),[.box [.d (.int .i64 0),.nil 1,.nil 1]]),(3,.one (.sref 3 0 0 J.length),[.arr false 1 (J.map sR)]),eI 4 U]) (fun n1 J U wB wS wX=>U+1<=(n1:Int)/\0<=U/\(J.length:Int)+U<=3/\(∀x∈J,x.size<=11)) 5 ([]:List ByteArray) (W (1+(ZA a0 3).2)) (ZA a0 3).1.b (ZA a0 3).1.i (ZA a0 3).1.h (fun p1 J U wB wS wX e1 j1=>?_) (hI:=by(have z:=Z4 a0 3;(try dsimp only);simp only[Y5,List.length_nil];refine⟨fJ,fJ,fJ,fJ,fun x h=>by cases h⟩)) (h0:=wkS [((3,0),some (7,0))] []);try dsimp only at j1
 refine cF e1 ?_ ?_<;>intro k2 h1 e1
 ·refine cBs [] (PR (ZL.mk wB wS wX)) ?_;exact nx5 e1 (hI:=by(have hh:=h1;simp at hh;(try dsimp only);simp only[Y5,List.length_append,List.length_singleton];refine⟨fJ,fJ,fJ,fJ,fun x hx=>?_⟩;rcases List.mem_append.1 hx with hx|hx;exact j1.2.2.2.2 x hx;simp at hx;rw[hx];exact kG _)) (hw:=wkS [((3,0),some (19,0))] [])
 have f:=ms f e1;refine cBs [] (Zh (ZL.mk wB wS wX) 5) ?_;refine cDs [true,false,false] (WW (ZA (ZL.mk wB wS wX) 5).2 J 11 (by(exact⟨fJ,fun x hx=>Nat.le_trans (j1.2.2.2.2 x hx) fO⟩))) ?_;refine KU (rv:=[.cell 2 53]) rfl ?_;simp[f.h]
theorem XC:Sd 35 [] [rL 5 Yt.row Zx]:=by have f:=me (Zx.eq_1);refine soD func35 ntmps35 ?_;exact rtD [.tmp 0] f
theorem QS(a0:Int)(a1:List Int)(u0:Sm 68719476736 a1):Sa 210 [rI a0,rL 1 iR a1] [rI (Xy a0 a1)]:=by have f:=me (Xy.eq_1 a0 a1);have c1:=sl 68719476736 a1 u0;refine so func210 ntmps210 ?_;refine cRs (RD (([7,a0]:List Int)++a1)) ?_;exact rt [.tmp 4] f
theorem US(a0:Int)(a1:ByteArray)(a2:Int)(u0:Sm 2326528 a1):Sa 212 [rI a0,rS a1,rI a2] [rI (Km a0 a1 a2)]:=by
 have f:=me (Km.eq_1 a0 a1 a2);refine so func212 ntmps212 ?_;refine lp2 (Jk.eq_2 a1) (fun J U=>Ys 27 [eI 0 a0,(1,.one (.d (.str a1)),[]),(7,.one (.sref 7 0 0 J.length),[.arr false 1 (J.map iR)]),eI 8 (U:Int)]) (fun n1 J U=>a1.size<n1+U/\U<=a1.size/\J.length<=1+1*U) (a1.size+1) ([a2]:List Int) 0 (fun p1 J U e1 j1=>?_) (h0:=wkS [((7,0),some (10,0))] []);refine cFo e1 ?_ ?_<;>intro k2 h1 e1
 ·have q1:=h1;try simp at q1
  have c1:a1.size<=2326528:=RN (xs u0);have w1:=wr U;simp;refine rpS ?_;exact nx2 e1 (hw:=Y2 [((7,0),some (23,0))] [] rfl ff)
 have q1:=h1;try simp at q1
 have c2:a1.size<=2326528:=RN (xs u0);have f:=ms f e1;simp;refine cRs (QS a0 J fS) ?_;exact rt [.tmp 6] f
theorem ji(a0:Int)(a1:ZP)(u0:Sm 2322432 a1):Sa 142 [rI a0,a1.row] [rI (Yl a0 a1)]:=by
 have f:=me (Yl.eq_1 a0 a1);refine so func142 ntmps142 ?_;refine cRs (zu a1) ?_;refine cF f ?_ ?_<;>intro k1 h1 f
 ·exact rt [.tmp 4] f
 refine lp2 (KC.eq_2 a0 a1) (fun J U=>Ys 38 [eI 0 a0,eX 3 (a1.row.map .d),(5,.one (.sref 5 0 0 J.length),[.arr false 1 (J.map iR)]),eI 6 (U:Int)]) (fun n1 J U=>a1.Zz.length<n1+U/\U<=a1.Zz.length/\J.length<=1+1*U) (a1.Zz.length+1) ([a1.zj]:List Int) 0 (fun p1 J U e1 j1=>?_) (h0:=wkS [((5,0),some (12,0))] []);refine cF e1 ?_ ?_<;>intro k3 h2 e1
 ·have i1:=ix h2;have m2:=ml a1.Zz (k3 15 _ rfl);have c1:=sl 2322432 a1.Zz u0;have w1:=wr U;refine dIo mixed ?_;have i2:U<a1.Yw.length:=by(have:=VA (a:=a1);first|(simp_all;done)|(simp_all;omega))
  simp[i1,ZI,i2];refine rpS ?_;refine cRs (US a0 (nth a1.Zz U) (nth a1.Yw U) (sg (XR (ZP.Ur u0)))) ?_;exact nx2 e1 (hw:=Y2 [((5,0),some (34,0))] [] rfl ff)
 have c2:=sl 2322432 a1.Zz u0;have f:=ms f e1;refine cRs (QS a0 J fS) ?_;exact rt [.tmp 4] f
theorem Jz(a0:List Yt)(a1:Int):Sa 123 [rL 5 Yt.row a0,rI a1] [rI (YB a0 a1)]:=by
 have f:=me (YB.eq_1 a0 a1);refine so func123 ntmps123 ?_;refine lp1 (xB.eq_2 a0 a1) (fun J=>Ys 20 [eL 0 5 a0 Yt.row,eI 1 a1,eI 5 (J:Int)]) (fun n1 J=>a0.length<n1+J/\J<=a0.length) (a0.length+1) 0 (fun p1 J e1 j1=>?_);refine cFf e1 ?_ ?_<;>intro k2 h1 e1
 ·have i1:=ix h1;have m2:=ml a0 (k2 0 _ rfl);have w1:=wr J;simp[i1,ZI];refine rpS ?_;refine cF e1 ?_ ?_<;>intro k3 h2 e1
  ·exact rt [.tmp 4] (ms f e1)
  exact ny1 w1 e1
 exact rt [.tmp 4] (ms f e1)
theorem W0(a0:ZY):Sa 309 [a0.row] [rB (KG a0)]:=by have f:=me (KG.eq_1 a0);refine so func309 ntmps309 ?_;refine cRs (Zw a0.Key 1 99) ?_;refine cGs (fun gg=>Zw a0.YC 1 999) ?_;refine cGs (fun gg=>Zw a0.Method 0 99) ?_;refine cGs (fun gg=>Zw a0.Org 0 99) ?_;refine cGs (fun gg=>Zw a0.jS 1 3) ?_;refine cGs (fun gg=>Zw a0.Xk 0 1000000000000) ?_;refine cGs (fun gg=>Zw a0.jH 0 1000000000000) ?_;refine cGs (fun gg=>Zw a0.Vu 0 1000000000000) ?_;exact rt [.tmp 2] f
theorem yu(a0:ZY):Sd 214 [a0.row] [rL 1 iR (YZ a0)]:=by have f:=me (YZ.eq_1 a0);refine soD func214 ntmps214 ?_;exact rtD [.tmp 2] f
theorem J9(a0:Yt)(a1:List Int)(u0:Sm 2326528 a1):Sa 124 [a0.row,rL 1 iR a1] [rI (KW a0 a1)]:=by have f:=me (KW.eq_1 a0 a1);refine so func124 ntmps124 ?_;refine Oi [2,3,4,5,6,0,1,7,8] mixed fL fL fL ?_;have c1:=sl 2326528 a1 u0;simp;refine rpS ?_;refine cRs (jd a0.RY (([a0.Method]:List Int)++a1) fg) ?_;exact rt [.tmp 4] f
theorem UX(a0:List Yt)(a1:ZY)(u0:Sm 2322432 a0):Sa 267 [rL 5 Yt.row a0,a1.row] [(Jt a0 a1).1.row,rB (Jt a0 a1).2]:=by
 have f:=me (Jt.eq_1 a0 a1);refine so func267 ntmps267 ?_;refine cRs (Jz a0 a1.Key) ?_;refine cRs (W0 a1) ?_;refine cF f ?_ ?_<;>intro k1 h1 f
 ·exact rt [.cell 4 55,.tmp 5] f
 refine dIo mixed ?_;have i1:(YB a0 a1.Key).toNat<a0.length:=by have:=Kv a0 a1.Key;exact il
 simp[i1,ZI];refine rpS ?_;refine cRs (Zp.rd (yu a1)) ?_;refine cRs (J9 (nth a0 (YB a0 a1.Key).toNat) (YZ a1) (by simp(maxDischargeDepth:=12) [ym,ZN (m:=2326528) fO u0];try omega)) ?_;exact rt [.cell 4 55,.tmp 5] f
theorem WZ(a0:List Yt)(a1 a2 a3:Int)(a4:ZP)(a5:Int)(u0:Sm 2318336 a0)(u1:Sm 2318336 a4):Sa 339 [rL 5 Yt.row a0,rI a1,rI a2,rI a3,a4.row,rI a5] [(Jr a0 a1 a2 a3 a4 a5).1.row,rB (Jr a0 a1 a2 a3 a4 a5).2]:=by have f:=me (Jr.eq_1 a0 a1 a2 a3 a4 a5);refine so func339 ntmps339 ?_;refine cRs (ji a3 a4 (sg u1)) ?_;refine cRs (UX a0 (ZY.mk a1 a2 a3 (Yl a3 a4) a5 0 0 0 0) (sg u0)) ?_;exact rt [.cell 12 55,.tmp 13] f
theorem WK(a0:ZL):Xe prog 304 true a0.row [] (ZR a0).1.row [(ZR a0).2.1.row,(ZR a0).2.2.row]:=by have f:=me (ZR.eq_1 a0);refine Ym func304 rfl fL (fun v=>?_);simp[ntmps304];refine cBs [] (P0 a0) ?_;refine cBs [] (Zh (Z7 a0).1 3) ?_;refine j6 [(0,0),(4,4),(21,0)] [] [22,3000001] mixed fL fL fL fL fL fL fL ?_;simp;refine cRs (Zp.rd (XC)) ?_;refine cBs [] (Zh (ZA (Z7 a0).1 3).1 3) ?_;refine cRs (WZ Zx (W (11+(ZA (Z7 a0).1 3).2)) (W (1+(ZA (Z7 a0).1 3).2)) (W (1+(ZA (Z7 a0).1 3).2)) (Z7 a0).2 (W (1+(ZA (ZA (Z7 a0).1 3).1 3).2)) fW (by simp(maxDischargeDepth:=12) [Vx];try omega)) ?_;refine Se [(2,2),(3,3),(4,4),(6,6)] mixed fL fL fL fL ?_;simp;refine KU (rv:=[.cell 2 55,.cell 3 53]) rfl ?_;simp[f.h]
theorem ya(a0:ZY):Sd 146 [a0.row] [(YE a0).row]:=by have f:=me (YE.eq_1 a0);refine soD func146 ntmps146 ?_;refine dIs mixed ?_;refine cDs [false] (yu a0) ?_;exact rtD [.cell 2 98] f
theorem SY(a0:XG):Sa 278 [a0.row] [(qL a0).row]:=by have f:=me (qL.eq_1 a0);refine so func278 ntmps278 ?_;exact rt [.cell 2 159] f
theorem zm(a0:Int):Sa 122 [rI a0] [rB (zi a0)]:=by have f:=me (zi.eq_1 a0);refine so func122 ntmps122 ?_;refine cRs (Zw a0 0 10000) ?_;exact rt [.tmp 2] f
theorem UD(a0:xq):Sa 277 [a0.row] [rB (Wh a0)]:=by have f:=me (Wh.eq_1 a0);refine so func277 ntmps277 ?_;refine cRs (zm a0.y0) ?_;refine cGs (fun gg=>zm a0.To) ?_;exact rt [.tmp 2] f
theorem Pc(a0:XG):Sa 230 [a0.row] [rB (U1 a0)]:=by have f:=me (U1.eq_1 a0);refine so func230 ntmps230 ?_;refine cRs (Zw a0.YC 1 999) ?_;refine cGs (fun gg=>Zw a0.Key 1 99) ?_;refine cGs (fun gg=>Zw a0.Yc 1 99) ?_;refine cGs (fun gg=>Zw a0.WB 0 99) ?_;refine cGs (fun gg=>SY a0) ?_;refine cGs (fun gg=>UD (qL a0)) ?_;exact rt [.tmp 2] f
theorem kH(a0:XG):Sd 231 [a0.row] [rL 1 iR (Jb a0)]:=by have f:=me (Jb.eq_1 a0);refine soD func231 ntmps231 ?_;exact rtD [.tmp 2] f
theorem yX(a0:List Yt)(a1:XG)(u0:Sm 2322432 a0):Sa 159 [rL 5 Yt.row a0,a1.row] [(Kg a0 a1).1.row,rB (Kg a0 a1).2]:=by
 have f:=me (Kg.eq_1 a0 a1);refine so func159 ntmps159 ?_;refine cRs (Jz a0 a1.Yc) ?_;refine cRs (Pc a1) ?_;refine cGs (fun gg=>Jz a0 a1.Key) ?_;refine cF f ?_ ?_<;>intro k1 h1 f
 ·exact rt [.cell 4 72,.tmp 5] f
 refine dIo mixed ?_;have i1:(YB a0 a1.Yc).toNat<a0.length:=by have:=Kv a0 a1.Yc;exact il
 simp[i1,ZI];refine rpS ?_;refine cRs (Zp.rd (kH a1)) ?_;refine cRs (J9 (nth a0 (YB a0 a1.Yc).toNat) (Jb a1) (by simp(maxDischargeDepth:=12) [kR,ZN (m:=2326528) fO u0];try omega)) ?_;exact rt [.cell 4 72,.tmp 5] f
theorem qE:Sd 94 [] [rL 7 XG.row YP]:=by have f:=me (YP.eq_1);refine soD func94 ntmps94 ?_;refine cRs (Zp.rd (XC)) ?_;refine cRs (yX Zx (XG.mk 1 11 1 0 60 1 0) fW) ?_;refine cRs (Zp.rd (XC)) ?_;refine cRs (yX Zx (XG.mk 2 12 1 20 100 1 0) fW) ?_;refine cRs (Zp.rd (XC)) ?_;refine cRs (yX Zx (XG.mk 3 13 2 40 150 2 0) fW) ?_;exact rtD [.tmp 0] f
theorem jG(a0:XG):Sd 268 [a0.row] [(YX a0).row]:=by have f:=me (YX.eq_1 a0);refine soD func268 ntmps268 ?_;refine dIs mixed ?_;refine cDs [false] (kH a0) ?_;exact rtD [.cell 2 98] f
theorem O5(h:b)(k:a:=by(intros;first|omega|with_unfolding_all (first|first|omega|(have z:=Z4 a0 (a1.length:Int);omega))|((try simp only[Y5,show ∀x,IntKind.i64.wrap x=W x from fun _=>rfl]at*);omega))):a/\b:=⟨k,h⟩
theorem x1(a0:ZL)(a1:List Int)(u0:0<a1.length):Xe prog 160 false a0.row [rL 1 iR a1] (Zn a0 a1).1.row [rI (Zn a0 a1).2]:=by
 have f:=me (Zn.eq_1 a0 a1);refine Ym func160 rfl fL (fun v=>?_);simp[ntmps160];refine cBo [] (Zh a0 (a1.length:Int)) ?_;have i1:(ZA a0 (a1.length:Int)).2.toNat<a1.length:=by(have z:=Z4 a0 (a1.length:Int);omega)
 simp[i1,ZI];repeat with_reducible refine O5 ?_
 refine KU (rv:=[.tmp 4]) rfl ?_;simp[f.h]
theorem SO(a0:YK):Sa 270 [a0.row] [rB (kW a0)]:=by have f:=me (kW.eq_1 a0);refine so func270 ntmps270 ?_;refine cRs (Zw a0.YC 1 999) ?_;refine cGs (fun gg=>zm a0.Ok) ?_;refine cGs (fun gg=>Zw a0.jJ (-1) (W (a0.Ok+1))) ?_;refine cGs (fun gg=>Zw a0.Yc 1 99) ?_;exact rt [.tmp 2] f
theorem qU(a0:YK):Sd 271 [a0.row] [rL 1 iR (QE a0)]:=by have f:=me (QE.eq_1 a0);refine soD func271 ntmps271 ?_;exact rtD [.tmp 2] f
theorem zn(a0:List Yt)(a1:YK)(u0:Sm 2322432 a0):Sa 220 [rL 5 Yt.row a0,a1.row] [(XM a0 a1).1.row,rB (XM a0 a1).2]:=by
 have f:=me (XM.eq_1 a0 a1);refine so func220 ntmps220 ?_;refine cRs (Jz a0 a1.Yc) ?_;refine cRs (SO a1) ?_;refine cF f ?_ ?_<;>intro k1 h1 f
 ·exact rt [.cell 4 245,.tmp 5] f
 refine dIo mixed ?_;have i1:(YB a0 a1.Yc).toNat<a0.length:=by have:=Kv a0 a1.Yc;exact il
 simp[i1,ZI];refine rpS ?_;refine cRs (Zp.rd (qU a1)) ?_;refine cRs (J9 (nth a0 (YB a0 a1.Yc).toNat) (QE a1) (by simp(maxDischargeDepth:=12) [qc,ZN (m:=2326528) fO u0];try omega)) ?_;exact rt [.cell 4 245,.tmp 5] f
theorem Kd(a0:ZL)(a1:Int):Xe prog 28 false a0.row [rI a1] (Zb a0 a1).1.row [rB (Zb a0 a1).2]:=by have f:=me (Zb.eq_1 a0 a1);refine Ym func28 rfl fL (fun v=>?_);simp[ntmps28];refine cBs [] (Zh a0 a1) ?_;refine KU (rv:=[.tmp 4]) rfl ?_;simp[f.h]
theorem xk(a0:YK):Sd 222 [a0.row] [(Y3 a0).row]:=by have f:=me (Y3.eq_1 a0);refine soD func222 ntmps222 ?_;refine dIs mixed ?_;refine cDs [false] (qU a0) ?_;exact rtD [.cell 2 98] f
theorem Re(a0:ZM)(u0:Sm 2342912 a0):Sd 209 [a0.row] [(VG a0).row]:=by have f:=me (VG.eq_1 a0);refine soD func209 ntmps209 ?_;refine Oi [2,3,4,5,0,1,6,7,8,9] mixed fL fL fL ?_;have c1:=sl 2342912 a0.zo u0;simp;refine rpS ?_;exact rtD [.cell 2 98] f
theorem kP(a0:ZM)(u0:Sm 2342912 a0):Sd 209 [a0.row] [a0.row]:=by have h:=Re a0 u0;rwa[PF]at h
theorem Pg(a0:List ZM)(u0:Sm 2338816 a0):Sd 139 [rL 3 ZM.row a0] [rL 3 ZM.row (WT a0)]:=by
 have f:=me (WT.eq_1 a0);refine soD func139 ntmps139 ?_;refine GC (news:=([]:List ZM).map ZM.row) (L:=[]) rfl rfl rfl rfl fM fM fM fM fM fM ?_;simp;refine lp2 (qC.eq_2 a0) (fun J U=>Ys 21 [eL 0 3 a0 ZM.row,(3,.one (.sref 3 0 0 J.length),[.arr true 3 (J.map ZM.row)]),eI 4 (U:Int)]) (fun n1 J U=>a0.length<n1+U/\U<=a0.length/\J.length<=0+1*U) (a0.length+1) ([]:List ZM) 0 (fun p1 J U e1 j1=>?_) (h0:=wkS [((3,0),some (5,0))] []);refine cFf e1 ?_ ?_<;>intro k2 h1 e1
 ·have i1:=ix h1;have m2:=ml a0 (k2 0 _ rfl);have c1:=sl 2338816 a0 u0;have w1:=wr U;simp[i1,ZI];refine rpS ?_;refine cDs [true,false] (kP (nth a0 U) (sg (XR u0))) ?_;refine jU ?_;simp;refine jy (wD:=J.map ZM.row) (news:=([nth a0 U]:List ZM).map ZM.row) (l1:=[(3,0)]) (l2:=[(17,1)]) (size:=3) ?_;simp;exact nx2 e1 (hw:=Y2 [((3,0),some (19,0))] [] rfl ff)
 exact rtD [.tmp 2] (ms f e1)
theorem Rj(a0:List ZM)(u0:Sm 2338816 a0):Sd 139 [rL 3 ZM.row a0] [rL 3 ZM.row a0]:=by have h:=Pg a0 u0;rwa[OI]at h
theorem Rp(a0:ZE)(u0:Sm 2342912 a0):Sd 87 [a0.row] [(W6 a0).row]:=by have f:=me (W6.eq_1 a0);have c1:=sl 2342912 a0.Path u0;have c2:=sl 2342912 a0.YQ u0;refine soD func87 ntmps87 ?_;exact rtD [.cell 2 87] f
theorem kA(a0:ZE)(u0:Sm 2342912 a0):Sd 87 [a0.row] [a0.row]:=by have h:=Rp a0 u0;rwa[PG]at h
theorem Ra(a0:ZH)(u0:Sm 2334720 a0):Sd 81 [a0.row] [(jo a0).row]:=by
 have f:=me (jo.eq_1 a0);refine soD func81 ntmps81 ?_;refine cDs [] (Rj a0.ZG (sg (ZH.zM u0))) ?_;refine lp2 (y5.eq_2 a0) (fun J U=>Ys 28 [eX 1 (a0.row.map .d),(2,.one (.bptr 2 0),[.box [.nil 3,.nil 5]]),(3,.one (.bptr 3 0),[.box [.sref 7 0 0 a0.ZG.length,.sref 3 2 0 U.length],.none,.arr true 5 (U.map ZE.row)]),eI 4 (J:Int),(7,.any,[.arr true 3 (a0.ZG.map ZM.row)])]) (fun n1 J U=>a0.ZK.length<n1+J/\J<=a0.ZK.length/\U.length<=0+1*J) (a0.ZK.length+1) 0 ([]:List ZE) (fun p1 J U e1 j1=>?_) (h0:=wkS [((3,2),none)] []);refine cF e1 ?_ ?_<;>intro k2 h1 e1
 ·have i1:=ix h1;have m2:=ml a0.ZK (k2 11 _ rfl);have c1:=sl 2334720 a0.ZK u0;have w1:=wr J;refine drJ [25] mixed ?_;simp[i1,ZI];refine rpS ?_;refine cDs [true,true,true,false,false] (kA (nth a0.ZK J) (sg (XR (ZH.KK u0)))) ?_;refine jU ?_;simp;refine jy (wD:=U.map ZE.row) (news:=([nth a0.ZK J]:List ZE).map ZE.row) (l1:=[(3,2)]) (l2:=[(23,3),(23,4)]) (size:=5) ?_;simp;exact nx2 e1 (hw:=Y2 [((3,2),some (25,0))] [] rfl ff)
 have c2:=sl 2334720 a0.ZK u0;exact rtD [.cell 2 59] (ms f e1)
theorem JM(a0:ZH)(u0:Sm 2334720 a0):Sd 81 [a0.row] [a0.row]:=by have h:=Ra a0 u0;rwa[Rx]at h
theorem TN(a0 a1:List Int):Sa 213 [rL 1 iR a0,rL 1 iR a1] [rB (xE a0 a1)]:=by
 have f:=me (xE.eq_1 a0 a1);refine so func213 ntmps213 ?_;refine cF f ?_ ?_<;>intro k1 h1 f
 ·exact rt [.tmp 4] f
 refine lp1 (zX.eq_2 a0 a1) (fun J=>Ys 26 [eL 0 1 a0 iR,eL 1 1 a1 iR,eI 5 (J:Int)]) (fun n1 J=>a0.length<n1+J/\J<=a0.length) (a0.length+1) 0 (fun p1 J e1 j1=>?_);refine cF e1 ?_ ?_<;>intro k3 h2 e1
 ·have i1:=ix h2;have m2:=ml a0 (k3 0 _ rfl);have w1:=wr J;refine dIo mixed ?_;have i2:=ik J a1;simp[i1,ZI,i2];refine rpS ?_;refine cF e1 ?_ ?_<;>intro k5 h3 e1
  ·exact rt [.tmp 4] (ms f e1)
  exact ny1 w1 e1
 exact rt [.tmp 4] (ms f e1)
theorem xo(a0 a1:ZM):Sa 145 [a0.row,a1.row] [rB (JQ a0 a1)]:=by have f:=me (JQ.eq_1 a0 a1);refine so func145 ntmps145 ?_;refine cGs (fun gg=>TN a0.zo a1.zo) ?_;exact rt [.tmp 4] f
theorem TD(a0:ZH)(a1:ZM):Sa 147 [a0.row,a1.row] [rI (zf a0 a1)]:=by
 have f:=me (zf.eq_1 a0 a1);refine so func147 ntmps147 ?_;refine lp1 (zR.eq_2 a0 a1) (fun J=>Ys 21 [eX 2 (a0.row.map .d),eX 3 (a1.row.map .d),eI 5 (J:Int)]) (fun n1 J=>a0.ZG.length<n1+J/\J<=a0.ZG.length) (a0.ZG.length+1) 0 (fun p1 J e1 j1=>?_);refine cF e1 ?_ ?_<;>intro k2 h1 e1
 ·have i1:=ix h1;have m2:=ml a0.ZG (k2 8 _ rfl);have w1:=wr J;refine dIo mixed ?_;simp[i1,ZI];refine rpS ?_;refine cRs (xo (nth a0.ZG J) a1) ?_;refine cF e1 ?_ ?_<;>intro k4 h2 e1
  ·exact rt [.tmp 4] (ms f e1)
  exact ny1 w1 e1
 exact rt [.tmp 4] (ms f e1)
theorem xI(a0:ZH):Sa 88 [a0.row] [rB (JE a0)]:=by
 have f:=me (JE.eq_1 a0);refine so func88 ntmps88 ?_;refine lp1 (Jy.eq_2 a0) (fun J=>Ys 69 [eX 1 (a0.row.map .d),eI 3 (J:Int)]) (fun n1 J=>a0.ZG.length<n1+J/\J<=a0.ZG.length) (a0.ZG.length+1) 0 (fun p1 J e1 j1=>?_);refine cF e1 ?_ ?_<;>intro k2 h1 e1
 ·have i1:=ix h1;have m2:=ml a0.ZG (k2 7 _ rfl);have w1:=wr J;refine dIo mixed ?_;simp[i1,ZI];refine rpS ?_;refine cRs (TD a0 (nth a0.ZG J)) ?_;refine cF e1 ?_ ?_<;>intro k4 h2 e1
  ·exact rt [.tmp 2] (ms f e1)
  exact ny1 w1 e1
 have f:=ms f e1;refine lp1 (J4.eq_2 a0) (fun wK=>Ys 69 [eX 1 (a0.row.map .d),eI 4 (wK:Int)]) (fun n2 wK=>a0.ZK.length<n2+wK/\wK<=a0.ZK.length) (a0.ZK.length+1) 0 (fun p2 wK e2 j2=>?_);refine cF e2 ?_ ?_<;>intro k6 h3 e2
 ·have i2:=ix h3;have m4:=ml a0.ZK (k6 23 _ rfl);have w2:=wr wK;refine dIo mixed ?_;simp[i2,ZI];refine rpS ?_;refine cRs (Zw (nth a0.ZK wK).Count 1 (a0.ZG.length:Int)) ?_;refine gIf ?_ ?_<;>intro G
  ·have i3:=ik (wK-1) a0.ZK;have w3:IntKind.i64.wrap ((wK:Int)-1)=(wK:Int)-1:=Ya fJ fJ;simp[i3,ZI,w3,G];refine rpG ?_;refine gK (fun _=>?_);simp[i2,ZI,G];refine rpG ?_;refine cKo e2 ?_ ?_<;>intro k8 h4 e2
   ·have q4:=h4;try simp[Zt]at q4
    have f:=ms f e2;simp;refine rpG ?_;exact rtg [.tmp 2] f
   ·have q4:=h4;try simp[Zt]at q4
    simp;refine rpG ?_;exact ny1 (an w2 (an w3 G)) e2
  ·refine sGg ?_;refine cKo e2 ?_ ?_<;>intro k9 h5 e2
   ·have q5:=h5;try simp[Zt]at q5
    have f:=ms f e2;simp;refine rpG ?_;exact rtg [.tmp 2] f
   ·have q5:=h5;try simp[Zt]at q5
    simp;refine rpG ?_;exact ny1 (an w2 G) e2
 have f:=ms f e2;refine cRs (Zw (a0.ZG.length:Int) 1 12) ?_;exact rt [.tmp 2] f
theorem xY(a0:ZH)(a1:ZM)(u0:Sm 2326528 a0)(u1:Sm 2326528 a1):Sd 272 [a0.row,a1.row] [(Xd a0 a1).1.row,rB (Xd a0 a1).2]:=by
 have f:=me (Xd.eq_1 a0 a1);refine soD func272 ntmps272 ?_;refine cDs [] (JM a0 (sg u0)) ?_;refine drJ [14] mixed ?_;simp;refine cDs [true,false] (kP a1 (sg u1)) ?_;refine jU ?_;have c1:=sl 2326528 a0.ZG (an u0 u1);simp;refine jy (wD:=a0.ZG.map ZM.row) (news:=([a1]:List ZM).map ZM.row) (l1:=[(8,0)]) (l2:=[(12,1)]) (size:=3) ?_;simp;refine cRs (xI (ZH.mk (a0.ZG++([a1]:List ZM)) a0.ZK)) ?_;refine cF f ?_ ?_<;>intro k2 h1 f
 ·refine cDs [] (JM a0 (sg u0)) ?_;exact rtD [.cell 4 59,.tmp 5] f
 exact rtD [.cell 4 59,.tmp 5] f
theorem Rc(a0:ZL):Xe prog 340 false a0.row [] (yP a0).1.row [(yP a0).2.row]:=by
 have f:=me (yP.eq_1 a0);refine Ym func340 rfl fL (fun v=>?_);simp[ntmps340];refine cBs [] (Zh a0 60) ?_;refine cBs [] (Zh (ZA a0 60).1 3) ?_;refine cBs [] (Zh (ZA (ZA a0 60).1 3).1 2) ?_;refine cBs [] (Kd (ZA (ZA (ZA a0 60).1 3).1 2).1 3) ?_;refine cF f ?_ ?_<;>intro k1 h1 f
 ·refine cBs [] (Zh (Zb (ZA (ZA (ZA a0 60).1 3).1 2).1 3).1 (W ((ZA a0 60).2+2))) ?_;refine dIs mixed ?_;refine cRs (Zp.rd (XC)) ?_;refine cRs (zn Zx (YK.mk (W (1+(ZA (ZA a0 60).1 3).2)) (ZA a0 60).2 (ZA (Zb (ZA (ZA (ZA a0 60).1 3).1 2).1 3).1 (W ((ZA a0 60).2+2))).2 (W (1+(ZA (ZA (ZA a0 60).1 3).1 2).2)) 0) fW) ?_;refine KU (rv:=[.cell 2 245]) rfl ?_;simp[f.h]
 refine dIs mixed ?_;refine cRs (Zp.rd (XC)) ?_;refine cRs (zn Zx (YK.mk (W (1+(ZA (ZA a0 60).1 3).2)) (ZA a0 60).2 (-1) (W (1+(ZA (ZA (ZA a0 60).1 3).1 2).2)) 0) fW) ?_;refine KU (rv:=[.cell 2 245]) rfl ?_;simp[f.h]
theorem Xi:Sd 36 [] [rL 3 ZZ.row Zm]:=by have f:=me (Zm.eq_1);refine soD func36 ntmps36 ?_;exact rtD [.tmp 0] f
theorem yl(a0:List ZZ)(a1:Int):Sa 121 [rL 3 ZZ.row a0,rI a1] [rI (Z6 a0 a1)]:=by
 have f:=me (Z6.eq_1 a0 a1);refine so func121 ntmps121 ?_;refine lp1 (JW.eq_2 a0 a1) (fun J=>Ys 20 [eL 0 3 a0 ZZ.row,eI 1 a1,eI 5 (J:Int)]) (fun n1 J=>a0.length<n1+J/\J<=a0.length) (a0.length+1) 0 (fun p1 J e1 j1=>?_);refine cFf e1 ?_ ?_<;>intro k2 h1 e1
 ·have i1:=ix h1;have m2:=ml a0 (k2 0 _ rfl);have w1:=wr J;simp[i1,ZI];refine rpS ?_;refine cF e1 ?_ ?_<;>intro k3 h2 e1
  ·exact rt [.tmp 4] (ms f e1)
  exact ny1 w1 e1
 exact rt [.tmp 4] (ms f e1)
theorem yk(a0:ZO):Sd 125 [a0.row] [rL 1 iR (XQ a0)]:=by have f:=me (XQ.eq_1 a0);refine soD func125 ntmps125 ?_;exact rtD [.tmp 2] f
theorem yZ(a0:List Yt)(a1:List ZZ)(a2:ZO)(u0:Sm 2322432 a0)(u1:Sm 2322432 a1):Sa 71 [rL 5 Yt.row a0,rL 3 ZZ.row a1,a2.row] [(Xt a0 a1 a2).1.row,rB (Xt a0 a1 a2).2]:=by
 have f:=me (Xt.eq_1 a0 a1 a2);refine so func71 ntmps71 ?_;refine cRs (yl a1 a2.Authority) ?_;refine cGs (fun gg=>zm a2.Time) ?_;refine cFt f ?_ ?_<;>intro k1 h1 f
 ·exact rt [.cell 6 131,.tmp 7] f
 have i1:(Z6 a1 a2.Authority).toNat<a1.length:=by have:=yU a1 a2.Authority;exact il
 simp[i1,ZI];refine rpS ?_;refine cRs (Jz a0 (nth a1 (Z6 a1 a2.Authority).toNat).Key) ?_;refine cF f ?_ ?_<;>intro k2 h2 f
 ·exact rt [.cell 6 131,.tmp 7] f
 refine dIo mixed ?_;have i2:(YB a0 (nth a1 (Z6 a1 a2.Authority).toNat).Key).toNat<a0.length:=by have:=Kv a0 (nth a1 (Z6 a1 a2.Authority).toNat).Key;exact il
 simp[i2,ZI];refine rpS ?_;refine cRs (Zp.rd (yk a2)) ?_;refine cRs (J9 (nth a0 (YB a0 (nth a1 (Z6 a1 a2.Authority).toNat).Key).toNat) (XQ a2) (by simp(maxDischargeDepth:=12) [jV,ZN (m:=2326528) fO u0,ZN (m:=2326528) fO u1];try omega)) ?_;exact rt [.cell 6 131,.tmp 7] f
theorem T6(a0:ZL):Xe prog 341 false a0.row [] (Q8 a0).1.row [(Q8 a0).2.row]:=by have f:=me (Q8.eq_1 a0);refine Ym func341 rfl fL (fun v=>?_);simp[ntmps341];refine cRs (Zp.rd (XC)) ?_;refine cRs (Zp.rd (Xi)) ?_;refine cBs [] (Zh a0 4) ?_;refine cBs [] (Zh (ZA a0 4).1 9) ?_;refine cBs [] (Zh (ZA (ZA a0 4).1 9).1 60) ?_;refine cBs [] (Zh (ZA (ZA (ZA a0 4).1 9).1 60).1 99) ?_;refine cRs (yZ Zx Zm (ZO.mk (W (1+(ZA a0 4).2)) (ZA (ZA a0 4).1 9).2 (ZA (ZA (ZA a0 4).1 9).1 60).2 (ZA (ZA (ZA (ZA a0 4).1 9).1 60).1 99).2 0) fW (by simp(maxDischargeDepth:=12) [Y9];try omega)) ?_;refine KU (rv:=[.cell 2 131]) rfl ?_;simp[f.h]
theorem T2(a0:List ZZ)(a1:ZO):Sa 343 [rL 3 ZZ.row a0,a1.row] [rI (qS a0 a1)]:=by
 have f:=me (qS.eq_1 a0 a1);refine so func343 ntmps343 ?_;refine cRs (yl a0 a1.Authority) ?_;refine cFt f ?_ ?_<;>intro k1 h1 f
 ·exact rt [.tmp 4] f
 have i1:(Z6 a0 a1.Authority).toNat<a0.length:=by have:=yU a0 a1.Authority;exact il
 simp[i1,ZI];refine rpS ?_;exact rt [.tmp 4] f
theorem Uh(a0:Int)(a1:ZO):Sd 342 [rI a0,a1.row] [(yC a0 a1).row]:=by have f:=me (yC.eq_1 a0 a1);refine soD func342 ntmps342 ?_;refine dIs mixed ?_;refine cDs [false] (yk a1) ?_;exact rtD [.cell 4 98] f
theorem TF(a0:YW):Sa 377 [a0.row] [rB (qk a0)]:=by have f:=me (qk.eq_1 a0);refine so func377 ntmps377 ?_;refine cRs (Zw a0.Org 1 99) ?_;refine cGs (fun gg=>Zw a0.VL 0 99) ?_;refine cGs (fun gg=>Zw a0.Key 1 99) ?_;refine cGs (fun gg=>UD (xq.mk a0.y0 a0.To)) ?_;exact rt [.tmp 2] f
theorem xh(a0:YW):Sd 361 [a0.row] [rL 1 iR (Xu a0)]:=by have f:=me (Xu.eq_1 a0);refine soD func361 ntmps361 ?_;exact rtD [.tmp 2] f
theorem Vo(a0:List Yt)(a1:YW)(u0:Sm 2322432 a0):Sa 362 [rL 5 Yt.row a0,a1.row] [(zU a0 a1).1.row,rB (zU a0 a1).2]:=by
 have f:=me (zU.eq_1 a0 a1);refine so func362 ntmps362 ?_;refine cRs (Jz a0 a1.Key) ?_;refine cRs (TF a1) ?_;refine cF f ?_ ?_<;>intro k1 h1 f
 ·exact rt [.cell 4 334,.tmp 5] f
 refine dIo mixed ?_;have i1:(YB a0 a1.Key).toNat<a0.length:=by have:=Kv a0 a1.Key;exact il
 simp[i1,ZI];refine rpS ?_;refine cRs (Zp.rd (xh a1)) ?_;refine cRs (J9 (nth a0 (YB a0 a1.Key).toNat) (Xu a1) (by simp(maxDischargeDepth:=12) [xd,ZN (m:=2326528) fO u0];try omega)) ?_;exact rt [.cell 4 334,.tmp 5] f
theorem Rl(a0:ZL):Xe prog 345 false a0.row [] (yM a0).1.row [(yM a0).2.row]:=by have f:=me (yM.eq_1 a0);refine Ym func345 rfl fL (fun v=>?_);simp[ntmps345];refine cBs [] (Zh a0 40) ?_;refine cRs (Zp.rd (XC)) ?_;refine cBs [] (Zh (ZA a0 40).1 2) ?_;refine cBs [] (Zh (ZA (ZA a0 40).1 2).1 30) ?_;refine cRs (Vo Zx (YW.mk 50 (W (1+(ZA (ZA a0 40).1 2).2)) (ZA a0 40).2 (W ((ZA a0 40).2+(ZA (ZA (ZA a0 40).1 2).1 30).2)) 21 0) fW) ?_;refine KU (rv:=[.cell 2 334]) rfl ?_;simp[f.h]
theorem WV(a0:YW):Sd 344 [a0.row] [(Ko a0).row]:=by have f:=me (Ko.eq_1 a0);refine soD func344 ntmps344 ?_;refine dIs mixed ?_;refine cDs [false] (xh a0) ?_;exact rtD [.cell 2 98] f
theorem R6(h:b)(k:a:=by(intros;first|omega|with_unfolding_all (first|first|omega|(have z:=Z4 (ZA a0 5).1 3;have hl:=zT;omega))|((try simp only[Y5,show ∀x,IntKind.i64.wrap x=W x from fun _=>rfl]at*);omega))):a/\b:=⟨k,h⟩
theorem Wg(a0:ZL):Xe prog 305 true a0.row [] (Qg a0).1.row [(Qg a0).2.row]:=by
 have f:=me (Qg.eq_1 a0);refine Ym func305 rfl fL (fun v=>?_);simp[ntmps305];refine cBs [] (Zh a0 5) ?_;refine cF f ?_ ?_<;>intro k1 h1 f
 ·refine cRs (Zp.rd (qE)) ?_;refine cBo [] (Zh (ZA a0 5).1 3) ?_;have i1:(ZA (ZA a0 5).1 3).2.toNat<YP.length:=by(have z:=Z4 (ZA a0 5).1 3;have hl:=zT;omega)
  simp[i1,ZI];repeat with_reducible refine R6 ?_
  refine cDs [true,false] (jG (nth YP (ZA (ZA a0 5).1 3).2.toNat)) ?_;refine KU (rv:=[.cell 2 98]) rfl ?_;simp[f.h]
 refine cF f ?_ ?_<;>intro k2 h2 f
 ·refine cBs [] (Rc (ZA a0 5).1) ?_;refine cDs [true,false] (xk (yP (ZA a0 5).1).2) ?_;refine KU (rv:=[.cell 2 98]) rfl ?_;simp[f.h]
 refine cF f ?_ ?_<;>intro k3 h3 f
 ·refine cBs [] (T6 (ZA a0 5).1) ?_;refine dIs mixed ?_;refine cRs (Zp.rd (Xi)) ?_;refine cRs (T2 Zm (Q8 (ZA a0 5).1).2) ?_;refine cDs [true,false] (Uh (qS Zm (Q8 (ZA a0 5).1).2) (Q8 (ZA a0 5).1).2) ?_;refine KU (rv:=[.cell 2 98]) rfl ?_;simp[f.h]
 refine cF f ?_ ?_<;>intro k5 h4 f
 ·refine cBs [] (WK (ZA a0 5).1) ?_;refine cDs [true,false] (ya (ZR (ZA a0 5).1).2.1) ?_;refine KU (rv:=[.cell 2 98]) rfl ?_;simp[f.h]
 refine cBs [] (Rl (ZA a0 5).1) ?_;refine cDs [true,false] (WV (yM (ZA a0 5).1).2) ?_;refine KU (rv:=[.cell 2 98]) rfl ?_;simp[f.h]
theorem jO(h:b)(k:a:=by(intros;first|omega|with_unfolding_all (first|first|omega|(have z:=Z4 (Z7 a0).1 3;have zs:=kC a0;have hl:=zT;simp only[Y5]at*;omega))|((try simp only[Y5,show ∀x,IntKind.i64.wrap x=W x from fun _=>rfl]at*);omega))):a/\b:=⟨k,h⟩
theorem Tq(a0:ZL):Xe prog 262 false a0.row [] (ZW a0).1.row [(ZW a0).2.1.row,(ZW a0).2.2.1.row,(ZW a0).2.2.2.row]:=by
 have f:=me (ZW.eq_1 a0);refine Ym func262 rfl fL (fun v=>?_);simp[ntmps262];refine cBs [] (WK a0) ?_;refine dIs mixed ?_;refine cRs (Zp.rd (ya (ZR a0).2.1)) ?_;refine cR (Zp.rd (qE)) ?_;have i1:(W ((ZR a0).2.1.YC-1)).toNat<YP.length:=by(have z:=Z4 (Z7 a0).1 3;have zs:=kC a0;have hl:=zT;simp only[Y5];omega)
 simp[i1,ZI];repeat with_reducible refine jO ?_
 refine cRs (Zp.rd (jG (nth YP (W ((ZR a0).2.1.YC-1)).toNat))) ?_;refine eIs ?_;refine j6 [(0,0),(5,5),(28,5),(30,0),(34,5)] [] [32,2000031,3000001] mixed fL fL fL fL fL fL fL ?_;simp;refine cRs (Zp.rd (XC)) ?_;refine bsD ?_;simp;refine cBs [] (x1 (ZR a0).1 ([10,30,60,90]:List Int) fr) ?_;refine cR (Zp.rd (qE)) ?_;simp[i1,ZI];repeat with_reducible refine jO ?_
 refine cRs (zn Zx (YK.mk (ZR a0).2.1.YC (Zn (ZR a0).1 ([10,30,60,90]:List Int)).2 (-1) (nth YP (W ((ZR a0).2.1.YC-1)).toNat).Yc 0) fW) ?_;refine cBs [] (Kd (Zn (ZR a0).1 ([10,30,60,90]:List Int)).1 4) ?_;refine cF f ?_ ?_<;>intro k3 h1 f
 ·refine okD fun k4=>?_;refine dIs mixed ?_;refine cRs (Zp.rd (xk (XM Zx (YK.mk (ZR a0).2.1.YC (Zn (ZR a0).1 ([10,30,60,90]:List Int)).2 (-1) (nth YP (W ((ZR a0).2.1.YC-1)).toNat).Yc 0)).1)) ?_;refine cDs [] (xY (ZH.mk ([YE (ZR a0).2.1,YX (nth YP (W ((ZR a0).2.1.YC-1)).toNat)]:List ZM) ([]:List ZE)) (Y3 (XM Zx (YK.mk (ZR a0).2.1.YC (Zn (ZR a0).1 ([10,30,60,90]:List Int)).2 (-1) (nth YP (W ((ZR a0).2.1.YC-1)).toNat).Yc 0)).1) fT fT) ?_;refine cBs [] (Kd (Zb (Zn (ZR a0).1 ([10,30,60,90]:List Int)).1 4).1 4) ?_;refine cF f ?_ ?_<;>intro k5 h2 f
  ·refine okD fun k6=>?_;refine j6 [(0,0),(7,7),(58,0)] [] [59,3000001] mixed fL fL fL fL fL fL fL ?_;simp;refine cBs [] (Wg (Zb (Zb (Zn (ZR a0).1 ([10,30,60,90]:List Int)).1 4).1 4).1) ?_;refine cDs [] (xY (Xd (ZH.mk ([YE (ZR a0).2.1,YX (nth YP (W ((ZR a0).2.1.YC-1)).toNat)]:List ZM) ([]:List ZE)) (Y3 (XM Zx (YK.mk (ZR a0).2.1.YC (Zn (ZR a0).1 ([10,30,60,90]:List Int)).2 (-1) (nth YP (W ((ZR a0).2.1.YC-1)).toNat).Yc 0)).1)).1 (Qg (Zb (Zb (Zn (ZR a0).1 ([10,30,60,90]:List Int)).1 4).1 4).1).2 fT fT) ?_;refine Se [(2,2),(3,3),(4,4),(5,5),(6,6),(7,7)] mixed fL fL fL fL ?_;simp;refine KU (rv:=[.cell 2 59,.cell 3 53,.cell 4 55]) rfl ?_;simp[f.h]
  refine Se [(2,2),(3,3),(4,4),(5,5),(6,6),(7,7)] mixed fL fL fL fL ?_;simp;refine KU (rv:=[.cell 2 59,.cell 3 53,.cell 4 55]) rfl ?_;simp[f.h]
 refine cBs [] (Kd (Zb (Zn (ZR a0).1 ([10,30,60,90]:List Int)).1 4).1 4) ?_;refine cF f ?_ ?_<;>intro k9 h3 f
 ·refine okD fun hQ=>?_;refine j6 [(0,0),(7,7),(58,0)] [] [59,3000001] mixed fL fL fL fL fL fL fL ?_;simp;refine cBs [] (Wg (Zb (Zb (Zn (ZR a0).1 ([10,30,60,90]:List Int)).1 4).1 4).1) ?_;refine cDs [] (xY (ZH.mk ([YE (ZR a0).2.1,YX (nth YP (W ((ZR a0).2.1.YC-1)).toNat)]:List ZM) ([]:List ZE)) (Qg (Zb (Zb (Zn (ZR a0).1 ([10,30,60,90]:List Int)).1 4).1 4).1).2 fT fT) ?_;refine Se [(2,2),(3,3),(4,4),(5,5),(6,6),(7,7)] mixed fL fL fL fL ?_;simp;refine KU (rv:=[.cell 2 59,.cell 3 53,.cell 4 55]) rfl ?_;simp[f.h]
 refine Se [(2,2),(3,3),(4,4),(5,5),(6,6),(7,7)] mixed fL fL fL fL ?_;simp;refine KU (rv:=[.cell 2 59,.cell 3 53,.cell 4 55]) rfl ?_;simp[f.h]
theorem KM(a0:ZH)(a1:ZE)(u0:Sm 2326528 a0)(u1:Sm 2326528 a1):Sd 48 [a0.row,a1.row] [(ZX a0 a1).1.row,rB (ZX a0 a1).2]:=by
 have f:=me (ZX.eq_1 a0 a1);refine soD func48 ntmps48 ?_;refine cDs [] (JM a0 (sg u0)) ?_;refine drJ [14] mixed ?_;simp;refine cDs [true,true,true,false,false] (kA a1 (sg u1)) ?_;refine jU ?_;have c1:=sl 2326528 a0.ZK (an u0 u1);simp;refine jy (wD:=a0.ZK.map ZE.row) (news:=([a1]:List ZE).map ZE.row) (l1:=[(8,1)]) (l2:=[(12,3),(12,4)]) (size:=5) ?_;simp;refine cRs (xI (ZH.mk a0.ZG (a0.ZK++([a1]:List ZE)))) ?_;refine cF f ?_ ?_<;>intro k2 h1 f
 ·refine cDs [] (JM a0 (sg u0)) ?_;exact rtD [.cell 4 59,.tmp 5] f
 exact rtD [.cell 4 59,.tmp 5] f
theorem qY(a0:ZH)(a1:ZP)(u0:Sm 2318336 a0)(u1:Sm 2318336 a1):Sd 83 [a0.row,a1.row] [rL 1 iR (YI a0 a1)]:=by
 have f:=me (YI.eq_1 a0 a1);refine soD func83 ntmps83 ?_;refine lp2 (Qd.eq_2 a0 a1) (fun J U=>Ys 27 [eX 2 (a0.row.map .d),eX 3 (a1.row.map .d),(5,.one (.sref 5 0 0 J.length),[.arr false 1 (J.map iR)]),eI 6 (U:Int)]) (fun n1 J U=>a0.ZK.length<n1+U/\U<=a0.ZK.length/\J.length<=0+1*U) (a0.ZK.length+1) ([]:List Int) 0 (fun p1 J U e1 j1=>?_) (h0:=wkS [((5,0),some (7,0))] []);refine cF e1 ?_ ?_<;>intro k2 h1 e1
 ·have i1:=ix h1;have m2:=ml a0.ZK (k2 10 _ rfl);have c1:=sl 2318336 a0.ZK (an u0 u1);have w1:=wr U;refine dIo mixed ?_;simp[i1,ZI];refine rpS ?_;refine cRs (ji (nth a0.ZK U).Method a1 (sg u1)) ?_;exact nx2 e1 (hw:=Y2 [((5,0),some (25,0))] [] rfl ff)
 exact rtD [.tmp 4] (ms f e1)
theorem kY(a0:Int)(a1:ZE)(u0:Sm 2326528 a1):Sa 140 [rI a0,a1.row] [rI (QA a0 a1)]:=by
 have f:=me (QA.eq_1 a0 a1);refine so func140 ntmps140 ?_;refine lp2 (Xa.eq_2 a1) (fun J U=>Ys 75 [eI 0 a0,eX 3 (a1.row.map .d),(5,.one (.sref 5 0 0 J.length),[.arr false 1 (J.map iR)]),eI 6 (U:Int)]) (fun n1 J U=>a1.Path.length<n1+U/\U<=a1.Path.length/\J.length<=4+2*U) (a1.Path.length+1) ([4,a1.Count,a1.Method,a1.Mh]:List Int) 0 (fun p1 J U e1 j1=>?_) (h0:=wkS [((5,0),some (14,0))] []);refine cFo e1 ?_ ?_<;>intro k2 h1 e1
 ·have q1:=h1;try simp at q1
  have i1:=ix h1;have m2:=ml a1.Path (k2 17 _ rfl);have c1:=sl 2326528 a1.Path u0;have w1:=wr U;simp[i1,ZI];refine rpS ?_;refine cFo e1 ?_ ?_<;>intro k3 h2 e1
  ·have q2:=h2;try simp at q2
   simp;refine rpS ?_;exact nx2 e1 (hw:=Y2 [((5,0),some (39,0))] [] rfl ff)
  have q2:=h2;try simp at q2
  simp;refine rpS ?_;exact nx2 e1 (hw:=Y2 [((5,0),some (42,0))] [] rfl ff)
 have q1:=h1;try simp at q1
 have c2:=sl 2326528 a1.Path u0;have f:=ms f e1;simp;refine rpS ?_;refine lp2 (QI.eq_2 a1) (fun wK wa=>Ys 75 [eI 0 a0,eX 3 (a1.row.map .d),(5,.one (.sref 5 0 0 wK.length),[.arr false 1 (wK.map iR)]),eI 7 (wa:Int)]) (fun n2 wK wa=>a1.YQ.length<n2+wa/\wa<=a1.YQ.length/\wK.length<=5+2*2326528+6*wa) (a1.YQ.length+1) (J++([(a1.YQ.length:Int)]:List Int)) 0 (fun p2 wK wa e2 j2=>?_) (hI:=by(have o:a1.Path.length<=2326528:=JA (xs u0);simp at*;omega)) (h0:=wkS [((5,0),some (48,0))] []);refine cFo e2 ?_ ?_<;>intro k5 h3 e2
 ·have q3:=h3;try simp at q3
  have i2:=ix h3;have m4:=ml a1.YQ (k5 51 _ rfl);have c3:=sl 2326528 a1.YQ u0;have w2:=wr wa;simp;refine dIo mixed ?_;simp[i2,ZI];refine rpS ?_;refine cRf i2 (Zp.rd (yk (nth a1.YQ wa))) ?_;exact nx2 e2 (hI:=by(simp;omega)) (hw:=Y2 [((5,0),some (71,0))] [] rfl (by simp[w2]))
 have q3:=h3;try simp at q3
 have c4:=sl 2326528 a1.YQ u0;have f:=ms f e2;simp;refine cRs (QS a0 wK fS) ?_;exact rt [.tmp 4] f
theorem WY(a0:Int)(a1:List ZM)(u0:Sm 2326528 a1):Sa 211 [rI a0,rL 3 ZM.row a1] [rI (Qe a0 a1)]:=by
 have f:=me (Qe.eq_1 a0 a1);refine so func211 ntmps211 ?_;refine lp2 (Qs.eq_2 a0 a1) (fun J U=>Ys 39 [eI 0 a0,eL 1 3 a1 ZM.row,(5,.one (.sref 5 0 0 J.length),[.arr false 1 (J.map iR)]),eI 6 (U:Int)]) (fun n1 J U=>a1.length<n1+U/\U<=a1.length/\J.length<=1+1*U) (a1.length+1) ([2]:List Int) 0 (fun p1 J U e1 j1=>?_) (h0:=wkS [((5,0),some (7,0))] []);refine cF e1 ?_ ?_<;>intro k2 h1 e1
 ·have i1:=ix h1;have m2:=ml a1 (k2 1 _ rfl);have c1:=sl 2326528 a1 u0;have w1:=wr U;refine Oi [2,3,4,5,6,7,8,9,10,11,12,13,14,15,16,17,18,0,1,19,20,21,22] mixed fL fL fL ?_;have c2:=sl 2326528 (nth a1 U).zo u0;simp[i1,ZI];refine rpS ?_;refine cRs (QS a0 (([(nth a1 U).Key,(nth a1 U).Mark]:List Int)++(nth a1 U).zo) fg) ?_;exact nx2 e1 (hw:=Y2 [((5,0),some (35,0))] [] rfl ff)
 have c3:=sl 2326528 a1 u0;have f:=ms f e1;refine cRs (QS a0 J fS) ?_;exact rt [.tmp 4] f
theorem Vp(a0 a1:Int)(a2:List ZM)(a3:Int)(u0:Sm 2322432 a2):Sa 141 [rI a0,rI a1,rL 3 ZM.row a2,rI a3] [rI (xi a0 a1 a2 a3)]:=by have f:=me (xi.eq_1 a0 a1 a2 a3);refine so func141 ntmps141 ?_;refine cRs (WY a0 a2 (sg u0)) ?_;refine cRs (QS a0 ([3,a1,Qe a0 a2,a3]:List Int) fg) ?_;exact rt [.tmp 8] f
theorem Yk(h:b)(k:a:=by(intros;first|omega|with_unfolding_all (first|first|omega|(have cc:a0.ZK.length<=2318336:=JA (xs u0);have z0:=oR;simp at z0;have z:=yb fJ z0.1;have z2:=z0.2;(try have w3:IntKind.i64.wrap (a2-1)=a2-1:=Ya fJ fJ);(try have w4:W (a2-1)=a2-1:=w3);first|omega|(refine⟨⟨z0.1,fJ⟩,fJ,fJ⟩)|(simp_all;omega)))|(simp_all;done)|(simp_all;omega)|grind|((try simp only[Y5,show ∀x,IntKind.i64.wrap x=W x from fun _=>rfl]at*);omega))):a/\b:=⟨k,h⟩
theorem Vs(a0:ZH)(a1:List Int)(a2:Int)(u0:Sm 2318336 a0)(u1:Sm 2318336 a1):Sa 82 [a0.row,rL 1 iR a1,rI a2] [rI (Jg a0 a1 a2)]:=by
 have f:=me (Jg.eq_1 a0 a1 a2);refine so func82 ntmps82 ?_;refine dIs mixed ?_;refine cRs (Zw a2 0 (W ((a0.ZK.length:Int)-1))) ?_;refine gIo ?_ ?_<;>intro G
 ·have oR:=G;have c1:=sl 2318336 a0.ZK (an u0 u1);have w1:IntKind.i64.wrap ((a0.ZK.length:Int)-1)=(a0.ZK.length:Int)-1:=Ya fJ fJ;have g1:=G;try simp[Zt,w1]at g1
  have i1:a2.toNat<a0.ZK.length:=fR;simp[i1,ZI,G];refine ek ?_;refine cGo (fun gg=>Zw (nth a0.ZK a2.toNat).Count 0 (a0.ZG.length:Int)) ?_;simp[G];refine ek ?_;refine cKo f ?_ ?_<;>intro k2 h1 f
  ·have q1:=h1;try simp[Zt,w1]at q1
   simp[G];refine ek ?_;exact rtg [.tmp 6] f
  ·have q1:=h1;try simp[Zt,w1]at q1
   simp[i1,ZI,G];refine ek ?_;refine cKo f ?_ ?_<;>intro k3 h2 f
   ·have q2:=h2;try simp at q2
    have i2:(W (a2-1)).toNat<a0.ZK.length:=fR;simp[i2,ZI,G];refine ek ?_;refine cR (kY (nth a0.ZK a2.toNat).Method (nth a0.ZK (W (a2-1)).toNat) (sg (XR (ZH.KK u0)))) ?_ (wR:=by first|(simp;done)|(simp[W,w1];done));simp[G];refine ek ?_;refine dIo mixed ?_;have i3:a2.toNat<a1.length:=fR;simp[i3,ZI,i1,G];refine ek ?_;refine cR (Vp (nth a0.ZK a2.toNat).Method (nth a1 a2.toNat) (a0.ZG.take (nth a0.ZK a2.toNat).Count.toNat) (QA (nth a0.ZK a2.toNat).Method (nth a0.ZK (W (a2-1)).toNat)) (ZN (n:=2318336) fO (xs (an u0 u1)))) ?_ (wR:=by first|(simp;done)|(simp[W,w1];done));simp[G];refine ek ?_;exact rtg [.tmp 6] f
   ·have q2:=h2;try simp at q2
    simp[G];refine ek ?_;refine dIo mixed ?_;have i4:a2.toNat<a1.length:=fR
    simp[i4,ZI,i1,G];refine ek ?_;refine cR (Vp (nth a0.ZK a2.toNat).Method (nth a1 a2.toNat) (a0.ZG.take (nth a0.ZK a2.toNat).Count.toNat) 0 (ZN (n:=2318336) fO (xs (an u0 u1)))) ?_;simp[G];refine ek ?_;exact rtg [.tmp 6] f
 ·have oR:=G;simp[G];refine ek ?_;refine sGo ?_;simp[G];refine ek ?_;have c2:=sl 2318336 a0.ZK (an u0 u1);have w2:IntKind.i64.wrap ((a0.ZK.length:Int)-1)=(a0.ZK.length:Int)-1:=Ya fJ fJ;refine cKo f ?_ ?_<;>intro k6 h3 f
  ·have q3:=h3;try simp[Zt,w2]at q3
   simp[G];refine ek ?_;exact rtg [.tmp 6] f
  ·simp[G]at h3
theorem jI(a0:ZL)(a1:Int):Xe prog 307 true a0.row [rI a1] (Z3 a0 a1).1.row [rL 1 iR (Z3 a0 a1).2]:=by
 have f:=me (Z3.eq_1 a0 a1);refine Ym func307 rfl fL (fun v=>?_);simp[ntmps307];refine cBs [] (Zh a0 a1) ?_;refine lp5 (JT.eq_2) (fun J U wB wS wX=>Ys 21 [(0,.fix v (.one (.bptr 0 0)),[.box [.d (.sl 1 (wB.map bR)),.d (.int .i64 (wS:Int)),.d (.int .i64 wX)]]),(5,.one (.sref 5 0 0 J.length),[.arr false 1 (J.map iR)]),eI 6 U]) (fun n1 J U wB wS wX=>U+1<=(n1:Int)/\0<=U/\(J.length:Int)+U<=16777215) ((ZA a0 a1).2.toNat+2) ([]:List Int) (ZA a0 a1).2 (ZA a0 a1).1.b (ZA a0 a1).1.i (ZA a0 a1).1.h (fun p1 J U wB wS wX e1 j1=>?_) (hI:=by(have z:=Z4 a0 a1;have z2:=Rv a0 a1;(try dsimp only);simp only[List.length_nil];omega)) (h0:=wkS [((5,0),some (7,0))] []);try dsimp only at j1
 refine cF e1 ?_ ?_<;>intro k2 h1 e1
 ·refine cBs [] (Zh (ZL.mk wB wS wX) 99) ?_;exact nx5 e1 (hI:=by(have hh:=h1;simp at hh;simp only[Y5];(try dsimp only);simp only[List.length_append,List.length_singleton];omega)) (hw:=wkS [((5,0),some (19,0))] [])
 have f:=ms f e1;refine KU (rv:=[.tmp 4]) rfl ?_;simp[f.h]
theorem UY(a0 a1 a2:Int):Sa 143 [rI a0,rI a1,rI a2] [rI (Kn a0 a1 a2)]:=by have f:=me (Kn.eq_1 a0 a1 a2);refine so func143 ntmps143 ?_;refine cRs (QS a0 ([1,a1,a2]:List Int) (by simp(maxDischargeDepth:=12) [QB,Z9];try omega)) ?_;exact rt [.tmp 6] f
theorem xz(a0:Int)(a1:List Int)(u0:Sm 2322432 a1):Sd 85 [rI a0,rL 1 iR a1] [rL 1 iR (za a0 a1)]:=by
 have f:=me (za.eq_1 a0 a1);refine soD func85 ntmps85 ?_;refine lp2 (Ke.eq_2 a0 a1) (fun J U=>Ys 41 [eI 0 a0,eL 1 1 a1 iR,(5,.one (.sref 5 0 0 J.length),[.arr false 1 (J.map iR)]),eI 6 (U:Int)]) (fun n1 J U=>a1.length<n1+U/\U<=a1.length+1/\J.length<=U) (a1.length+1) ([]:List Int) 0 (fun p1 J U e1 j1=>?_) (h0:=wkS [((5,0),some (7,0))] []);refine cF e1 ?_ ?_<;>intro k2 h1 e1
 ·have i1:=ix h1;have m2:=ml a1 (k2 1 _ rfl);have c1:=sl 2322432 a1 u0;have w1:=wr U;refine cFt e1 ?_ ?_<;>intro k3 h2 e1
  ·refine okD fun k4=>?_;refine dIo mixed ?_;have i2:=ik (W ((U:Int)+1)).toNat a1
   simp[i1,ZI,i2];refine rpS ?_;refine cRs (UY a0 (nth a1 U) (nth a1 (W ((U:Int)+1)).toNat)) ?_ (wR:=by first|(simp;done)|(simp[W,w1];done));have w2:IntKind.i64.wrap ((U:Int)+2)=(U:Int)+2:=Ya fJ fJ
   exact nx2 e1 (hI:=by first|omega|(simp at*;omega)) (hw:=Y2 [((5,0),some (32,0))] [] rfl (by simp[w1,w2]))
  simp[i1,ZI];refine rpS ?_;have w3:IntKind.i64.wrap ((U:Int)+2)=(U:Int)+2:=Ya fJ fJ
  exact nx2 e1 (hI:=by first|omega|(simp at*;omega)) (hw:=Y2 [((5,0),some (39,0))] [] rfl (by simp[w1,w3]))
 exact rtD [.tmp 4] (ms f e1)
theorem xQ(a0:Int)(a1:List Int)(u0:Sm 2318336 a1):Sa 46 [rI a0,rL 1 iR a1] [rI (Yh a0 a1)]:=by
 have f:=me (Yh.eq_1 a0 a1);refine so func46 ntmps46 ?_;refine cRs (Zw (a1.length:Int) 1 16) ?_;refine cFo f ?_ ?_<;>intro k1 h1 f
 ·have q1:=h1;try simp[Zt]at q1
  simp;exact rt [.tmp 4] f
 have q1:=h1;try simp[Zt]at q1
 simp;refine rpS ?_;refine lp1 (K2.eq_2 a0) (fun J=>Ys 22 [eI 0 a0,(5,.one (.sref 5 0 0 J.length),[.arr false 1 (J.map iR)])]) (fun n1 J=>J.length<n1/\1<=J.length/\J.length<=16) (a1.length+1) a1 (fun p1 J e1 j1=>?_) (hI:=by first|omega|(simp at*;omega)) (h0:=wkS [((5,0),some (12,0))] []);refine cFt e1 ?_ ?_<;>intro k3 h2 e1
 ·refine cDs [false] (xz a0 J fQ) ?_;exact nx1 e1 (hI:=by(have z:=xC a0 J fJ;(try dsimp only);simp at*;omega)) (hw:=wkS [((5,0),some (18,0))] [])
 have f:=ms f e1;have i1:=ik 0 J;simp[i1,ZI];refine rpS ?_;exact rt [.tmp 4] f
theorem xN(h:b)(k:a:=by(intros;first|omega|with_unfolding_all (first|first|omega|(have tm:=Int.tmod_eq_emod_of_nonneg (b:=2) (show 0<=J by omega);(try simp only[Y5,show ∀x,IntKind.i64.wrap x=W x from fun _=>rfl]at*);(try simp at*);omega))|((try simp only[Y5,show ∀x,IntKind.i64.wrap x=W x from fun _=>rfl]at*);omega))):a/\b:=⟨k,h⟩
theorem kL(a0:Int)(a1:List Int)(a2:Int)(u0:Sm 2318336 a1):Sd 49 [rI a0,rL 1 iR a1,rI a2] [rL 2 Zs.row (Y4 a0 a1 a2)]:=by
 have f:=me (Y4.eq_1 a0 a1 a2);refine soD func49 ntmps49 ?_;refine cGs (fun gg=>Zw a2 0 (W ((a1.length:Int)-1))) ?_;have c1:=sl 2318336 a1 u0;have w1:IntKind.i64.wrap ((a1.length:Int)-1)=(a1.length:Int)-1:=Ya fJ fJ;refine cFo f ?_ ?_<;>intro k1 h1 f
 ·have q1:=h1;try simp[Zt,w1]at q1
  simp;exact rtD [.tmp 6] f
 have q1:=h1;try simp[Zt,w1]at q1
 simp;repeat with_reducible refine xN ?_
 refine lp3 (Xl.eq_2 a0) (fun J U wB=>Ys 60 [eI 0 a0,eI 2 J,(7,.one (.sref 7 0 0 U.length),[.arr false 2 (U.map Zs.row)]),(8,.one (.sref 8 0 0 wB.length),[.arr false 1 (wB.map iR)])]) (fun n1 J U wB=>wB.length<n1/\0<=J/\J<(wB.length:Int)/\wB.length<=16/\U.length+n1<=17) (a1.length+1) a2 ([]:List Zs) a1 (fun p1 J U wB e1 j1=>?_) (hI:=by first|omega|(simp at*;omega)) (h0:=wkS [((7,0),some (9,0)),((8,0),some (24,0))] []);try dsimp only at j1
 refine cF e1 ?_ ?_<;>intro k3 h2 e1
 ·refine cFf e1 ?_ ?_<;>intro k4 h3 e1
  ·have i1:(W (J-1)).toNat<wB.length:=fZ;simp[i1,ZI];repeat with_reducible refine xN ?_
   refine cDs [false] (xz a0 wB fQ) ?_;exact nx3 e1 (hI:=by(have z:=xC a0 wB fJ;have td:=Int.tdiv_eq_ediv_of_nonneg (b:=2) (show 0<=J by omega);have w2:W (Int.tdiv J 2)=Int.tdiv J 2:=Ya fJ fJ;(try dsimp only);rw[w2];simp at*;omega)) (hw:=Y2 [((7,0),some (39,0)),((8,0),some (56,0))] [] rfl ff)
  refine cFo e1 ?_ ?_<;>intro k5 h4 e1
  ·have q4:=h4;try simp[w1]at q4
   have i2:(W (J+1)).toNat<wB.length:=fZ;simp[i2,ZI];repeat with_reducible refine xN ?_
   refine cDs [false] (xz a0 wB fQ) ?_;exact nx3 e1 (hI:=by(have z:=xC a0 wB fJ;have td:=Int.tdiv_eq_ediv_of_nonneg (b:=2) (show 0<=J by omega);have w2:W (Int.tdiv J 2)=Int.tdiv J 2:=Ya fJ fJ;(try dsimp only);rw[w2];simp at*;omega)) (hw:=Y2 [((7,0),some (53,0)),((8,0),some (56,0))] [] rfl ff)
  have q4:=h4;try simp[w1]at q4
  simp;refine cDs [false] (xz a0 wB fQ) ?_;exact nx3 e1 (hI:=by(have z:=xC a0 wB fJ;have td:=Int.tdiv_eq_ediv_of_nonneg (b:=2) (show 0<=J by omega);have w2:W (Int.tdiv J 2)=Int.tdiv J 2:=Ya fJ fJ;(try dsimp only);rw[w2];simp at*;omega)) (hw:=Y2 [((8,0),some (56,0))] [] rfl ff)
 exact rtD [.tmp 6] (ms f e1)
theorem Wt(a0:List Yt)(a1:List ZZ)(a2 a3:Int)(a4:List Int)(a5:Int)(a6:List Int)(a7 a8:Int)(u0:Sm 2314240 a0)(u1:Sm 2314240 a1)(u2:Sm 2314240 a4)(u3:Sm 2314240 a6):Sd 306 [rL 5 Yt.row a0,rL 3 ZZ.row a1,rI a2,rI a3,rL 1 iR a4,rI a5,rL 1 iR a6,rI a7,rI a8] [(KZ a0 a1 a2 a3 a4 a5 a6 a7 a8).row]:=by
 have f:=me (KZ.eq_1 a0 a1 a2 a3 a4 a5 a6 a7 a8);have c1:=sl 2314240 a4 (an u0 (an u1 (an u2 u3)));refine soD func306 ntmps306 ?_;refine cRs (xQ a2 (a4++([a3]:List Int)) fa) ?_;refine cDs [false] (kL a2 (a4++([a3]:List Int)) (W (((a4++([a3]:List Int)).length:Int)-1)) fa) ?_;refine lp2 (Kj.eq_2 a0 a1 a2 a3 a4 a6 a7 a8) (fun J U=>Ys 71 [eL 0 5 a0 Yt.row,eL 1 3 a1 ZZ.row,eL 6 1 a6 iR,eI 7 a7,eI 8 a8,(18,.one (.bptr 18 0),[.box [.d (.int .i64 0),.d (.int .i64 0),.d (.int .i64 0),.nil 2,.nil 5]]),(20,.one (.bptr 20 0),[.box [.d (.int .i64 a5),.d (.int .i64 a2),.d (.int .i64 (Yh a2 (a4++([a3]:List Int)))),.sref 40 0 0 (Y4 a2 (a4++([a3]:List Int)) (W (((a4++([a3]:List Int)).length:Int)-1))).length,.sref 20 5 0 U.length],.none,.none,.none,.none,.arr false 5 (U.map ZO.row)]),eI 21 (J:Int),(40,.any,[.arr false 2 ((Y4 a2 (a4++([a3]:List Int)) (W (((a4++([a3]:List Int)).length:Int)-1))).map Zs.row)])]) (fun n1 J U=>a6.length<n1+J/\J<=a6.length/\U.length<=0+1*J) (a6.length+1) 0 ([]:List ZO) (fun p1 J U e1 j1=>?_) (h0:=wkS [((20,5),none)] []);refine cF e1 ?_ ?_<;>intro k2 h1 e1
 ·have i1:=ix h1;have m2:=ml a6 (k2 6 _ rfl);have c2:=sl 2314240 a6 (an u0 (an u1 (an u2 u3)));have w1:=wr J;refine dIo mixed ?_;simp[i1,ZI];refine rpS ?_;refine cRs (yZ a0 a1 (ZO.mk (nth a6 J) a7 a8 (Yh a2 (a4++([a3]:List Int))) 0) (sg u0) (sg u1)) ?_;refine cF e1 ?_ ?_<;>intro k4 h2 e1
  ·exact nx2 e1 (hw:=Y2 [((20,5),some (68,0))] [] rfl ff)
  exact ny2 w1 e1
 have c3:=sl 2314240 a6 (an u0 (an u1 (an u2 u3)));exact rtD [.cell 18 87] (ms f e1)
theorem SH(a0:ZL)(a1:ZH)(a2:ZP)(a3 a4:Int)(u0:Sm 2310144 a1)(u1:Sm 2310144 a2):Xe prog 263 false a0.row [a1.row,a2.row,rI a3,rI a4] (Xf a0 a1 a2 a3 a4).1.row [(Xf a0 a1 a2 a3 a4).2.row]:=by
 have f:=me (Xf.eq_1 a0 a1 a2 a3 a4);refine Ym func263 rfl fL (fun v=>?_);simp[ntmps263];refine cRs (Zp.rd (KM a1 (ZE.mk (a1.ZG.length:Int) a3 0 ([]:List Zs) ([]:List ZO)) (sg u0) (by simp(maxDischargeDepth:=12) [QB,Z9,ZN (m:=2326528) fO u0,ZN (m:=2326528) fO u1];try omega))) ?_;refine cF f ?_ ?_<;>intro k1 h1 f
 ·refine KU (rv:=[.cell 10 59]) rfl ?_;simp[f.h]
 refine dIs mixed ?_;refine cRs (Zp.rd (qY (ZX a1 (ZE.mk (a1.ZG.length:Int) a3 0 ([]:List Zs) ([]:List ZO))).1 a2 fj fj)) ?_;refine cRs (Vs (ZX a1 (ZE.mk (a1.ZG.length:Int) a3 0 ([]:List Zs) ([]:List ZO))).1 (YI (ZX a1 (ZE.mk (a1.ZG.length:Int) a3 0 ([]:List Zs) ([]:List ZO))).1 a2) (W (((ZX a1 (ZE.mk (a1.ZG.length:Int) a3 0 ([]:List Zs) ([]:List ZO))).1.ZK.length:Int)-1)) fX fX) ?_;refine cBs [] (Kd a0 3) ?_;refine cF f ?_ ?_<;>intro k3 h2 f
 ·refine okD fun k4=>?_;refine j6 [(0,0),(6,6),(11,11),(49,0),(51,6),(55,0)] [] [50,56,3000001] mixed fL fL fL fL fL fL fL ?_;simp;refine cRs (Zp.rd (XC)) ?_;refine cRs (Zp.rd (Xi)) ?_;refine cBs [] (jI (Zb a0 3).1 4) ?_;refine cBs [] (Zh (Z3 (Zb a0 3).1 4).1 9) ?_;refine cDs [true,true,true,false,false] (Wt Zx Zm a3 (Jg (ZX a1 (ZE.mk (a1.ZG.length:Int) a3 0 ([]:List Zs) ([]:List ZO))).1 (YI (ZX a1 (ZE.mk (a1.ZG.length:Int) a3 0 ([]:List Zs) ([]:List ZO))).1 a2) (W (((ZX a1 (ZE.mk (a1.ZG.length:Int) a3 0 ([]:List Zs) ([]:List ZO))).1.ZK.length:Int)-1))) (Z3 (Zb a0 3).1 4).2 (a1.ZG.length:Int) ([1,3,4]:List Int) (ZA (Z3 (Zb a0 3).1 4).1 9).2 a4 fm fo fp fk) ?_;refine cDs [] (KM a1 (KZ Zx Zm a3 (Jg (ZX a1 (ZE.mk (a1.ZG.length:Int) a3 0 ([]:List Zs) ([]:List ZO))).1 (YI (ZX a1 (ZE.mk (a1.ZG.length:Int) a3 0 ([]:List Zs) ([]:List ZO))).1 a2) (W (((ZX a1 (ZE.mk (a1.ZG.length:Int) a3 0 ([]:List Zs) ([]:List ZO))).1.ZK.length:Int)-1))) (Z3 (Zb a0 3).1 4).2 (a1.ZG.length:Int) ([1,3,4]:List Int) (ZA (Z3 (Zb a0 3).1 4).1 9).2 a4) (sg u0) fh) ?_;refine KU (rv:=[.cell 10 59]) rfl ?_;simp[f.h]
 refine j6 [(0,0),(6,6),(11,11),(49,0),(51,6),(55,0)] [] [50,56,3000001] mixed fL fL fL fL fL fL fL ?_;simp;refine cRs (Zp.rd (XC)) ?_;refine cRs (Zp.rd (Xi)) ?_;refine cBs [] (jI (Zb a0 3).1 4) ?_;refine cBs [] (Zh (Z3 (Zb a0 3).1 4).1 9) ?_;refine cDs [true,true,true,false,false] (Wt Zx Zm a3 (Jg (ZX a1 (ZE.mk (a1.ZG.length:Int) a3 0 ([]:List Zs) ([]:List ZO))).1 (YI (ZX a1 (ZE.mk (a1.ZG.length:Int) a3 0 ([]:List Zs) ([]:List ZO))).1 a2) (W (((ZX a1 (ZE.mk (a1.ZG.length:Int) a3 0 ([]:List Zs) ([]:List ZO))).1.ZK.length:Int)-1))) (Z3 (Zb a0 3).1 4).2 (a1.ZG.length:Int) ([1,2,3,4]:List Int) (ZA (Z3 (Zb a0 3).1 4).1 9).2 a4 fm fo fp fk) ?_;refine cDs [] (KM a1 (KZ Zx Zm a3 (Jg (ZX a1 (ZE.mk (a1.ZG.length:Int) a3 0 ([]:List Zs) ([]:List ZO))).1 (YI (ZX a1 (ZE.mk (a1.ZG.length:Int) a3 0 ([]:List Zs) ([]:List ZO))).1 a2) (W (((ZX a1 (ZE.mk (a1.ZG.length:Int) a3 0 ([]:List Zs) ([]:List ZO))).1.ZK.length:Int)-1))) (Z3 (Zb a0 3).1 4).2 (a1.ZG.length:Int) ([1,2,3,4]:List Int) (ZA (Z3 (Zb a0 3).1 4).1 9).2 a4) (sg u0) fh) ?_;refine KU (rv:=[.cell 10 59]) rfl ?_;simp[f.h]
theorem Rr(a0:ZL):Xe prog 201 false a0.row [] (XA a0).1.row [(XA a0).2.1.row,(XA a0).2.2.1.row,(XA a0).2.2.2.row]:=by
 have f:=me (XA.eq_1 a0);refine Ym func201 rfl fL (fun v=>?_);simp[ntmps201];refine cBs [] (Tq a0) ?_;refine IE [(17,0)] rfl fM ?_;refine cBs [] (x1 (ZW a0).1 ([10,25,30]:List Int) fr) ?_;refine cBs [] (Zh (Zn (ZW a0).1 ([10,25,30]:List Int)).1 4) ?_;refine lp7 (Jp.eq_2 a0) (fun J U wB wS wX vC vv=>Ys 41 [(0,.fix v (.one (.bptr 0 0)),[.box [.d (.sl 1 (wB.map bR)),.d (.int .i64 (wS:Int)),.d (.int .i64 wX)]]),(2,.one (.bptr 2 0),[.box [.nil 3,.nil 5]]),(3,.one (.bptr 3 0),[.box [.d (.int .i64 0),.nil 1,.nil 1]]),(4,.one (.bptr 4 0),[.box [.d (.int .i64 0),.d (.int .i64 0),.d (.int .i64 0),.d (.int .i64 0),.d (.int .i64 0),.d (.int .i64 0),.d (.int .i64 0),.d (.int .i64 0),.d (.int .i64 0)]]),(5,.one (.bptr 5 0),[.box [.d (.sl 3 (vC.map ZM.row)),.d (.sl 5 (vv.map ZE.row))]]),eX 6 ((ZW a0).2.2.1.row.map .d),eX 7 ((ZW a0).2.2.2.row.map .d),eI 8 J,eI 9 U]) (fun n1 J U wB wS wX vC vv=>U+1<=(n1:Int)/\0<=U/\n1<=5/\Sm (100-n1) (ZH.mk vC vv)) 5 (Zn (ZW a0).1 ([10,25,30]:List Int)).2 (ZA (Zn (ZW a0).1 ([10,25,30]:List Int)).1 4).2 (ZA (Zn (ZW a0).1 ([10,25,30]:List Int)).1 4).1.b (ZA (Zn (ZW a0).1 ([10,25,30]:List Int)).1 4).1.i (ZA (Zn (ZW a0).1 ([10,25,30]:List Int)).1 4).1.h (ZW a0).2.1.ZG (ZW a0).2.1.ZK (fun p1 J U wB wS wX vC vv e1 j1=>?_) (hI:=by(have z:=Z4 ((Zn (ZW a0).1 ([10,25,30]:List Int)).1) 4;(try dsimp only);exact⟨fJ,fJ,fJ,fJ,ZN (show 50<=95 by decide) (PI (yi (n:=50) (a0:=a0) fO).1)⟩));try dsimp only at j1
 refine cF e1 ?_ ?_<;>intro k2 h1 e1
 ·refine okD fun k3=>?_;refine j6 [(0,0),(5,5),(6,6),(25,0),(28,0)] [] [29,32,3000001] mixed fL fL fL fL fL fL fL ?_;simp;refine cBs [] (Zh (ZL.mk wB wS wX) 4) ?_;refine cBs [] (SH (ZA (ZL.mk wB wS wX) 4).1 (ZH.mk vC vv) (ZW a0).2.2.1 (W (1+(ZA (ZL.mk wB wS wX) 4).2)) J fy fy) ?_;refine IE [(35,0)] rfl fM ?_;refine cBs [] (x1 (Xf (ZA (ZL.mk wB wS wX) 4).1 (ZH.mk vC vv) (ZW a0).2.2.1 (W (1+(ZA (ZL.mk wB wS wX) 4).2)) J).1 ([10,20,40]:List Int) fr) ?_;exact nx7 e1 (hI:=by(have hh:=h1;simp at hh;have q:=j1.2.2.2.1;have t:=fun c d m t=>PI (j9 (a0:=c) (a2:=d) (a3:=m) (a4:=t) (Nat.le_refl _) fJ j1.2.2.2.2);(try dsimp only);simp only[Y5];exact⟨fJ,fJ,fJ,fJ,by with_reducible exact ZN fJ (t _ _ _ _)⟩))
 have f:=ms f e1;refine Se [(2,2),(3,3),(4,4),(5,5),(6,6),(7,7)] mixed fL fL fL fL ?_;simp;refine KU (rv:=[.cell 2 59,.cell 3 53,.cell 4 55]) rfl ?_;simp[f.h]
theorem R3(a0:ZL):Xe prog 120 false a0.row [] (Y7 a0).1.row [(Y7 a0).2.row]:=by have f:=me (Y7.eq_1 a0);refine Ym func120 rfl fL (fun v=>?_);simp[ntmps120];refine cBs [] (Rr a0) ?_;refine j6 [(0,0),(2,2),(3,3),(4,4),(5,5),(12,0),(15,0)] [] [13,17,2000016,3000001] mixed fL fL fL fL fL fL fL ?_;simp;refine cBs [] (Zh (XA a0).1 9) ?_;refine bsD ?_;simp;refine cBs [] (x1 (ZA (XA a0).1 9).1 ([50,100,10000]:List Int) fr) ?_;refine KU (rv:=[.cell 2 61]) rfl ?_;simp[f.h]
theorem Of(a0:ZQ):Sa 86 [a0.row] [rB (jb a0)]:=by
 have f:=me (jb.eq_1 a0);refine so func86 ntmps86 ?_;refine dIs mixed ?_;refine cRs (Zw a0.Id 1 999) ?_;refine cGs (fun gg=>zm a0.YL) ?_;refine cGs (fun gg=>zu a0.Doc) ?_;refine cGs (fun gg=>xI a0.ZJ) ?_;refine gIf ?_ ?_<;>intro G
 ·have g1:=G;try simp[Zt]at g1
  have i1:0<a0.ZJ.ZG.length:=by have:=Tt (a:=a0.ZJ);simp_all
  simp[i1,ZI,G];refine rpG ?_;refine cGg (fun gg=>Zp.rd (ya a0.Sig)) ?_;refine cGg (fun gg=>xo (nth a0.ZJ.ZG 0) (YE a0.Sig)) ?_;exact rtg [.tmp 2] f
 ·refine sGo ?_;simp;refine rpG ?_;refine sGo ?_;simp;refine rpG ?_;exact rtg [.tmp 2] f
theorem Jn(a0:ZF):Sa 47 [a0.row] [rB (Yx a0)]:=by
 have f:=me (Yx.eq_1 a0);refine so func47 ntmps47 ?_;refine lp1 (KJ.eq_2 a0) (fun J=>Ys 47 [eX 1 (a0.row.map .d),eI 3 (J:Int)]) (fun n1 J=>a0.ZC.length<n1+J/\J<=a0.ZC.length) (a0.ZC.length+1) 0 (fun p1 J e1 j1=>?_);refine cF e1 ?_ ?_<;>intro k2 h1 e1
 ·have i1:=ix h1;have m2:=ml a0.ZC (k2 6 _ rfl);have w1:=wr J;refine dIo mixed ?_;simp[i1,ZI];refine rpS ?_;refine cRs (Of (nth a0.ZC J)) ?_;refine gIf ?_ ?_<;>intro G
  ·have i2:=ik (J-1) a0.ZC;have w2:IntKind.i64.wrap ((J:Int)-1)=(J:Int)-1:=Ya fJ fJ;simp[i2,ZI,w2,G];refine rpG ?_;refine gK (fun _=>?_);simp[i1,ZI,G];refine rpG ?_;refine cK e1 ?_ ?_<;>intro k4 h2 e1
   ·exact rtg [.tmp 2] (ms f e1)
   ·exact ny1 (an w1 (an w2 G)) e1
  ·refine sGg ?_;refine cK e1 ?_ ?_<;>intro k5 h3 e1
   ·exact rtg [.tmp 2] (ms f e1)
   ·exact ny1 (an w1 G) e1
 have f:=ms f e1;refine cRs (Zw a0.Id 0 99) ?_;exact rt [.tmp 2] f
theorem SW(a0:ZF)(a1:Int):Sa 200 [a0.row,rI a1] [rI (qO a0 a1)]:=by
 have f:=me (qO.eq_1 a0 a1);refine so func200 ntmps200 ?_;refine lp1 (qK.eq_2 a0 a1) (fun J=>Ys 22 [eI 1 a1,eX 2 (a0.row.map .d),eI 5 (J:Int)]) (fun n1 J=>a0.ZC.length<n1+J/\J<=a0.ZC.length) (a0.ZC.length+1) 0 (fun p1 J e1 j1=>?_);refine cFf e1 ?_ ?_<;>intro k2 h1 e1
 ·have i1:=ix h1;have m2:=ml a0.ZC (k2 8 _ rfl);have w1:=wr J;simp[i1,ZI];refine rpS ?_;refine cF e1 ?_ ?_<;>intro k3 h2 e1
  ·exact rt [.tmp 4] (ms f e1)
  exact ny1 w1 e1
 exact rt [.tmp 4] (ms f e1)
theorem P7(a0:ZP)(u0:Sm 2342912 a0):Sd 138 [a0.row] [(Tv a0).row]:=by have f:=me (Tv.eq_1 a0);refine soD func138 ntmps138 ?_;refine Oi [2,3,4,5,6,7,8,9,0,1,10,11] mixed fL fL fL ?_;have c1:=sl 2342912 a0.Zz u0;have c2:=sl 2342912 a0.Yw u0;simp;refine rpS ?_;exact rtD [.cell 2 53] f
theorem R0(a0:ZP)(u0:Sm 2342912 a0):Sd 138 [a0.row] [a0.row]:=by have h:=P7 a0 u0;rwa[Pp]at h
theorem Rt(a0:ZQ)(u0:Sm 2330624 a0):Sd 80 [a0.row] [(Vn a0).row]:=by have f:=me (Vn.eq_1 a0);refine soD func80 ntmps80 ?_;refine cDs [true,false,false] (R0 a0.Doc (sg (ZQ.Vh u0))) ?_;refine cDs [] (JM a0.ZJ (sg (ZQ.XJ u0))) ?_;exact rtD [.cell 2 61] f
theorem Xq(a0:ZQ)(u0:Sm 2330624 a0):Sd 80 [a0.row] [a0.row]:=by have h:=Rt a0 u0;rwa[R2]at h
theorem RT(a0:ZF)(u0:Sm 2326528 a0):Sd 44 [a0.row] [(jx a0).row]:=by
 have f:=me (jx.eq_1 a0);refine soD func44 ntmps44 ?_;refine lp2 (xD.eq_2 a0) (fun J U=>Ys 27 [eX 1 (a0.row.map .d),(2,.one (.bptr 2 0),[.box [.d (.int .i64 0),.nil 16]]),(3,.one (.bptr 3 0),[.box [.d (.int .i64 a0.Id),.sref 3 2 0 U.length],.none,.arr true 16 (U.map ZQ.row)]),eI 4 (J:Int)]) (fun n1 J U=>a0.ZC.length<n1+J/\J<=a0.ZC.length/\U.length<=0+1*J) (a0.ZC.length+1) 0 ([]:List ZQ) (fun p1 J U e1 j1=>?_) (h0:=wkS [((3,2),none)] []);refine cF e1 ?_ ?_<;>intro k2 h1 e1
 ·have i1:=ix h1;have m2:=ml a0.ZC (k2 10 _ rfl);have c1:=sl 2326528 a0.ZC u0;have w1:=wr J;refine drJ [24] mixed ?_;simp[i1,ZI];refine rpS ?_;refine cDs [true,true,true,false,false] (Xq (nth a0.ZC J) (sg (XR (ZF.Yy u0)))) ?_;refine jU ?_;simp;refine jy (wD:=U.map ZQ.row) (news:=([nth a0.ZC J]:List ZQ).map ZQ.row) (l1:=[(3,2)]) (l2:=[(22,3),(22,4),(22,14),(22,15)]) (size:=16) ?_;simp;exact nx2 e1 (hw:=Y2 [((3,2),some (24,0))] [] rfl ff)
 have c2:=sl 2326528 a0.ZC u0;exact rtD [.cell 2 44] (ms f e1)
theorem KF(a0:ZF)(u0:Sm 2326528 a0):Sd 44 [a0.row] [a0.row]:=by have h:=RT a0 u0;rwa[RS]at h
theorem R5(a0:ZF)(a1:ZQ)(u0:Sm 2318336 a0)(u1:Sm 2318336 a1):Sd 119 [a0.row,a1.row] [(Jv a0 a1).1.row,rB (Jv a0 a1).2]:=by
 have f:=me (Jv.eq_1 a0 a1);refine soD func119 ntmps119 ?_;refine cRs (Jn a0) ?_;refine cGs (fun gg=>SW a0 a1.Id) ?_;refine cF f ?_ ?_<;>intro k1 h1 f
 ·refine cDs [] (KF a0 (sg u0)) ?_;exact rtD [.cell 4 44,.tmp 5] f
 refine lp3 (QF.eq_2 a0 a1) (fun J U wB=>Ys 77 [eX 2 (a0.row.map .d),eX 3 (a1.row.map .d),(4,.one (.bptr 4 0),[.box [.d (.int .i64 0),.nil 16]]),(6,.one (.bptr 6 0),[.box [.d (.int .i64 a0.Id),.sref 6 2 0 wB.length],.none,.arr true 16 (wB.map ZQ.row)]),eB 7 J,eI 8 (U:Int)]) (fun n1 J U wB=>a0.ZC.length<n1+U/\U<=a0.ZC.length/\wB.length<=0+2*U) (a0.ZC.length+1) false 0 ([]:List ZQ) (fun p1 J U wB e1 j1=>?_) (h0:=wkS [((6,2),none)] []);refine cF e1 ?_ ?_<;>intro k3 h2 e1
 ·have i1:=ix h2;have m2:=ml a0.ZC (k3 26 _ rfl);have c1:=sl 2318336 a0.ZC (an u0 u1);have w1:=wr U;refine dIs mixed ?_;refine gIf ?_ ?_<;>intro G
  ·simp[i1,ZI,G];refine rpG ?_;refine cK e1 ?_ ?_<;>intro k5 h3 e1
   ·try(simp[G]at h3;done)
    all_goals
     refine drJ [49] mixed ?_;simp;refine cDg [true,true,true,false,false] (Xq a1 (sg u1)) ?_;refine jU ?_;simp[G];refine rpG ?_;refine jy (wD:=wB.map ZQ.row) (news:=([a1]:List ZQ).map ZQ.row) (l1:=[(6,2)]) (l2:=[(47,3),(47,4),(47,14),(47,15)]) (size:=16) ?_;simp[G];refine rpG ?_;refine drJ [60] mixed ?_;simp[i1,ZI,G];refine rpG ?_;refine cDg [true,true,true,false,false] (Xq (nth a0.ZC U) (sg (XR (ZF.Yy u0)))) ?_;refine jU ?_;simp[G];refine rpG ?_;refine jy (wD:=(wB++([a1]:List ZQ)).map ZQ.row) (news:=([nth a0.ZC U]:List ZQ).map ZQ.row) (l1:=[(49,0)]) (l2:=[(58,3),(58,4),(58,14),(58,15)]) (size:=16) ?_;simp[G];refine rpG ?_;exact nx3 e1 (hw:=Y2 [((6,2),some (60,0))] [] rfl (by simp[w1,G]))
   ·try(simp[G]at h3;done)
    all_goals
     refine drJ [60] mixed ?_;simp[i1,ZI,G];refine rpG ?_;refine cDg [true,true,true,false,false] (Xq (nth a0.ZC U) (sg (XR (ZF.Yy u0)))) ?_;refine jU ?_;simp[G];refine rpG ?_;refine jy (wD:=wB.map ZQ.row) (news:=([nth a0.ZC U]:List ZQ).map ZQ.row) (l1:=[(6,2)]) (l2:=[(58,3),(58,4),(58,14),(58,15)]) (size:=16) ?_;simp[G];refine rpG ?_;exact nx3 e1 (hw:=Y2 [((6,2),some (60,0))] [] rfl (by simp[w1,G]))
  ·refine cK e1 ?_ ?_<;>intro k9 h4 e1
   ·try(simp[G]at h4;done)
    all_goals
     refine drJ [49] mixed ?_;simp;refine cDg [true,true,true,false,false] (Xq a1 (sg u1)) ?_;refine jU ?_;simp[G];refine rpG ?_;refine jy (wD:=wB.map ZQ.row) (news:=([a1]:List ZQ).map ZQ.row) (l1:=[(6,2)]) (l2:=[(47,3),(47,4),(47,14),(47,15)]) (size:=16) ?_;simp[G];refine rpG ?_;refine drJ [60] mixed ?_;simp[i1,ZI,G];refine rpG ?_;refine cDg [true,true,true,false,false] (Xq (nth a0.ZC U) (sg (XR (ZF.Yy u0)))) ?_;refine jU ?_;simp[G];refine rpG ?_;refine jy (wD:=(wB++([a1]:List ZQ)).map ZQ.row) (news:=([nth a0.ZC U]:List ZQ).map ZQ.row) (l1:=[(49,0)]) (l2:=[(58,3),(58,4),(58,14),(58,15)]) (size:=16) ?_;simp[G];refine rpG ?_;exact nx3 e1 (hw:=Y2 [((6,2),some (60,0))] [] rfl (by simp[w1,G]))
   ·try(simp[G]at h4;done)
    all_goals
     refine drJ [60] mixed ?_;simp[i1,ZI,G];refine rpG ?_;refine cDg [true,true,true,false,false] (Xq (nth a0.ZC U) (sg (XR (ZF.Yy u0)))) ?_;refine jU ?_;simp[G];refine rpG ?_;refine jy (wD:=wB.map ZQ.row) (news:=([nth a0.ZC U]:List ZQ).map ZQ.row) (l1:=[(6,2)]) (l2:=[(58,3),(58,4),(58,14),(58,15)]) (size:=16) ?_;simp[G];refine rpG ?_;exact nx3 e1 (hw:=Y2 [((6,2),some (60,0))] [] rfl (by simp[w1,G]))
 have c2:=sl 2318336 a0.ZC (an u0 u1);have f:=ms f e1;refine cF f ?_ ?_<;>intro g6 h5 f
 ·refine okD fun g5=>?_;refine drJ [69] mixed ?_;simp;refine cDs [true,true,true,false,false] (Xq a1 (sg u1)) ?_;refine jU ?_;simp;refine jy (wD:=wB.map ZQ.row) (news:=([a1]:List ZQ).map ZQ.row) (l1:=[(6,2)]) (l2:=[(67,3),(67,4),(67,14),(67,15)]) (size:=16) ?_;simp;refine cRs (Jn (ZF.mk a0.Id (wB++([a1]:List ZQ)))) ?_;refine cF f ?_ ?_<;>intro g7 h6 f
  ·refine cDs [] (KF a0 (sg u0)) ?_;exact rtD [.cell 4 44,.tmp 5] f
  exact rtD [.cell 4 44,.tmp 5] f
 refine cRs (Jn (ZF.mk a0.Id wB)) ?_;refine cF f ?_ ?_<;>intro g8 h7 f
 ·refine cDs [] (KF a0 (sg u0)) ?_;exact rtD [.cell 4 44,.tmp 5] f
 exact rtD [.cell 4 44,.tmp 5] f
theorem UZ(a0:ZL):Xe prog 69 true a0.row [] (QM a0).1.row [(QM a0).2.row]:=by
 have f:=me (QM.eq_1 a0);refine Ym func69 rfl fL (fun v=>?_);simp[ntmps69];refine cBs [] (Zh a0 3) ?_;refine cBs [] (Zh (ZA a0 3).1 4) ?_;refine lp6 (Qj.eq_2) (fun J U wB wS wX vC=>Ys 22 [(0,.fix v (.one (.bptr 0 0)),[.box [.d (.sl 1 (U.map bR)),.d (.int .i64 (wB:Int)),.d (.int .i64 wS)]]),(2,.one (.bptr 2 0),[.box [.d (.int .i64 0),.nil 16]]),(3,.one (.bptr 3 0),[.box [.d (.int .i64 wX),.sref 3 2 0 vC.length],.none,.arr true 16 (vC.map ZQ.row)]),eI 4 J]) (fun n1 J U wB wS wX vC=>J+1<=(n1:Int)/\0<=J/\n1<=5/\Sm (100-n1) (ZF.mk wX vC)) 5 (ZA (ZA a0 3).1 4).2 (ZA (ZA a0 3).1 4).1.b (ZA (ZA a0 3).1 4).1.i (ZA (ZA a0 3).1 4).1.h (ZA a0 3).2 ([]:List ZQ) (fun p1 J U wB wS wX vC e1 j1=>?_) (hI:=by(have z:=Z4 (ZA a0 3).1 4;(try dsimp only);exact⟨fJ,fJ,fJ,fJ,Sz.zero (α:=List ZQ) _⟩)) (h0:=wkS [((3,2),none)] []);try dsimp only at j1
 refine cF e1 ?_ ?_<;>intro k2 h1 e1
 ·refine okD fun k3=>?_;refine j6 [(0,0),(3,3),(16,0)] [] [17,3000001] mixed fL fL fL fL fL fL fL ?_;simp;refine cBs [] (R3 (ZL.mk U wB wS)) ?_;refine cDs [] (R5 (ZF.mk wX vC) (Y7 (ZL.mk U wB wS)).2 fz fz) ?_;exact nx6 e1 (hI:=by(have hh:=h1;simp at hh;have q:=j1.2.2.2.1;(try dsimp only);simp only[Y5];exact⟨fJ,fJ,fJ,fJ,ZN fJ (Wc j1.2.2.2.2 (yH fJ))⟩)) (hw:=wkS [((3,2),some (18,1))] [])
 have f:=ms f e1;refine KU (rv:=[.cell 2 44]) rfl ?_;simp[f.h]
theorem kj(a0:List UInt8):Sd 32 [rL 1 bR a0] [(Za a0).1.row,rI (Za a0).2]:=by have f:=me (Za.eq_1 a0);refine soD func32 ntmps32 ?_;refine cNs (Tg a0) ?_;refine cBs [] (UZ (Y1 a0)) ?_;refine j6 [(2,2),(4,7),(5,5),(11,7)] [] [12,3000001] mixed fL fL fL fL fL fL fL ?_;simp;refine cBs [] (Zh (QM (Y1 a0)).1 4) ?_;exact rtD [.cell 2 44,.tmp 3] f
theorem jF(a0:ZF)(a1:Int)(u0:Sm 2314240 a0):Sd 45 [a0.row,rI a1] [rL 1 iR (Z0 a0 a1)]:=by
 have f:=me (Z0.eq_1 a0 a1);refine soD func45 ntmps45 ?_;refine lp2 (JK.eq_2 a0 a1) (fun J U=>Ys 51 [eI 1 a1,eX 2 (a0.row.map .d),(5,.one (.sref 5 0 0 J.length),[.arr false 1 (J.map iR)]),eI 6 (U:Int)]) (fun n1 J U=>a0.ZC.length<n1+U/\U<=a0.ZC.length/\J.length<=0+1*U) (a0.ZC.length+1) ([]:List Int) 0 (fun p1 J U e1 j1=>?_) (h0:=wkS [((5,0),some (8,0))] []);refine cFf e1 ?_ ?_<;>intro k2 h1 e1
 ·have i1:=ix h1;have m2:=ml a0.ZC (k2 11 _ rfl);have c1:=sl 2314240 a0.ZC u0;have w1:=wr U;simp[i1,ZI];refine rpS ?_;refine cOs (Zp.own (JM (nth a0.ZC U).ZJ (sg (ZQ.XJ (XR (ZF.Yy u0)))))) ?_;refine eIs ?_;have c2:=sl 2314240 (nth a0.ZC U).ZJ.ZK u0;refine eIs ?_;refine dIo mixed ?_;simp[i1,ZI];refine rpS ?_;refine cDs [false] (qY (ZH.mk (nth a0.ZC U).ZJ.ZG ((nth a0.ZC U).ZJ.ZK++([ZE.mk ((nth a0.ZC U).ZJ.ZG.length:Int) a1 0 ([]:List Zs) ([]:List ZO)]:List ZE))) (nth a0.ZC U).Doc fP fP) ?_;refine cRs (Vs (ZH.mk (nth a0.ZC U).ZJ.ZG ((nth a0.ZC U).ZJ.ZK++([ZE.mk ((nth a0.ZC U).ZJ.ZG.length:Int) a1 0 ([]:List Zs) ([]:List ZO)]:List ZE))) (YI (ZH.mk (nth a0.ZC U).ZJ.ZG ((nth a0.ZC U).ZJ.ZK++([ZE.mk ((nth a0.ZC U).ZJ.ZG.length:Int) a1 0 ([]:List Zs) ([]:List ZO)]:List ZE))) (nth a0.ZC U).Doc) (W ((((nth a0.ZC U).ZJ.ZK++([ZE.mk ((nth a0.ZC U).ZJ.ZG.length:Int) a1 0 ([]:List Zs) ([]:List ZO)]:List ZE)).length:Int)-1)) fP fP) ?_ (wR:=by first|(simp;done)|(simp[W,w1];done));exact nx2 e1 (hw:=Y2 [((5,0),some (49,0))] [] rfl ff)
 have c3:=sl 2314240 a0.ZC u0;exact rtD [.tmp 4] (ms f e1)
theorem PK(a0:ZF)(a1:Int)(u0:Sm 2310144 a0):Sa 37 [a0.row,rI a1] [rI (J1 a0 a1)]:=by have f:=me (J1.eq_1 a0 a1);refine so func37 ntmps37 ?_;refine cRs (Zp.rd (jF a0 a1 (sg u0))) ?_;refine cRs (xQ a1 (Z0 a0 a1) (by simp(maxDischargeDepth:=12) [Kl,ZN (m:=2318336) fO u0];try omega)) ?_;exact rt [.tmp 4] f
theorem T9(a0:List Yt)(a1:List ZZ)(a2:List Int)(a3:Int)(a4:List Int)(a5:Int)(u0:Sm 2318336 a0)(u1:Sm 2318336 a1)(u2:Sm 2318336 a2)(u3:Sm 2318336 a4):Sd 34 [rL 5 Yt.row a0,rL 3 ZZ.row a1,rL 1 iR a2,rI a3,rL 1 iR a4,rI a5] [rL 5 ZO.row (KR a0 a1 a2 a3 a4 a5)]:=by
 have f:=me (KR.eq_1 a0 a1 a2 a3 a4 a5);refine soD func34 ntmps34 ?_;refine lp2 (Q4.eq_2 a0 a1 a2 a3 a4 a5) (fun J U=>Ys 53 [eL 0 5 a0 Yt.row,eL 1 3 a1 ZZ.row,eL 2 1 a2 iR,eI 3 a3,eL 4 1 a4 iR,eI 5 a5,(13,.one (.sref 13 0 0 J.length),[.arr false 5 (J.map ZO.row)]),eI 14 (U:Int)]) (fun n1 J U=>a2.length<n1+U/\U<=a2.length/\J.length<=0+1*U) (a2.length+1) ([]:List ZO) 0 (fun p1 J U e1 j1=>?_) (h0:=wkS [((13,0),some (17,0))] []);refine cF e1 ?_ ?_<;>intro k2 h1 e1
 ·have i1:U<a2.length:=by(simp at h1;omega)
  have m2:=ml a2 (k2 2 _ rfl);have c1:=sl 2318336 a2 (an u0 (an u1 (an u2 u3)));have w1:=wr U;refine dIo mixed ?_;have i2:=ik U a4;simp[i1,ZI,i2];refine rpS ?_;refine cRs (yZ a0 a1 (ZO.mk (nth a2 U) a3 (nth a4 U) a5 0) (sg u0) (sg u1)) ?_;refine cF e1 ?_ ?_<;>intro k4 h2 e1
  ·exact nx2 e1 (hw:=Y2 [((13,0),some (51,0))] [] rfl ff)
  exact ny2 w1 e1
 exact rtD [.tmp 12] (ms f e1)
theorem QH(h:b)(k:a:=by(intros;first|omega|with_unfolding_all (first|first|omega|(simp at h2;omega))|((try simp only[Y5,show ∀x,IntKind.i64.wrap x=W x from fun _=>rfl]at*);omega))):a/\b:=⟨k,h⟩
theorem q8(a0:List UInt8)(u0:Sm 2285568 a0):Sd 11 [rL 1 bR a0] [(ZB a0).1.row,rI (ZB a0).2.1,rL 5 ZO.row (ZB a0).2.2]:=by
 have f:=me (ZB.eq_1 a0);refine soD func11 ntmps11 ?_;refine cDs [] (kj a0) ?_;refine cNs (Tg a0) ?_;refine cBs [] (Zh (Y1 a0) 60) ?_;refine dIs mixed ?_;refine cRs (Zp.rd (XC)) ?_;refine cRs (Zp.rd (Xi)) ?_;refine cRs (PK (Za a0).1 (Za a0).2 (by exact yw fO)) ?_;refine cDs [false] (T9 Zx Zm ([1,2,3]:List Int) 1 ([(ZA (Y1 a0) 60).2,(ZA (Y1 a0) 60).2,W ((ZA (Y1 a0) 60).2+1)]:List Int) (J1 (Za a0).1 (Za a0).2) (by simp(maxDischargeDepth:=12) [Yj,ZN (m:=2318336) fO u0];try omega) (by simp(maxDischargeDepth:=12) [Y9,ZN (m:=2318336) fO u0];try omega) eE eE) ?_;refine cBs [] (Kd (ZA (Y1 a0) 60).1 10) ?_;refine cF f ?_ ?_<;>intro k2 h1 f
 ·refine okL fun k3=>?_;refine Gp (Xh.eq_2) (fun J=>Ys 71 [(2,.one (.bptr 2 0),[.box [.d (.int .i64 0),.nil 16]]),(5,.one (.bptr 5 0),[.box [.d (.int .i64 (Za a0).1.Id),.sref 12 1 0 J.length]]),eI 6 (Za a0).2,(9,.one (.sref 30 0 0 (KR Zx Zm ([1,2,3]:List Int) 1 ([(ZA (Y1 a0) 60).2,(ZA (Y1 a0) 60).2,W ((ZA (Y1 a0) 60).2+1)]:List Int) (J1 (Za a0).1 (Za a0).2)).length),[]),(12,.any,[.none,.arr true 16 (J.map ZQ.row)]),(30,.any,[.arr false 5 ((KR Zx Zm ([1,2,3]:List Int) 1 ([(ZA (Y1 a0) 60).2,(ZA (Y1 a0) 60).2,W ((ZA (Y1 a0) 60).2+1)]:List Int) (J1 (Za a0).1 (Za a0).2)).map ZO.row)])]) (fun n1 J=>8<n1+(nth J 0).ZJ.ZK.length/\0<J.length) 9 (Za a0).1.ZC (fun p1 J e1 j1=>?_) (hI:=by(simp at h1;omega));try dsimp only at j1
  have i1:=ik 0 J;simp[i1,ZI];repeat with_reducible refine QH ?_
  refine cF e1 ?_ ?_<;>intro k4 h2 e1
  ·refine okD fun k5=>?_;refine GG [(5,5),(47,5),(49,5),(55,5)] [] [64,1000000009] [2,3,4,5,6,7,8,9,10,11,12,13,14,15,16,17,0,1,18,19,20,21] mixed fL fL fL fL fL fL fL fL ?_;simp[i1,ZI];repeat with_reducible refine QH ?_
   refine jU ?_;simp;refine apN (wD:=(nth J 0).ZJ.ZK.map ZE.row) (rows:=J.map ZQ.row) (news:=([ZE.mk ((nth J 0).ZJ.ZG.length:Int) 0 0 ([]:List Zs) ([]:List ZO)]:List ZE).map ZE.row) (l2:=[]) (n:=5) (size:=16) (u:=12) (j:=1) (i:=0) (c:=15) ?_ (hc:=by simp[i1,ZI]) (h5:=by(simp<;>first|omega|(first|omega|(simp at h2;omega))));simp[i1,ZI];repeat with_reducible refine QH ?_
   refine stU [44,54,60] (t:=12) (j:=1) (i:=0) (c:=15) (size:=16) (rows:=J.map ZQ.row) (d:=.sl 5 (((nth J 0).ZJ.ZK++([ZE.mk ((nth J 0).ZJ.ZG.length:Int) 0 0 ([]:List Zs) ([]:List ZO)]:List ZE)).map ZE.row)) (L:=[(64,0)]) ?_ (wb:=by simp[i1,ZI]) (ho:=by simp[i1,ZI]);simp[Ri (x:=ZQ.mk (nth J 0).Id (nth J 0).YL (nth J 0).Doc (nth J 0).Sig (ZH.mk (nth J 0).ZJ.ZG ((nth J 0).ZJ.ZK++([ZE.mk ((nth J 0).ZJ.ZG.length:Int) 0 0 ([]:List Zs) ([]:List ZO)]:List ZE)))) rfl,i1,ZI,yY];repeat with_reducible refine QH ?_
   exact nx1 e1 (hI:=by(simp at h2;rw[List.length_set];refine⟨?_,?_,j1.2.2⟩<;>((try simp[RX j1.2.2]);omega)))
  exact rtD [.cell 2 44,.tmp 3,.tmp 4] (ms f e1)
 exact rtD [.cell 2 44,.tmp 3,.tmp 4] f
theorem W7(a0:ZF)(a1:Int)(a2:List ZO)(u0:Sm 2310144 a0)(u1:Sm 2310144 a2):Sd 13 [a0.row,rI a1,rL 5 ZO.row a2] [(JO a0 a1 a2).1.row,rB (JO a0 a1 a2).2]:=by
 have f:=me (JO.eq_1 a0 a1 a2);refine soD func13 ntmps13 ?_;refine cDs [] (KF a0 (sg u0)) ?_;refine cRs (Zp.rd (jF a0 a1 (sg u0))) ?_;refine cRs (xQ a1 (Z0 a0 a1) fq) ?_;refine cRs (Jn a0) ?_;refine lp3 (XH.eq_2 a0 a1 a2) (fun J U wB=>Ys 84 [eI 1 a1,eL 2 5 a2 ZO.row,eX 3 (a0.row.map .d),(6,.one (.bptr 6 0),[.box [.d (.int .i64 0),.nil 16]]),(8,.one (.bptr 8 0),[.box [.d (.int .i64 a0.Id),.sref 16 1 0 wB.length]]),eL 9 1 (Z0 a0 a1) iR,eI 10 (Yh a1 (Z0 a0 a1)),eB 11 J,eI 12 (U:Int),(16,.any,[.none,.arr true 16 (wB.map ZQ.row)])]) (fun n1 J U wB=>a0.ZC.length<n1+U/\U<=a0.ZC.length/\wB.length=a0.ZC.length) (a0.ZC.length+1) (Yx a0&&(decide ((a0.ZC.length:Int)>0))) 0 a0.ZC (fun p1 J U wB e1 j1=>?_);refine cF e1 ?_ ?_<;>intro k2 h1 e1
 ·have i1:U<a0.ZC.length:=by(simp at h1;omega)
  have m2:=ml a0.ZC (k2 33 _ rfl);have c1:=sl 2310144 a0.ZC (an u0 u1);have w1:=wr U;refine dIo mixed ?_;simp[i1,ZI];refine rpS ?_;refine cRs (Zp.rd (kL a1 (Z0 a0 a1) (U:Int) fq)) ?_;have i2:=ik U wB;refine cDf i2 [] (KM (nth a0.ZC U).ZJ (ZE.mk ((nth a0.ZC U).ZJ.ZG.length:Int) a1 (Yh a1 (Z0 a0 a1)) (Y4 a1 (Z0 a0 a1) (U:Int)) a2) (sg (ZQ.XJ (XR (ZF.Yy u0)))) (by simp(maxDischargeDepth:=12) [kN,Kl,ZN (m:=2326528) fO u0,ZN (m:=2326528) fO u1];try omega)) ?_;refine H8 (t:=16) (j:=1) (i:=U) (c:=14) (size:=16) (rows:=wB.map ZQ.row) (ds:=(ZX (nth a0.ZC U).ZJ (ZE.mk ((nth a0.ZC U).ZJ.ZG.length:Int) a1 (Yh a1 (Z0 a0 a1)) (Y4 a1 (Z0 a0 a1) (U:Int)) a2)).1.row) (L:=[(64,0),(64,1)]) rfl rfl rfl rfl fM fM (by simp;try omega) fM fM fM fM fM fM ?_;simp[Ri (x:=ZQ.mk (nth wB U).Id (nth wB U).YL (nth wB U).Doc (nth wB U).Sig (ZX (nth a0.ZC U).ZJ (ZE.mk ((nth a0.ZC U).ZJ.ZG.length:Int) a1 (Yh a1 (Z0 a0 a1)) (Y4 a1 (Z0 a0 a1) (U:Int)) a2)).1) rfl,i2,ZI,yY];refine rpS ?_;exact ny3 w1 e1
 have c2:=sl 2310144 a0.ZC (an u0 u1);have f:=ms f e1;refine cGs (fun gg=>Jn (ZF.mk a0.Id wB)) ?_;refine cF f ?_ ?_<;>intro k4 h2 f
 ·refine cDs [] (KF a0 (sg u0)) ?_;exact rtD [.cell 6 44,.tmp 7] f
 exact rtD [.cell 6 44,.tmp 7] f
end Go.Proofs.YtdffgedmahdehaaGreat
