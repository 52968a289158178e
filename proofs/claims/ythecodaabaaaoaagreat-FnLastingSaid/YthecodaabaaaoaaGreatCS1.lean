/- Contracts of the functions M1 the abstract machine, part S1. No condition. -/
import Derived.Test.YthecodaabaaaoaaGreatL
import Derived.Test.YthecodaabaaaoaaGreatTy
namespace Go.Proofs.YthecodaabaaaoaaGreat
open Tryz
open Go.Vm Go.Mo
set_option maxHeartbeats 1000000
set_option maxRecDepth 100000
set_option linter.unusedSimpArgs false
set_option linter.unusedVariables false
variable{a b:Prop}
theorem Ad(a0:List UInt8):MS prog 19 [rL 1 bR a0] (Ws a0).row:=by
 have f:=me (Ws.eq_1 a0);refine vH func19 rfl zAV ?_;simp[ntmps19];refine lp2 (N8.eq_2 a0) (fun J U=>Yy 32 [eL 0 1 a0 bR,eI 3 J,eI 4 (U:Int)]) (fun n1 J U=>4000<n1+U) 4001 (W (193017+(a0.length:Int))) 0 (fun p1 J U e1 j1=>?_);refine cFf e1 ?_ ?_<;>intro k2 h1 e1
 ·have i1:U<a0.length:=zB1;have m2:=ml a0 (k2 0 _ rfl);have w1:=wr U;simp[i1,ZF];refine rpS ?_;exact ny2 w1 e1
 have f:=ms f e1;refine oF 31 (rv:=[.tmp 2]) rfl ?_;simp[f.h]
theorem Ue(a0:YI):xQ prog 59 false a0.row [] (Ye a0).1.row [rI (Ye a0).2]:=by
 have f:=me (Ye.eq_1 a0);refine yK func59 rfl zAV (fun v=>?_);simp[ntmps59];refine dIs mixed ?_;refine dIs mixed ?_;refine cF f ?_ ?_<;>intro k3 h1 f
 ·refine okD fun k4=>?_;refine dIo mixed ?_;have i1:=ik a0.i a0.b
  simp[i1,ZF];refine rpS ?_;refine qA (rv:=[.tmp 2]) rfl ?_;first|(have w0:=wr a0.i (by have z:=ml a0.b (k3 32 _ rfl);simp at h1;omega);simp[f.h,w0];done)|simp[f.h]
 refine qA (rv:=[.tmp 2]) rfl ?_;first|(have w0:=wr a0.i (by have z:=ml a0.b (k3 32 _ rfl);simp at h1;omega);simp[f.h,w0];done)|simp[f.h]
theorem XD(a0:YI)(a1:Int):xQ prog 21 false a0.row [rI a1] (ZL a0 a1).1.row [rI (ZL a0 a1).2]:=by
 have f:=me (ZL.eq_1 a0 a1);refine yK func21 rfl zAV (fun v=>?_);simp[ntmps21];refine cF f ?_ ?_<;>intro k1 h1 f
 ·refine qA (rv:=[.tmp 4]) rfl ?_;simp[f.h]
 refine cF f ?_ ?_<;>intro k2 h2 f
 ·refine cBs [] (Ue a0) ?_;refine qA (rv:=[.tmp 4]) rfl ?_;simp[f.h]
 refine cBs [] (Ue a0) ?_;refine cBs [] (Ue (Ye a0).1) ?_;refine cBs [] (Ue (Ye (Ye a0).1).1) ?_;refine qA (rv:=[.tmp 4]) rfl ?_;simp[f.h]
theorem Gp(a0 a1:Int):Sa 54 [rI a0,rI a1] [rI (jb a0 a1)]:=by
 have f:=me (jb.eq_1 a0 a1);refine so func54 ntmps54 ?_;refine cF f ?_ ?_<;>intro k1 h1 f
 ·exact rt [.tmp 4] f
 exact rt [.tmp 4] f
theorem BN(a0 a1:Int):Sa 53 [rI a0,rI a1] [rI (Tt a0 a1)]:=by
 have f:=me (Tt.eq_1 a0 a1);refine so func53 ntmps53 ?_;refine cF f ?_ ?_<;>intro k1 h1 f
 ·exact rt [.tmp 4] f
 exact rt [.tmp 4] f
theorem Uh:Sd 55 [] [rL 5 Y6.row yD]:=by have f:=me (yD.eq_1);refine soD func55 ntmps55 ?_;exact rtD [.tmp 0] f
theorem Ph:Sd 56 [] [rL 3 Zo.row YR]:=by have f:=me (YR.eq_1);refine soD func56 ntmps56 ?_;exact rtD [.tmp 0] f
theorem CH:Sd 57 [] [rL 4 YJ.row kW]:=by have f:=me (kW.eq_1);refine soD func57 ntmps57 ?_;exact rtD [.tmp 0] f
theorem J9(a0:List Y6)(a1:Int):Sa 95 [rL 5 Y6.row a0,rI a1] [rI (Ys a0 a1)]:=by
 have f:=me (Ys.eq_1 a0 a1);refine so func95 ntmps95 ?_;refine lp1 (UK.eq_2 a0 a1) (fun J=>Yy 20 [eL 0 5 a0 Y6.row,eI 1 a1,eI 5 (J:Int)]) (fun n1 J=>a0.length<n1+J/\J<=a0.length) (a0.length+1) 0 (fun p1 J e1 j1=>?_);refine cFf e1 ?_ ?_<;>intro k2 h1 e1
 ·have i1:=ix h1;have m2:=ml a0 (k2 0 _ rfl);have w1:=wr J;simp[i1,ZF];refine rpS ?_;refine cF e1 ?_ ?_<;>intro k3 h2 e1
  ·exact rt [.tmp 4] (ms f e1)
  exact ny1 w1 e1
 exact rt [.tmp 4] (ms f e1)
theorem XC(a0 a1 a2:Int):Sa 94 [rI a0,rI a1,rI a2] [rB (Yd a0 a1 a2)]:=by have f:=me (Yd.eq_1 a0 a1 a2);refine so func94 ntmps94 ?_;exact rt [.tmp 6] f
theorem FB(a0:YO):Sa 257 [a0.row] [(SH a0).row]:=by have f:=me (SH.eq_1 a0);refine so func257 ntmps257 ?_;exact rt [.cell 2 60] f
theorem WK(a0:Int):Sa 176 [rI a0] [rB (VS a0)]:=by have f:=me (VS.eq_1 a0);refine so func176 ntmps176 ?_;refine cRs (XC a0 0 10000) ?_;exact rt [.tmp 2] f
theorem BB(a0:Zh):Sa 256 [a0.row] [rB (GY a0)]:=by have f:=me (GY.eq_1 a0);refine so func256 ntmps256 ?_;refine cRs (WK a0.XF) ?_;refine cGs (fun gg=>WK a0.To) ?_;exact rt [.tmp 2] f
theorem C5(a0:YO):Sa 196 [a0.row] [rB (HC a0)]:=by have f:=me (HC.eq_1 a0);refine so func196 ntmps196 ?_;refine cRs (XC a0.Zc 1 999) ?_;refine cGs (fun gg=>XC a0.Key 1 99) ?_;refine cGs (fun gg=>XC a0.YA 1 99) ?_;refine cGs (fun gg=>XC a0.qf 0 99) ?_;refine cGs (fun gg=>FB a0) ?_;refine cGs (fun gg=>BB (SH a0)) ?_;exact rt [.tmp 2] f
theorem OC(a0:YO):Sd 197 [a0.row] [rL 1 iR (xy a0)]:=by have f:=me (xy.eq_1 a0);refine soD func197 ntmps197 ?_;exact rtD [.tmp 2] f
theorem v9(a0 a1:Int):Sa 297 [rI a0,rI a1] [rI (u6 a0 a1)]:=by
 have f:=me (u6.eq_1 a0 a1);refine so func297 ntmps297 ?_;refine cRs (XC a1 1 1000000000000) ?_;refine cFo f ?_ ?_<;>intro k1 h1 f
 ·have q1:=h1;try simp[Yd]at q1
  simp;exact rt [.tmp 4] f
 have q1:=h1;try simp[Yd]at q1
 simp;refine rpS ?_;exact rt [.tmp 4] f
theorem Eo(a0:List Int):Sa 278 [rL 1 iR a0] [rI (CD a0)]:=by
 have f:=me (CD.eq_1 a0);refine so func278 ntmps278 ?_;refine lp2 (H7.eq_2 a0) (fun J U=>Yy 22 [eL 0 1 a0 iR,eI 3 J,eI 4 (U:Int)]) (fun n1 J U=>a0.length<n1+U/\U<=a0.length) (a0.length+1) 11 0 (fun p1 J U e1 j1=>?_);refine cFf e1 ?_ ?_<;>intro k2 h1 e1
 ·have i1:=ix h1;have m2:=ml a0 (k2 0 _ rfl);have w1:=wr U;simp[i1,ZF];refine rpS ?_;refine cRs (v9 (nth a0 U) 2147483647) ?_;exact ny2 w1 e1
 exact rt [.tmp 2] (ms f e1)
theorem RZ(a0:Int)(a1:List Int)(u0:Sm 2330624 a1):Sa 241 [rI a0,rL 1 iR a1] [rI (jc a0 a1)]:=by have f:=me (jc.eq_1 a0 a1);have c1:=sl 2330624 a1 u0;refine so func241 ntmps241 ?_;refine cRs (Eo ((([a0]:List Int)++a1)++([a0]:List Int))) ?_;exact rt [.tmp 4] f
theorem kz(a0:Y6)(a1:List Int)(u0:Sm 2326528 a1):Sa 172 [a0.row,rL 1 iR a1] [rI (ka a0 a1)]:=by have f:=me (ka.eq_1 a0 a1);refine so func172 ntmps172 ?_;refine HV [2,3,4,5,6,0,1,7,8] mixed zAV zAV zAV ?_;have c1:=sl 2326528 a1 u0;simp;refine rpS ?_;refine cRs (RZ a0.Ri (([a0.Method]:List Int)++a1) zAk) ?_;exact rt [.tmp 4] f
theorem Vl(a0:List Y6)(a1:YO)(u0:Sm 2322432 a0):Sa 122 [rL 5 Y6.row a0,a1.row] [(jS a0 a1).1.row,rB (jS a0 a1).2]:=by
 have f:=me (jS.eq_1 a0 a1);refine so func122 ntmps122 ?_;refine cRs (J9 a0 a1.YA) ?_;refine cRs (C5 a1) ?_;refine cGs (fun gg=>J9 a0 a1.Key) ?_;refine cF f ?_ ?_<;>intro k1 h1 f
 ·exact rt [.cell 4 124,.tmp 5] f
 refine dIo mixed ?_;have i1:(Ys a0 a1.YA).toNat<a0.length:=by have:=KC a0 a1.YA;exact il
 simp[i1,ZF];refine rpS ?_;refine cRs (Yb.rd (OC a1)) ?_;refine cRs (kz (nth a0 (Ys a0 a1.YA).toNat) (xy a1) (by simp(maxDischargeDepth:=12) [Py,ZH (m:=2326528) zAE u0];try omega)) ?_;exact rt [.cell 4 124,.tmp 5] f
theorem DO:Sd 58 [] [rL 7 YO.row jN]:=by have f:=me (jN.eq_1);refine soD func58 ntmps58 ?_;refine cRs (Yb.rd (Uh)) ?_;refine cRs (Vl yD (YO.mk 1 11 1 0 60 1 0) zBi) ?_;refine cRs (Yb.rd (Uh)) ?_;refine cRs (Vl yD (YO.mk 2 12 1 20 100 1 0) zBi) ?_;refine cRs (Yb.rd (Uh)) ?_;refine cRs (Vl yD (YO.mk 3 13 2 40 150 2 0) zBi) ?_;exact rtD [.tmp 0] f
theorem EH(a0:Int):Sd 20 [rI a0] [(QG a0).row]:=by
 have f:=me (QG.eq_1 a0);refine soD func20 ntmps20 ?_;refine cRs (Gp 0 a0) ?_;refine cRs (BN 1 (jb 0 a0)) ?_;refine cDs [false] (Uh) ?_;refine cDs [false] (Ph) ?_;refine cDs [false] (CH) ?_;refine cDs [false] (DO) ?_;refine wS (news:=([ZE.mk 0 ([]:List ZR),ZE.mk 1 ([]:List ZR)]:List ZE).map ZE.row) (L:=[]) rfl rfl rfl rfl zAG zAG zAG zAG zAG zAG ?_;simp;refine cF f ?_ ?_<;>intro k1 h1 f
 ·exact rtD _ f
 exact rtD _ f
theorem C6(a0:YI)(a1:Int):xQ prog 60 false a0.row [rI a1] (YG a0 a1).1.row [rB (YG a0 a1).2]:=by have f:=me (YG.eq_1 a0 a1);refine yK func60 rfl zAV (fun v=>?_);simp[ntmps60];refine cBs [] (XD a0 a1) ?_;refine qA (rv:=[.tmp 4]) rfl ?_;simp[f.h]
theorem Aw(h:b)(k:a:=by(intros;first|omega|with_unfolding_all (first|first|omega|(have z:=Qp a0 (a1.length:Int);omega))|((try simp only[Yw,show ∀x,IntKind.i64.wrap x=W x from fun _=>rfl]at*);omega))):a/\b:=⟨k,h⟩
theorem J6(a0:YI)(a1:List Int)(u0:0<a1.length):xQ prog 123 false a0.row [rL 1 iR a1] (YD a0 a1).1.row [rI (YD a0 a1).2]:=by
 have f:=me (YD.eq_1 a0 a1);refine yK func123 rfl zAV (fun v=>?_);simp[ntmps123];refine cBo [] (XD a0 (a1.length:Int)) ?_;have i1:(ZL a0 (a1.length:Int)).2.toNat<a1.length:=by(have z:=Qp a0 (a1.length:Int);omega)
 simp[i1,ZF];repeat with_reducible refine Aw ?_
 refine qA (rv:=[.tmp 4]) rfl ?_;simp[f.h]
theorem B2(h:b)(k:a:=by(intros;first|omega|with_unfolding_all (first|first|omega|(have z:=Qp a0 (a1.length:Int);omega))|((try simp only[Yw,show ∀x,IntKind.i64.wrap x=W x from fun _=>rfl]at*);omega))):a/\b:=⟨k,h⟩
theorem B1(a0:YI)(a1:List ByteArray)(u0:0<a1.length):xQ prog 258 false a0.row [rL 1 sR a1] (PU a0 a1).1.row [rS (PU a0 a1).2]:=by
 have f:=me (PU.eq_1 a0 a1);refine yK func258 rfl zAV (fun v=>?_);simp[ntmps258];refine cBo [] (XD a0 (a1.length:Int)) ?_;have i1:(ZL a0 (a1.length:Int)).2.toNat<a1.length:=by(have z:=Qp a0 (a1.length:Int);omega)
 simp[i1,ZF];repeat with_reducible refine B2 ?_
 refine qA (rv:=[.tmp 4]) rfl ?_;simp[f.h]
theorem C9(a0:YI):xQ prog 198 false a0.row [] (yW a0).1.row [rS (yW a0).2]:=by have f:=me (yW.eq_1 a0);refine yK func198 rfl zAV (fun v=>?_);simp[ntmps198];refine UU [(4,0)] rfl zAG ?_;refine cBs [] (B1 a0 ([(⟨#[]⟩:ByteArray),(⟨#[97]⟩:ByteArray),(⟨#[98]⟩:ByteArray),(⟨#[97,98]⟩:ByteArray),(⟨#[121,101,115]⟩:ByteArray),(⟨#[110,111]⟩:ByteArray),(⟨#[111,110,101,32,104,117,110,100,114,101,100]⟩:ByteArray)]:List ByteArray) zAY) ?_;refine qA (rv:=[.tmp 2]) rfl ?_;simp[f.h]
theorem WY(a0:ZW):Sa 237 [a0.row] [rB (yy a0)]:=by
 have f:=me (yy.eq_1 a0);refine so func237 ntmps237 ?_;refine lp1 (xe.eq_2 a0) (fun J=>Yy 51 [eX 1 (a0.row.map .d),eI 3 (J:Int)]) (fun n1 J=>a0.X3.length<n1+J/\J<=a0.X3.length) (a0.X3.length+1) 0 (fun p1 J e1 j1=>?_);refine cFf e1 ?_ ?_<;>intro k2 h1 e1
 ·have i1:=ix h1;have m2:=ml a0.X3 (k2 7 _ rfl);have w1:=wr J;simp[i1,ZF];refine rpS ?_;refine cF e1 ?_ ?_<;>intro k3 h2 e1
  ·exact rt [.tmp 2] (ms f e1)
  exact ny1 w1 e1
 have f:=ms f e1;refine lp1 (xu.eq_2 a0) (fun nc=>Yy 51 [eX 1 (a0.row.map .d),eI 4 (nc:Int)]) (fun n2 nc=>a0.KS.length<n2+nc/\nc<=a0.KS.length) (a0.KS.length+1) 0 (fun p2 nc e2 j2=>?_);refine cFf e2 ?_ ?_<;>intro k5 h3 e2
 ·have i2:=ix h3;have m4:=ml a0.KS (k5 21 _ rfl);have w2:=wr nc;simp[i2,ZF];refine rpS ?_;refine cRs (XC (nth a0.KS nc) 1 1000000000000) ?_;refine cFo e2 ?_ ?_<;>intro k6 h4 e2
  ·have q4:=h4;try simp[Yd]at q4
   have f:=ms f e2;simp;exact rt [.tmp 2] f
  have q4:=h4;try simp[Yd]at q4
  simp;exact ny1 w2 e2
 have f:=ms f e2;refine cRs (XC a0.Vi 0 999) ?_;refine cGs (fun gg=>XC (a0.X3.length:Int) 1 6) ?_;exact rt [.tmp 2] f
theorem Lq(a0:Int):Sa 259 [rI a0] [rB (T7 a0)]:=by have f:=me (T7.eq_1 a0);refine so func259 ntmps259 ?_;refine cRs (XC a0 1 2147483646) ?_;exact rt [.tmp 2] f
theorem NU(a0:Int)(a1:List ByteArray)(a2:Int)(u0:Sm 2326528 a1):Sd 199 [rI a0,rL 1 sR a1,rI a2] [(yA a0 a1 a2).1.row,rB (yA a0 a1 a2).2]:=by
 have f:=me (yA.eq_1 a0 a1 a2);have c1:=sl 2326528 a1 u0;refine soD func199 ntmps199 ?_;refine lp2 (yI.eq_2 a0 a1 a2) (fun J U=>Yy 42 [eI 0 a0,eL 1 1 a1 sR,eI 2 a2,(6,.one (.bptr 6 0),[.box [.d (.int .i64 0),.nil 1,.nil 1]]),(8,.one (.bptr 8 0),[.box [.d (.int .i64 a0),.sref 13 0 0 a1.length,.sref 8 3 0 U.length],.none,.none,.arr false 1 (U.map iR)]),eI 9 (J:Int),(13,.any,[.arr false 1 (a1.map sR)])]) (fun n1 J U=>a1.length<n1+J/\J<=a1.length/\U.length<=0+1*J) (a1.length+1) 0 ([]:List Int) (fun p1 J U e1 j1=>?_) (h0:=wkS [((8,3),none)] []);refine cF e1 ?_ ?_<;>intro k2 h1 e1
 ·have i1:=ix h1;have m2:=ml a1 (k2 1 _ rfl);have w1:=wr J;refine dIs mixed ?_;refine cRs (RZ a2 ([a0,(J:Int)]:List Int) (by simp(maxDischargeDepth:=12) [Tx,XH,ZH (m:=2330624) zAE u0];try omega)) ?_;refine cRs (Gp 1 (jc a2 ([a0,(J:Int)]:List Int))) ?_;exact nx2 e1 (hw:=XN [((8,3),some (30,0))] [] rfl zAe)
 have f:=ms f e1;refine cRs (WY (ZW.mk a0 a1 U)) ?_;refine cGs (fun gg=>Lq a2) ?_;refine cF f ?_ ?_<;>intro k4 h2 f
 ·exact rtD [.cell 6 44,.tmp 7] f
 exact rtD [.cell 6 44,.tmp 7] f
theorem UP(a0:YI):xQ prog 124 true a0.row [] (X0 a0).1.row [(X0 a0).2.row]:=by
 have f:=me (X0.eq_1 a0);refine yK func124 rfl zAV (fun v=>?_);simp[ntmps124];refine cBs [] (XD a0 3) ?_;refine lp5 (kp.eq_2) (fun J U nb nm mA=>Yy 28 [(0,.fix v (.one (.bptr 0 0)),[.box [.d (.sl 1 (nb.map bR)),.d (.int .i64 (nm:Int)),.d (.int .i64 mA)]]),(2,.one (.bptr 2 0),[.box [.d (.int .i64 0),.nil 1,.nil 1]]),(3,.one (.sref 3 0 0 J.length),[.arr false 1 (J.map sR)]),eI 4 U]) (fun n1 J U nb nm mA=>U+1<=(n1:Int)/\0<=U/\(J.length:Int)+U<=3/\(∀x∈J,x.size<=11)) 5 ([]:List ByteArray) (W (1+(ZL a0 3).2)) (ZL a0 3).1.b (ZL a0 3).1.i (ZL a0 3).1.h (fun p1 J U nb nm mA e1 j1=>?_) (hI:=by(have z:=Qp a0 3;(try dsimp only);simp only[Yw,List.length_nil];refine⟨zAD,zAD,zAD,zAD,fun x h=>by cases h⟩)) (h0:=wkS [((3,0),some (7,0))] []);try dsimp only at j1
 refine cF e1 ?_ ?_<;>intro k2 h1 e1
 ·refine cBs [] (C9 (YI.mk nb nm mA)) ?_;exact nx5 e1 (hI:=by(have hh:=h1;simp at hh;(try dsimp only);simp only[Yw,List.length_append,List.length_singleton];refine⟨zAD,zAD,zAD,zAD,fun x hx=>?_⟩;rcases List.mem_append.1 hx with hx|hx;exact j1.2.2.2.2 x hx;simp at hx;rw[hx];exact OB _)) (hw:=wkS [((3,0),some (19,0))] [])
 have f:=ms f e1;refine cBs [] (XD (YI.mk nb nm mA) 5) ?_;refine cDs [true,false,false] (NU (ZL (YI.mk nb nm mA) 5).2 J 11 (by(exact⟨zAD,fun x hx=>Nat.le_trans (j1.2.2.2.2 x hx) zAE⟩))) ?_;refine qA (rv:=[.cell 2 44]) rfl ?_;simp[f.h]
theorem Tb(a0:YI)(a1:Int):xQ prog 125 true a0.row [rI a1] (XU a0 a1).1.row [(XU a0 a1).2.row]:=by
 have f:=me (XU.eq_1 a0 a1);refine yK func125 rfl zAV (fun v=>?_);simp[ntmps125];refine UU [(7,0)] rfl zAG ?_;refine cBs [] (J6 a0 ([0,-10,40]:List Int) zAY) ?_;refine cF f ?_ ?_<;>intro k1 h1 f
 ·refine cF f ?_ ?_<;>intro k2 h2 f
  ·refine cF f ?_ ?_<;>intro k3 h3 f
   ·refine qA (rv:=[.cell 4 67]) rfl ?_;simp[f.h]
   refine qA (rv:=[.cell 4 67]) rfl ?_;simp[f.h]
  refine cF f ?_ ?_<;>intro k4 h4 f
  ·refine qA (rv:=[.cell 4 67]) rfl ?_;simp[f.h]
  refine qA (rv:=[.cell 4 67]) rfl ?_;simp[f.h]
 refine cF f ?_ ?_<;>intro k5 h5 f
 ·refine cF f ?_ ?_<;>intro k6 h6 f
  ·refine qA (rv:=[.cell 4 67]) rfl ?_;simp[f.h]
  refine qA (rv:=[.cell 4 67]) rfl ?_;simp[f.h]
 refine cF f ?_ ?_<;>intro k7 h7 f
 ·refine qA (rv:=[.cell 4 67]) rfl ?_;simp[f.h]
 refine qA (rv:=[.cell 4 67]) rfl ?_;simp[f.h]
theorem IV(a0:YI):xQ prog 61 true a0.row [] (Z6 a0).1.row [rL 9 Zt.row (Z6 a0).2]:=by have f:=me (Z6.eq_1 a0);refine yK func61 rfl zAV (fun v=>?_);simp[ntmps61];refine UU [(6,0)] rfl zAG ?_;refine cBs [] (J6 a0 ([11,12]:List Int) zAY) ?_;refine cBs [] (UP (YD a0 ([11,12]:List Int)).1) ?_;refine wS (news:=([Zt.mk 1 22 0 0 0 (ZW.mk 0 ([]:List ByteArray) ([]:List Int)) ([]:List Int),Zt.mk 2 0 (YD a0 ([11,12]:List Int)).2 0 10000 (X0 (YD a0 ([11,12]:List Int)).1).2 ([]:List Int),Zt.mk 1 3 0 0 0 (ZW.mk 0 ([]:List ByteArray) ([]:List Int)) ([]:List Int),Zt.mk 3 1 0 0 0 (ZW.mk 0 ([]:List ByteArray) ([]:List Int)) ([]:List Int)]:List Zt).map Zt.row) (L:=[(9,1),(9,2)]) rfl rfl rfl rfl zAG zAG zAG zAG zAG zAG ?_;simp;refine cBs [] (Tb (X0 (YD a0 ([11,12]:List Int)).1).1 25) ?_;refine jg ?_;simp;refine kX (ng:=([Zt.mk 1 22 0 0 0 (ZW.mk 0 ([]:List ByteArray) ([]:List Int)) ([]:List Int),Zt.mk 2 0 (YD a0 ([11,12]:List Int)).2 0 10000 (X0 (YD a0 ([11,12]:List Int)).1).2 ([]:List Int),Zt.mk 1 3 0 0 0 (ZW.mk 0 ([]:List ByteArray) ([]:List Int)) ([]:List Int),Zt.mk 3 1 0 0 0 (ZW.mk 0 ([]:List ByteArray) ([]:List Int)) ([]:List Int)]:List Zt).map Zt.row) (news:=([(XU (X0 (YD a0 ([11,12]:List Int)).1).1 25).2,Zt.mk 1 18 0 0 0 (ZW.mk 0 ([]:List ByteArray) ([]:List Int)) ([]:List Int)]:List Zt).map Zt.row) (l1:=[(13,0)]) (l2:=[(16,6),(16,7),(16,8)]) (size:=9) ?_;simp;refine cBs [] (Tb (XU (X0 (YD a0 ([11,12]:List Int)).1).1 25).1 43) ?_;refine jg ?_;simp;refine kX (ng:=(([Zt.mk 1 22 0 0 0 (ZW.mk 0 ([]:List ByteArray) ([]:List Int)) ([]:List Int),Zt.mk 2 0 (YD a0 ([11,12]:List Int)).2 0 10000 (X0 (YD a0 ([11,12]:List Int)).1).2 ([]:List Int),Zt.mk 1 3 0 0 0 (ZW.mk 0 ([]:List ByteArray) ([]:List Int)) ([]:List Int),Zt.mk 3 1 0 0 0 (ZW.mk 0 ([]:List ByteArray) ([]:List Int)) ([]:List Int)]:List Zt)++([(XU (X0 (YD a0 ([11,12]:List Int)).1).1 25).2,Zt.mk 1 18 0 0 0 (ZW.mk 0 ([]:List ByteArray) ([]:List Int)) ([]:List Int)]:List Zt)).map Zt.row) (news:=([(XU (XU (X0 (YD a0 ([11,12]:List Int)).1).1 25).1 43).2,Zt.mk 1 22 0 0 0 (ZW.mk 0 ([]:List ByteArray) ([]:List Int)) ([]:List Int)]:List Zt).map Zt.row) (l1:=[(19,0)]) (l2:=[(22,6),(22,7),(22,8)]) (size:=9) ?_;simp;refine cBs [] (Tb (XU (XU (X0 (YD a0 ([11,12]:List Int)).1).1 25).1 43).1 65) ?_;refine jg ?_;simp;refine kX (ng:=((([Zt.mk 1 22 0 0 0 (ZW.mk 0 ([]:List ByteArray) ([]:List Int)) ([]:List Int),Zt.mk 2 0 (YD a0 ([11,12]:List Int)).2 0 10000 (X0 (YD a0 ([11,12]:List Int)).1).2 ([]:List Int),Zt.mk 1 3 0 0 0 (ZW.mk 0 ([]:List ByteArray) ([]:List Int)) ([]:List Int),Zt.mk 3 1 0 0 0 (ZW.mk 0 ([]:List ByteArray) ([]:List Int)) ([]:List Int)]:List Zt)++([(XU (X0 (YD a0 ([11,12]:List Int)).1).1 25).2,Zt.mk 1 18 0 0 0 (ZW.mk 0 ([]:List ByteArray) ([]:List Int)) ([]:List Int)]:List Zt))++([(XU (XU (X0 (YD a0 ([11,12]:List Int)).1).1 25).1 43).2,Zt.mk 1 22 0 0 0 (ZW.mk 0 ([]:List ByteArray) ([]:List Int)) ([]:List Int)]:List Zt)).map Zt.row) (news:=([(XU (XU (XU (X0 (YD a0 ([11,12]:List Int)).1).1 25).1 43).1 65).2,Zt.mk 1 20 0 0 0 (ZW.mk 0 ([]:List ByteArray) ([]:List Int)) ([]:List Int)]:List Zt).map Zt.row) (l1:=[(25,0)]) (l2:=[(28,6),(28,7),(28,8)]) (size:=9) ?_;simp;refine qA (rv:=[.tmp 2]) rfl ?_;simp[f.h]
theorem FC(h:b)(k:a:=by(intros;first|omega|with_unfolding_all (first|first|omega|(have z:=Qp (YD (ZL (ZL a0 16).1 2).1 ([0,(-10),40]:List Int)).1 3;omega))|((try simp only[Yw,show ∀x,IntKind.i64.wrap x=W x from fun _=>rfl]at*);omega))):a/\b:=⟨k,h⟩
theorem Po(a0:YI):xQ prog 62 false a0.row [] (Xu a0).1.row [(Xu a0).2.row]:=by
 have f:=me (Xu.eq_1 a0);refine yK func62 rfl zAV (fun v=>?_);simp[ntmps62];refine cBs [] (XD a0 16) ?_;refine cF f ?_ ?_<;>intro k1 h1 f
 ·refine cY h1 ?_;refine UU [(10,0)] rfl zAG ?_;refine cBs [] (J6 (ZL a0 16).1 ([1,5,10,20,30]:List Int) zAY) ?_;refine qA (rv:=[.cell 2 67]) rfl ?_;simp[f.h]
 refine cF f ?_ ?_<;>intro k2 h2 f
 ·refine cY h2 ?_;refine UU [(10,0)] rfl zAG ?_;refine cBs [] (J6 (ZL a0 16).1 ([1,5,10,20,30]:List Int) zAY) ?_;refine qA (rv:=[.cell 2 67]) rfl ?_;simp[f.h]
 refine cF f ?_ ?_<;>intro k3 h3 f
 ·refine UU [(10,0)] rfl zAG ?_;refine cBs [] (J6 (ZL a0 16).1 ([1,5,10,20,30]:List Int) zAY) ?_;refine qA (rv:=[.cell 2 67]) rfl ?_;simp[f.h]
 refine cF f ?_ ?_<;>intro k4 h4 f
 ·refine cY h4 ?_;refine cBs [] (XD (ZL a0 16).1 2) ?_;refine UU [(19,0)] rfl zAG ?_;refine cBs [] (J6 (ZL (ZL a0 16).1 2).1 ([11,12,13]:List Int) zAY) ?_;refine UU [(22,0)] rfl zAG ?_;refine cBs [] (J6 (YD (ZL (ZL a0 16).1 2).1 ([11,12,13]:List Int)).1 ([30,10000]:List Int) zAY) ?_;refine cBs [] (UP (YD (YD (ZL (ZL a0 16).1 2).1 ([11,12,13]:List Int)).1 ([30,10000]:List Int)).1) ?_;refine qA (rv:=[.cell 2 67]) rfl ?_;simp[f.h]
 refine cF f ?_ ?_<;>intro k5 h5 f
 ·refine cBs [] (XD (ZL a0 16).1 2) ?_;refine UU [(19,0)] rfl zAG ?_;refine cBs [] (J6 (ZL (ZL a0 16).1 2).1 ([11,12,13]:List Int) zAY) ?_;refine UU [(22,0)] rfl zAG ?_;refine cBs [] (J6 (YD (ZL (ZL a0 16).1 2).1 ([11,12,13]:List Int)).1 ([30,10000]:List Int) zAY) ?_;refine cBs [] (UP (YD (YD (ZL (ZL a0 16).1 2).1 ([11,12,13]:List Int)).1 ([30,10000]:List Int)).1) ?_;refine qA (rv:=[.cell 2 67]) rfl ?_;simp[f.h]
 refine cF f ?_ ?_<;>intro k6 h6 f
 ·refine cY h6 ?_;refine cBs [] (XD (ZL a0 16).1 3) ?_;refine qA (rv:=[.cell 2 67]) rfl ?_;simp[f.h]
 refine cF f ?_ ?_<;>intro k7 h7 f
 ·refine cBs [] (XD (ZL a0 16).1 3) ?_;refine qA (rv:=[.cell 2 67]) rfl ?_;simp[f.h]
 refine cF f ?_ ?_<;>intro k8 h8 f
 ·refine cBs [] (XD (ZL a0 16).1 3) ?_;refine qA (rv:=[.cell 2 67]) rfl ?_;simp[f.h]
 refine cF f ?_ ?_<;>intro k9 h9 f
 ·refine cBs [] (XD (ZL a0 16).1 2) ?_;refine cBs [] (XD (ZL (ZL a0 16).1 2).1 2) ?_;refine cBs [] (XD (ZL (ZL (ZL a0 16).1 2).1 2).1 3) ?_;refine qA (rv:=[.cell 2 67]) rfl ?_;simp[f.h]
 refine cF f ?_ ?_<;>intro cS hR f
 ·refine cBs [] (XD (ZL a0 16).1 2) ?_;refine qA (rv:=[.cell 2 67]) rfl ?_;simp[f.h]
 refine cF f ?_ ?_<;>intro cQ cN f
 ·refine cBs [] (XD (ZL a0 16).1 2) ?_;refine UU [(59,0)] rfl zAG ?_;refine cBs [] (J6 (ZL (ZL a0 16).1 2).1 ([11,12]:List Int) zAY) ?_;refine cBs [] (UP (YD (ZL (ZL a0 16).1 2).1 ([11,12]:List Int)).1) ?_;refine qA (rv:=[.cell 2 67]) rfl ?_;simp[f.h]
 refine cF f ?_ ?_<;>intro k12 dn f
 ·refine cBs [] (XD (ZL a0 16).1 4) ?_;refine UU [(70,0)] rfl zAG ?_;refine cBs [] (J6 (ZL (ZL a0 16).1 4).1 ([5,25,60]:List Int) zAY) ?_;refine qA (rv:=[.cell 2 67]) rfl ?_;simp[f.h]
 refine cF f ?_ ?_<;>intro cf cz f
 ·refine cBs [] (XD (ZL a0 16).1 3) ?_;refine UU [(79,0)] rfl zAG ?_;refine cBs [] (J6 (ZL (ZL a0 16).1 3).1 ([10,40,60]:List Int) zAY) ?_;refine qA (rv:=[.cell 2 67]) rfl ?_;simp[f.h]
 refine cBs [] (XD (ZL a0 16).1 2) ?_;refine UU [(85,0)] rfl zAG ?_;refine cBs [] (J6 (ZL (ZL a0 16).1 2).1 ([0,-10,40]:List Int) zAY) ?_;refine cBo [] (XD (YD (ZL (ZL a0 16).1 2).1 ([0,-10,40]:List Int)).1 3) ?_;simp;repeat with_reducible refine FC ?_
 refine qA (rv:=[.cell 2 67]) rfl ?_;simp[f.h]
theorem Vs(h:b)(k:a:=by(intros;first|omega|with_unfolding_all (first|first|omega|(have z:=Qp (Z6 (YG a0 2).1).1 (W (((Z6 (YG a0 2).1).2.length:Int)+1));have z3:=Ky (YG a0 2).1;simp only[Yw]at*;omega))|((try simp only[Yw,show ∀x,IntKind.i64.wrap x=W x from fun _=>rfl]at*);omega))):a/\b:=⟨k,h⟩
theorem GB(a0:YI)(a1:Int):xQ prog 22 false a0.row [rI a1] (jR a0 a1).1.row [rL 9 Zt.row (jR a0 a1).2]:=by
 have f:=me (jR.eq_1 a0 a1);refine yK func22 rfl zAV (fun v=>?_);simp[ntmps22];refine eIs ?_;refine cBs [] (C6 a0 2) ?_;refine cF f ?_ ?_<;>intro k1 h1 f
 ·refine cBs [] (IV (YG a0 2).1) ?_;refine cBo [] (XD (Z6 (YG a0 2).1).1 (W (((Z6 (YG a0 2).1).2.length:Int)+1))) ?_;simp;repeat with_reducible refine Vs ?_
  refine cBs [] (XD (ZL (Z6 (YG a0 2).1).1 (W (((Z6 (YG a0 2).1).2.length:Int)+1))).1 a1) ?_;refine lp5 (Ko.eq_2) (fun J U nb nm mA=>Yy 32 [(0,.fix v (.one (.bptr 0 0)),[.box [.d (.sl 1 (nb.map bR)),.d (.int .i64 (nm:Int)),.d (.int .i64 mA)]]),(5,.one (.sref 5 0 0 J.length),[.arr false 9 (J.map Zt.row)]),eI 6 U]) (fun n1 J U nb nm mA=>U+1<=(n1:Int)/\0<=U/\(J.length:Int)+U<=16777300) ((ZL (ZL (Z6 (YG a0 2).1).1 (W (((Z6 (YG a0 2).1).2.length:Int)+1))).1 a1).2.toNat+2) ((Z6 (YG a0 2).1).2.take (ZL (Z6 (YG a0 2).1).1 (W (((Z6 (YG a0 2).1).2.length:Int)+1))).2.toNat) (ZL (ZL (Z6 (YG a0 2).1).1 (W (((Z6 (YG a0 2).1).2.length:Int)+1))).1 a1).2 (ZL (ZL (Z6 (YG a0 2).1).1 (W (((Z6 (YG a0 2).1).2.length:Int)+1))).1 a1).1.b (ZL (ZL (Z6 (YG a0 2).1).1 (W (((Z6 (YG a0 2).1).2.length:Int)+1))).1 a1).1.i (ZL (ZL (Z6 (YG a0 2).1).1 (W (((Z6 (YG a0 2).1).2.length:Int)+1))).1 a1).1.h (fun p1 J U nb nm mA e1 j1=>?_) (hI:=by(have z:=Qp (ZL (Z6 (YG a0 2).1).1 (W (((Z6 (YG a0 2).1).2.length:Int)+1))).1 a1;have z2:=N2 (ZL (Z6 (YG a0 2).1).1 (W (((Z6 (YG a0 2).1).2.length:Int)+1))).1 a1;(try dsimp only);first|(simp only[List.length_nil];omega)|(have z3:=Ky (YG a0 2).1;simp only[List.length_take];omega))) (h0:=pj (qq:=true) prog false (d:=5) (u:=11) (j:=0) (n:=(ZL (Z6 (YG a0 2).1).1 (W (((Z6 (YG a0 2).1).2.length:Int)+1))).2.toNat) (size:=9) (rows:=(Z6 (YG a0 2).1).2.map Zt.row) zAG zAG (by simp;first|omega|(have z:=Qp (Z6 (YG a0 2).1).1 (W (((Z6 (YG a0 2).1).2.length:Int)+1));have z3:=Ky (YG a0 2).1;simp only[Yw]at*;omega)) zAG zAG (KG zAG));try dsimp only at j1
  refine cF e1 ?_ ?_<;>intro k3 h2 e1
  ·refine cBs [] (Po (YI.mk nb nm mA)) ?_;refine eIs ?_;refine evI rfl rfl rfl ?_;simp;repeat with_reducible refine Vs ?_
   exact nx5 e1 (hI:=by(have hh:=h2;simp at hh;simp only[Yw];(try dsimp only);simp only[List.length_append,List.length_cons,List.length_nil];omega)) (hw:=wkS [((5,0),some (30,0))] [])
  have f:=ms f e1;refine qA (rv:=[.tmp 4]) rfl ?_;simp[f.h]
 refine cBs [] (XD (YG a0 2).1 a1) ?_;refine lp5 (Ks.eq_2) (fun nc nh lT lV gY=>Yy 32 [(0,.fix v (.one (.bptr 0 0)),[.box [.d (.sl 1 (lT.map bR)),.d (.int .i64 (lV:Int)),.d (.int .i64 gY)]]),(5,.one (.sref 5 0 0 nc.length),[.arr false 9 (nc.map Zt.row)]),eI 6 nh]) (fun n2 nc nh lT lV gY=>nh+1<=(n2:Int)/\0<=nh/\(nc.length:Int)+nh<=16777300) ((ZL (YG a0 2).1 a1).2.toNat+2) ([]:List Zt) (ZL (YG a0 2).1 a1).2 (ZL (YG a0 2).1 a1).1.b (ZL (YG a0 2).1 a1).1.i (ZL (YG a0 2).1 a1).1.h (fun p2 nc nh lT lV gY e2 j2=>?_) (hI:=by(have z:=Qp (YG a0 2).1 a1;have z2:=N2 (YG a0 2).1 a1;(try dsimp only);first|(simp only[List.length_nil];omega)|(have z3:=Ky (YG a0 2).1;simp only[List.length_take];omega))) (h0:=wkS [((5,0),some (7,0))] []);try dsimp only at j2
 refine cF e2 ?_ ?_<;>intro k5 h3 e2
 ·refine cBs [] (Po (YI.mk lT lV gY)) ?_;refine eIs ?_;refine evI rfl rfl rfl ?_;simp;repeat with_reducible refine Vs ?_
  exact nx5 e2 (hI:=by(have hh:=h3;simp at hh;simp only[Yw];(try dsimp only);simp only[List.length_append,List.length_cons,List.length_nil];omega)) (hw:=wkS [((5,0),some (30,0))] [])
 have f:=ms f e2;refine qA (rv:=[.tmp 4]) rfl ?_;simp[f.h]
theorem OJ(a0:List UInt8):Sa 6 [rL 1 bR a0] [(ZA a0).1.row,rL 9 Zt.row (ZA a0).2]:=by have f:=me (ZA.eq_1 a0);refine so func6 ntmps6 ?_;refine cNs (Ad a0) ?_;refine cBs [] (XD (Ws a0) 2) ?_;refine cDs [false,false,false,true,true,false,false,true,false,false,true,false] (EH (ZL (Ws a0) 2).2) ?_;refine wR [(2,2),(4,7),(5,5),(12,7)] [] [13,3000001] mixed zAV zAV zAV zAV zAV zAV zAV ?_;simp;refine cBs [] (GB (ZL (Ws a0) 2).1 12) ?_;exact rt _ f
theorem FD(a0:Zb)(u0:Sm 2342912 a0):Sd 66 [a0.row] [(OM a0).row]:=by have f:=me (OM.eq_1 a0);have c1:=sl 2342912 a0.Z0 u0;have c2:=sl 2342912 a0.ZD u0;have c3:=sl 2342912 a0.Methods u0;refine soD func66 ntmps66 ?_;exact rtD _ f
theorem GS(a0:Zb)(u0:Sm 2342912 a0):Sd 66 [a0.row] [a0.row]:=by have h:=FD a0 u0;rwa[Fu]at h
theorem BF(a0:ZW)(u0:Sm 2342912 a0):Sd 165 [a0.row] [(Hh a0).row]:=by have f:=me (Hh.eq_1 a0);refine soD func165 ntmps165 ?_;refine HV [2,3,4,5,6,7,8,9,0,1,10,11] mixed zAV zAV zAV ?_;have c1:=sl 2342912 a0.X3 u0;have c2:=sl 2342912 a0.KS u0;simp;refine rpS ?_;exact rtD [.cell 2 44] f
theorem Nv(a0:ZW)(u0:Sm 2342912 a0):Sd 165 [a0.row] [a0.row]:=by have h:=BF a0 u0;rwa[Cc]at h
theorem D9(a0:ZU)(u0:Sm 2342912 a0):Sd 242 [a0.row] [(M9 a0).row]:=by have f:=me (M9.eq_1 a0);refine soD func242 ntmps242 ?_;refine HV [2,3,4,5,0,1,6,7,8,9] mixed zAV zAV zAV ?_;have c1:=sl 2342912 a0.YM u0;simp;refine rpS ?_;exact rtD [.cell 2 154] f
theorem OF(a0:ZU)(u0:Sm 2342912 a0):Sd 242 [a0.row] [a0.row]:=by have h:=D9 a0 u0;rwa[Dl]at h
theorem BS(a0:List ZU)(u0:Sm 2338816 a0):Sd 247 [rL 3 ZU.row a0] [rL 3 ZU.row (NH a0)]:=by
 have f:=me (NH.eq_1 a0);refine soD func247 ntmps247 ?_;refine wS (news:=([]:List ZU).map ZU.row) (L:=[]) rfl rfl rfl rfl zAG zAG zAG zAG zAG zAG ?_;simp;refine lp2 (SP.eq_2 a0) (fun J U=>Yy 21 [eL 0 3 a0 ZU.row,(3,.one (.sref 3 0 0 J.length),[.arr true 3 (J.map ZU.row)]),eI 4 (U:Int)]) (fun n1 J U=>a0.length<n1+U/\U<=a0.length/\J.length<=0+1*U) (a0.length+1) ([]:List ZU) 0 (fun p1 J U e1 j1=>?_) (h0:=wkS [((3,0),some (5,0))] []);refine cFf e1 ?_ ?_<;>intro k2 h1 e1
 ·have i1:=ix h1;have m2:=ml a0 (k2 0 _ rfl);have c1:=sl 2338816 a0 u0;have w1:=wr U;simp[i1,ZF];refine rpS ?_;refine cDs [true,false] (OF (nth a0 U) (sg (Zn u0))) ?_;refine jg ?_;simp;refine kX (ng:=J.map ZU.row) (news:=([nth a0 U]:List ZU).map ZU.row) (l1:=[(3,0)]) (l2:=[(17,1)]) (size:=3) ?_;simp;exact nx2 e1 (hw:=XN [((3,0),some (19,0))] [] rfl zAe)
 exact rtD [.tmp 2] (ms f e1)
theorem DN(a0:List ZU)(u0:Sm 2338816 a0):Sd 247 [rL 3 ZU.row a0] [rL 3 ZU.row a0]:=by have h:=BS a0 u0;rwa[Cs]at h
theorem CO(a0:Ze)(u0:Sm 2342912 a0):Sd 186 [a0.row] [(MJ a0).row]:=by have f:=me (MJ.eq_1 a0);have c1:=sl 2342912 a0.Path u0;have c2:=sl 2342912 a0.YV u0;refine soD func186 ntmps186 ?_;exact rtD [.cell 2 80] f
theorem Pn(a0:Ze)(u0:Sm 2342912 a0):Sd 186 [a0.row] [a0.row]:=by have h:=CO a0 u0;rwa[DX]at h
theorem Dn(a0:ZX)(u0:Sm 2334720 a0):Sd 183 [a0.row] [(PK a0).row]:=by
 have f:=me (PK.eq_1 a0);refine soD func183 ntmps183 ?_;refine cDs [] (DN a0.ZM (sg (ZX.QE u0))) ?_;refine lp2 (Uk.eq_2 a0) (fun J U=>Yy 28 [eX 1 (a0.row.map .d),(2,.one (.bptr 2 0),[.box [.nil 3,.nil 5]]),(3,.one (.bptr 3 0),[.box [.sref 7 0 0 a0.ZM.length,.sref 3 2 0 U.length],.none,.arr true 5 (U.map Ze.row)]),eI 4 (J:Int),(7,.any,[.arr true 3 (a0.ZM.map ZU.row)])]) (fun n1 J U=>a0.ZQ.length<n1+J/\J<=a0.ZQ.length/\U.length<=0+1*J) (a0.ZQ.length+1) 0 ([]:List Ze) (fun p1 J U e1 j1=>?_) (h0:=wkS [((3,2),none)] []);refine cF e1 ?_ ?_<;>intro k2 h1 e1
 ·have i1:=ix h1;have m2:=ml a0.ZQ (k2 11 _ rfl);have c1:=sl 2334720 a0.ZQ u0;have w1:=wr J;refine drJ [25] mixed ?_;simp[i1,ZF];refine rpS ?_;refine cDs [true,true,true,false,false] (Pn (nth a0.ZQ J) (sg (Zn (ZX.zf u0)))) ?_;refine jg ?_;simp;refine kX (ng:=U.map Ze.row) (news:=([nth a0.ZQ J]:List Ze).map Ze.row) (l1:=[(3,2)]) (l2:=[(23,3),(23,4)]) (size:=5) ?_;simp;exact nx2 e1 (hw:=XN [((3,2),some (25,0))] [] rfl zAe)
 have c2:=sl 2334720 a0.ZQ u0;exact rtD [.cell 2 50] (ms f e1)
theorem xI(a0:ZX)(u0:Sm 2334720 a0):Sd 183 [a0.row] [a0.row]:=by have h:=Dn a0 u0;rwa[Ds]at h
theorem Dm(a0:ZR)(u0:Sm 2330624 a0):Sd 127 [a0.row] [(MT a0).row]:=by have f:=me (MT.eq_1 a0);refine soD func127 ntmps127 ?_;refine cDs [true,false,false] (Nv a0.Doc (sg (ZR.zt u0))) ?_;refine cDs [] (xI a0.ZK (sg (ZR.Yv u0))) ?_;exact rtD [.cell 2 52] f
theorem JD(a0:ZR)(u0:Sm 2330624 a0):Sd 127 [a0.row] [a0.row]:=by have h:=Dm a0 u0;rwa[Df]at h
theorem Di(a0:ZE)(u0:Sm 2326528 a0):Sd 67 [a0.row] [(PI a0).row]:=by
 have f:=me (PI.eq_1 a0);refine soD func67 ntmps67 ?_;refine lp2 (UX.eq_2 a0) (fun J U=>Yy 27 [eX 1 (a0.row.map .d),(2,.one (.bptr 2 0),[.box [.d (.int .i64 0),.nil 16]]),(3,.one (.bptr 3 0),[.box [.d (.int .i64 a0.Id),.sref 3 2 0 U.length],.none,.arr true 16 (U.map ZR.row)]),eI 4 (J:Int)]) (fun n1 J U=>a0.ZC.length<n1+J/\J<=a0.ZC.length/\U.length<=0+1*J) (a0.ZC.length+1) 0 ([]:List ZR) (fun p1 J U e1 j1=>?_) (h0:=wkS [((3,2),none)] []);refine cF e1 ?_ ?_<;>intro k2 h1 e1
 ·have i1:=ix h1;have m2:=ml a0.ZC (k2 10 _ rfl);have c1:=sl 2326528 a0.ZC u0;have w1:=wr J;refine drJ [24] mixed ?_;simp[i1,ZF];refine rpS ?_;refine cDs [true,true,true,false,false] (JD (nth a0.ZC J) (sg (Zn (ZE.YC u0)))) ?_;refine jg ?_;simp;refine kX (ng:=U.map ZR.row) (news:=([nth a0.ZC J]:List ZR).map ZR.row) (l1:=[(3,2)]) (l2:=[(22,3),(22,4),(22,14),(22,15)]) (size:=16) ?_;simp;exact nx2 e1 (hw:=XN [((3,2),some (24,0))] [] rfl zAe)
 have c2:=sl 2326528 a0.ZC u0;exact rtD [.cell 2 55] (ms f e1)
theorem QV(a0:ZE)(u0:Sm 2326528 a0):Sd 67 [a0.row] [a0.row]:=by have h:=Di a0 u0;rwa[Dg]at h
theorem DV(a0:ZG)(u0:Sm 2322432 a0):Sd 24 [a0.row] [(PH a0).row]:=by
 have f:=me (PH.eq_1 a0);refine soD func24 ntmps24 ?_;refine HV [0,1,2,3,4,5,6,7,8,9,10,11,12,13,14,15,16,17,18,21,22,23,24,19,20,25,26,27] mixed zAV zAV zAV ?_;simp;have c1:=sl 2322432 a0.Zf u0;have c2:=sl 2322432 a0.Zy u0;have c3:=sl 2322432 a0.Y9 u0;have c4:=sl 2322432 a0.Yg u0;have c5:=sl 2322432 a0.YN u0;refine cDs [false,false,false] (GS a0.Frame (sg (ZG.Xk u0))) ?_;refine lp2 (Uy.eq_2 a0) (fun J U=>Yy 50 [eX 1 (a0.row.map .d),(2,.one (.bptr 2 0),[.box [.nil 5,.nil 3,.nil 4,.d (.int .i64 0),.d (.int .i64 0),.nil 7,.nil 1,.nil 2,.nil 1,.nil 1,.d (.int .i64 0),.nil 1]]),(3,.one (.bptr 3 0),[.box [.sref 7 0 0 a0.Frame.Z0.length,.sref 7 1 0 a0.Frame.ZD.length,.sref 7 2 0 a0.Frame.Methods.length,.d (.int .i64 a0.Frame.XB),.d (.int .i64 a0.Frame.Now),.sref 11 0 0 a0.Zf.length,.sref 15 0 0 a0.Zy.length,.sref 3 8 0 U.length,.sref 19 0 0 a0.Y9.length,.sref 23 0 0 a0.Yg.length,.d (.int .i64 a0.Next),.sref 29 0 0 a0.YN.length],.none,.none,.none,.none,.none,.none,.none,.arr true 2 (U.map ZE.row)]),eI 4 (J:Int),(7,.any,[.arr false 5 (a0.Frame.Z0.map Y6.row),.arr false 3 (a0.Frame.ZD.map Zo.row),.arr false 4 (a0.Frame.Methods.map YJ.row)]),(11,.any,[.arr false 7 (a0.Zf.map YO.row)]),(15,.any,[.arr false 1 (a0.Zy.map iR)]),(19,.any,[.arr false 1 (a0.Y9.map iR)]),(23,.any,[.arr false 1 (a0.Yg.map iR)]),(29,.any,[.arr false 1 (a0.YN.map iR)])]) (fun n1 J U=>a0.ZB.length<n1+J/\J<=a0.ZB.length/\U.length<=0+1*J) (a0.ZB.length+1) 0 ([]:List ZE) (fun p1 J U e1 j1=>?_) (h0:=wkS [((3,8),none)] []);refine cF e1 ?_ ?_<;>intro k3 h1 e1
 ·have i1:=ix h1;have m2:=ml a0.ZB (k3 33 _ rfl);have c6:=sl 2322432 a0.ZB u0;have w1:=wr J;refine drJ [47] mixed ?_;simp[i1,ZF];refine rpS ?_;refine cDs [] (QV (nth a0.ZB J) (sg (Zn (ZG.Z5 u0)))) ?_;refine jg ?_;simp;refine kX (ng:=U.map ZE.row) (news:=([nth a0.ZB J]:List ZE).map ZE.row) (l1:=[(3,8)]) (l2:=[(45,1)]) (size:=2) ?_;simp;exact nx2 e1 (hw:=XN [((3,8),some (47,0))] [] rfl zAe)
 exact rtD [.cell 2 33] (ms f e1)
theorem Ql(a0:ZG)(u0:Sm 2322432 a0):Sd 24 [a0.row] [a0.row]:=by have h:=DV a0 u0;rwa[DS]at h
theorem FX(a0:ZG)(a1:Int)(u0:Sm 2318336 a0):Sd 41 [a0.row,rI a1] [(xm a0 a1).1.row,rB (xm a0 a1).2]:=by
 have f:=me (xm.eq_1 a0 a1);refine soD func41 ntmps41 ?_;refine cDs [false,false,false,true,true,false,false,true,false,false,true,false] (Ql a0 (sg u0)) ?_;refine cRs (XC a1 0 100) ?_;refine cFo f ?_ ?_<;>intro k1 h1 f
 ·have q1:=h1;try simp[Yd]at q1
  simp;exact rtD _ f
 have q1:=h1;try simp[Yd]at q1
 simp;exact rtD _ f
theorem jW(a0:ZG)(a1:Int):Sa 96 [a0.row,rI a1] [rB (JS a0 a1)]:=by have f:=me (JS.eq_1 a0 a1);refine so func96 ntmps96 ?_;refine cRs (XC a1 0 (W ((a0.ZB.length:Int)-1))) ?_;exact rt [.tmp 4] f
theorem jB(a0:List YJ)(a1:Int):Sa 105 [rL 4 YJ.row a0,rI a1] [rI (Zq a0 a1)]:=by
 have f:=me (Zq.eq_1 a0 a1);refine so func105 ntmps105 ?_;refine lp2 (jr.eq_2 a0 a1) (fun J U=>Yy 54 [eL 0 4 a0 YJ.row,eI 1 a1,eI 5 J,eI 6 (U:Int)]) (fun n1 J U=>a0.length<n1+U/\U<=a0.length/\-1<=J/\J<(a0.length:Int)) (a0.length+1) (-1) 0 (fun p1 J U e1 j1=>?_);refine cF e1 ?_ ?_<;>intro k2 h1 e1
 ·have i1:=ix h1;have m2:=ml a0 (k2 0 _ rfl);have w1:=wr U;refine dIo mixed ?_;simp[i1,ZF];refine rpS ?_;refine gIf ?_ ?_<;>intro G
  ·simp[i1,ZF,G];refine rpG ?_;refine gJf G ?_ ?_<;>intro G
   ·all_goals
     simp[i1,ZF,G];refine rpG ?_;refine gK (fun _=>?_);have i2:=ik J.toNat a0
     simp[i2,ZF,G];refine rpG ?_;refine cK e1 ?_ ?_<;>intro k4 h2 e1
     ·exact ny2 (an w1 G) e1
     ·exact ny2 (an w1 G) e1
   ·all_goals
     refine sGg ?_;refine cK e1 ?_ ?_<;>intro k5 h3 e1
     ·exact ny2 (an w1 G) e1
     ·exact ny2 (an w1 G) e1
  ·refine gJf G ?_ ?_<;>intro G
   ·try(simp at G;done)
    all_goals
     simp[i1,ZF,G];refine rpG ?_;refine gK (fun _=>?_);have i4:=ik J.toNat a0
     simp[i4,ZF,G];refine rpG ?_;refine cK e1 ?_ ?_<;>intro k6 h4 e1
     ·simp[G]at h4
     ·simp[G]at h4
   ·all_goals
     refine sGg ?_;refine cK e1 ?_ ?_<;>intro k7 h5 e1
     ·simp[G]at h5
     ·exact ny2 (an w1 G) e1
 have f:=ms f e1;refine cFt f ?_ ?_<;>intro k8 h6 f
 ·exact rt [.tmp 4] f
 have i6:=ik J.toNat a0;simp[i6,ZF];refine rpS ?_;exact rt [.tmp 4] f
theorem GN(a0:ZG)(a1:Int):Sa 162 [a0.row,rI a1] [rI (JM a0 a1)]:=by
 have f:=me (JM.eq_1 a0 a1);refine so func162 ntmps162 ?_;refine lp1 (WC.eq_2 a0 a1) (fun J=>Yy 22 [eI 1 a1,eX 2 (a0.row.map .d),eI 5 (J:Int)]) (fun n1 J=>a0.Zf.length<n1+J/\J<=a0.Zf.length) (a0.Zf.length+1) 0 (fun p1 J e1 j1=>?_);refine cFf e1 ?_ ?_<;>intro k2 h1 e1
 ·have i1:=ix h1;have m2:=ml a0.Zf (k2 8 _ rfl);have w1:=wr J;simp[i1,ZF];refine rpS ?_;refine cF e1 ?_ ?_<;>intro k3 h2 e1
  ·exact rt [.tmp 4] (ms f e1)
  exact ny1 w1 e1
 exact rt [.tmp 4] (ms f e1)
theorem Ku(a0:Int)(a1:List Int)(u0:Sm 68719476736 a1):Sa 239 [rI a0,rL 1 iR a1] [rI (zp a0 a1)]:=by have f:=me (zp.eq_1 a0 a1);have c1:=sl 68719476736 a1 u0;refine so func239 ntmps239 ?_;refine cRs (Eo (([7,a0]:List Int)++a1)) ?_;exact rt [.tmp 4] f
theorem Ik(a0:Int)(a1:ByteArray)(a2:Int)(u0:Sm 2326528 a1):Sa 238 [rI a0,rS a1,rI a2] [rI (SZ a0 a1 a2)]:=by
 have f:=me (SZ.eq_1 a0 a1 a2);refine so func238 ntmps238 ?_;refine lp2 (Vw.eq_2 a1) (fun J U=>Yy 27 [eI 0 a0,(1,.one (.d (.str a1)),[]),(7,.one (.sref 7 0 0 J.length),[.arr false 1 (J.map iR)]),eI 8 (U:Int)]) (fun n1 J U=>a1.size<n1+U/\U<=a1.size/\J.length<=1+1*U) (a1.size+1) ([a2]:List Int) 0 (fun p1 J U e1 j1=>?_) (h0:=wkS [((7,0),some (10,0))] []);refine cFo e1 ?_ ?_<;>intro k2 h1 e1
 ·have q1:=h1;try simp at q1
  have c1:a1.size<=2326528:=CQ (xs u0);have w1:=wr U;simp;refine rpS ?_;exact nx2 e1 (hw:=XN [((7,0),some (23,0))] [] rfl zAe)
 have q1:=h1;try simp at q1
 have c2:a1.size<=2326528:=CQ (xs u0);have f:=ms f e1;simp;refine cRs (Ku a0 J zAM) ?_;exact rt [.tmp 6] f
theorem V5(a0:Int)(a1:ZW)(u0:Sm 2322432 a1):Sa 164 [rI a0,a1.row] [rI (Kr a0 a1)]:=by
 have f:=me (Kr.eq_1 a0 a1);refine so func164 ntmps164 ?_;refine cRs (WY a1) ?_;refine cF f ?_ ?_<;>intro k1 h1 f
 ·exact rt [.tmp 4] f
 refine lp2 (TR.eq_2 a0 a1) (fun J U=>Yy 38 [eI 0 a0,eX 3 (a1.row.map .d),(5,.one (.sref 5 0 0 J.length),[.arr false 1 (J.map iR)]),eI 6 (U:Int)]) (fun n1 J U=>a1.X3.length<n1+U/\U<=a1.X3.length/\J.length<=1+1*U) (a1.X3.length+1) ([a1.Vi]:List Int) 0 (fun p1 J U e1 j1=>?_) (h0:=wkS [((5,0),some (12,0))] []);refine cF e1 ?_ ?_<;>intro k3 h2 e1
 ·have i1:=ix h2;have m2:=ml a1.X3 (k3 15 _ rfl);have c1:=sl 2322432 a1.X3 u0;have w1:=wr U;refine dIo mixed ?_;have i2:U<a1.KS.length:=by(have:=Mf (a:=a1);first|(simp_all;done)|(simp_all;omega))
  simp[i1,ZF,i2];refine rpS ?_;refine cRs (Ik a0 (nth a1.X3 U) (nth a1.KS U) (sg (Zn (ZW.Hm u0)))) ?_;exact nx2 e1 (hw:=XN [((5,0),some (34,0))] [] rfl zAe)
 have c2:=sl 2322432 a1.X3 u0;have f:=ms f e1;refine cRs (Ku a0 J zAM) ?_;exact rt [.tmp 4] f
theorem MR(a0:Zp):Sa 235 [a0.row] [rB (TO a0)]:=by have f:=me (TO.eq_1 a0);refine so func235 ntmps235 ?_;refine cRs (XC a0.Key 1 99) ?_;refine cGs (fun gg=>XC a0.Zc 1 999) ?_;refine cGs (fun gg=>XC a0.Method 0 99) ?_;refine cGs (fun gg=>XC a0.Org 0 99) ?_;refine cGs (fun gg=>XC a0.VU 1 3) ?_;refine cGs (fun gg=>XC a0.QI 0 1000000000000) ?_;refine cGs (fun gg=>XC a0.V3 0 1000000000000) ?_;refine cGs (fun gg=>XC a0.UF 0 1000000000000) ?_;exact rt [.tmp 2] f
theorem UA(a0:Zp):Sd 236 [a0.row] [rL 1 iR (Js a0)]:=by have f:=me (Js.eq_1 a0);refine soD func236 ntmps236 ?_;exact rtD [.tmp 2] f
theorem IX(a0:List Y6)(a1:Zp)(u0:Sm 2322432 a0):Sa 163 [rL 5 Y6.row a0,a1.row] [(yw a0 a1).1.row,rB (yw a0 a1).2]:=by
 have f:=me (yw.eq_1 a0 a1);refine so func163 ntmps163 ?_;refine cRs (J9 a0 a1.Key) ?_;refine cRs (MR a1) ?_;refine cF f ?_ ?_<;>intro k1 h1 f
 ·exact rt [.cell 4 46,.tmp 5] f
 refine dIo mixed ?_;have i1:(Ys a0 a1.Key).toNat<a0.length:=by have:=KC a0 a1.Key;exact il
 simp[i1,ZF];refine rpS ?_;refine cRs (Yb.rd (UA a1)) ?_;refine cRs (kz (nth a0 (Ys a0 a1.Key).toNat) (Js a1) (by simp(maxDischargeDepth:=12) [Vg,ZH (m:=2326528) zAE u0];try omega)) ?_;exact rt [.cell 4 46,.tmp 5] f
theorem Ra(a0:Zp):Sd 166 [a0.row] [(jO a0).row]:=by have f:=me (jO.eq_1 a0);refine soD func166 ntmps166 ?_;refine dIs mixed ?_;refine cDs [false] (UA a0) ?_;exact rtD [.cell 2 154] f
theorem Hc(a0:YO):Sd 167 [a0.row] [(U1 a0).row]:=by have f:=me (U1.eq_1 a0);refine soD func167 ntmps167 ?_;refine dIs mixed ?_;refine cDs [false] (OC a0) ?_;exact rtD [.cell 2 154] f
theorem Nd(a0:ZG)(a1:Int)(a2:ZW)(a3 a4:Int)(u0:Sm 2318336 a0)(u1:Sm 2318336 a2):So 97 [a0.row,rI a1,a2.row,rI a3,rI a4] [(Qr a0 a1 a2 a3 a4).1.row,rB (Qr a0 a1 a2 a3 a4).2]:=by
 have f:=me (Qr.eq_1 a0 a1 a2 a3 a4);refine so func97 ntmps97 ?_;refine cRs (jB a0.Frame.Methods a0.Frame.Now) ?_;refine cRs (GN a0 a1) ?_;refine cF f ?_ ?_<;>intro k1 h1 f
 ·exact rtO [.cell 10 52,.tmp 11] f
 refine dIo mixed ?_;have i1:(JM a0 a1).toNat<a0.Zf.length:=by have:=H8 a0 a1;exact il
 simp[i1,ZF];refine rpS ?_;refine cRs (V5 (Zq a0.Frame.Methods a0.Frame.Now) a2 (sg u1)) ?_;refine cRs (IX a0.Frame.Z0 (Zp.mk a1 (nth a0.Zf (JM a0 a1).toNat).Zc (Zq a0.Frame.Methods a0.Frame.Now) (Kr (Zq a0.Frame.Methods a0.Frame.Now) a2) 1 a3 0 0 0) (sg (Zb.Xd (ZG.Xk u0)))) ?_;refine dIs mixed ?_;refine cDs [true,false,false] (Nv a2 (sg u1)) ?_;refine cRf i1 (Yb.rd (Ra (yw a0.Frame.Z0 (Zp.mk a1 (nth a0.Zf (JM a0 a1).toNat).Zc (Zq a0.Frame.Methods a0.Frame.Now) (Kr (Zq a0.Frame.Methods a0.Frame.Now) a2) 1 a3 0 0 0)).1)) ?_;refine cRs (Yb.rd (Hc (nth a0.Zf (JM a0 a1).toNat))) ?_;refine eIs ?_;exact rtO [.cell 10 52,.tmp 11] f
theorem I7(a0 a1:List Int):Sa 298 [rL 1 iR a0,rL 1 iR a1] [rB (Rl a0 a1)]:=by
 have f:=me (Rl.eq_1 a0 a1);refine so func298 ntmps298 ?_;refine cF f ?_ ?_<;>intro k1 h1 f
 ·exact rt [.tmp 4] f
 refine lp1 (TH.eq_2 a0 a1) (fun J=>Yy 26 [eL 0 1 a0 iR,eL 1 1 a1 iR,eI 5 (J:Int)]) (fun n1 J=>a0.length<n1+J/\J<=a0.length) (a0.length+1) 0 (fun p1 J e1 j1=>?_);refine cF e1 ?_ ?_<;>intro k3 h2 e1
 ·have i1:=ix h2;have m2:=ml a0 (k3 0 _ rfl);have w1:=wr J;refine dIo mixed ?_;have i2:=ik J a1;simp[i1,ZF,i2];refine rpS ?_;refine cF e1 ?_ ?_<;>intro k5 h3 e1
  ·exact rt [.tmp 4] (ms f e1)
  exact ny1 w1 e1
 exact rt [.tmp 4] (ms f e1)
theorem Ty(a0 a1:ZU):Sa 279 [a0.row,a1.row] [rB (WB a0 a1)]:=by have f:=me (WB.eq_1 a0 a1);refine so func279 ntmps279 ?_;refine cGs (fun gg=>I7 a0.YM a1.YM) ?_;exact rt [.tmp 4] f
theorem Gg(a0:ZX)(a1:ZU):Sa 250 [a0.row,a1.row] [rI (RP a0 a1)]:=by
 have f:=me (RP.eq_1 a0 a1);refine so func250 ntmps250 ?_;refine lp1 (Tc.eq_2 a0 a1) (fun J=>Yy 21 [eX 2 (a0.row.map .d),eX 3 (a1.row.map .d),eI 5 (J:Int)]) (fun n1 J=>a0.ZM.length<n1+J/\J<=a0.ZM.length) (a0.ZM.length+1) 0 (fun p1 J e1 j1=>?_);refine cF e1 ?_ ?_<;>intro k2 h1 e1
 ·have i1:=ix h1;have m2:=ml a0.ZM (k2 8 _ rfl);have w1:=wr J;refine dIo mixed ?_;simp[i1,ZF];refine rpS ?_;refine cRs (Ty (nth a0.ZM J) a1) ?_;refine cF e1 ?_ ?_<;>intro k4 h2 e1
  ·exact rt [.tmp 4] (ms f e1)
  exact ny1 w1 e1
 exact rt [.tmp 4] (ms f e1)
theorem TM(a0:ZX):Sa 187 [a0.row] [rB (jE a0)]:=by
 have f:=me (jE.eq_1 a0);refine so func187 ntmps187 ?_;refine lp1 (jt.eq_2 a0) (fun J=>Yy 69 [eX 1 (a0.row.map .d),eI 3 (J:Int)]) (fun n1 J=>a0.ZM.length<n1+J/\J<=a0.ZM.length) (a0.ZM.length+1) 0 (fun p1 J e1 j1=>?_);refine cF e1 ?_ ?_<;>intro k2 h1 e1
 ·have i1:=ix h1;have m2:=ml a0.ZM (k2 7 _ rfl);have w1:=wr J;refine dIo mixed ?_;simp[i1,ZF];refine rpS ?_;refine cRs (Gg a0 (nth a0.ZM J)) ?_;refine cF e1 ?_ ?_<;>intro k4 h2 e1
  ·exact rt [.tmp 2] (ms f e1)
  exact ny1 w1 e1
 have f:=ms f e1;refine lp1 (jm.eq_2 a0) (fun nc=>Yy 69 [eX 1 (a0.row.map .d),eI 4 (nc:Int)]) (fun n2 nc=>a0.ZQ.length<n2+nc/\nc<=a0.ZQ.length) (a0.ZQ.length+1) 0 (fun p2 nc e2 j2=>?_);refine cF e2 ?_ ?_<;>intro k6 h3 e2
 ·have i2:=ix h3;have m4:=ml a0.ZQ (k6 23 _ rfl);have w2:=wr nc;refine dIo mixed ?_;simp[i2,ZF];refine rpS ?_;refine cRs (XC (nth a0.ZQ nc).Count 1 (a0.ZM.length:Int)) ?_;refine gIf ?_ ?_<;>intro G
  ·have i3:=ik (nc-1) a0.ZQ;have w3:IntKind.i64.wrap ((nc:Int)-1)=(nc:Int)-1:=YZ zAD zAD;simp[i3,ZF,w3,G];refine rpG ?_;refine gK (fun _=>?_);simp[i2,ZF,G];refine rpG ?_;refine cKo e2 ?_ ?_<;>intro k8 h4 e2
   ·have q4:=h4;try simp[Yd]at q4
    have f:=ms f e2;simp;refine rpG ?_;exact rtg [.tmp 2] f
   ·have q4:=h4;try simp[Yd]at q4
    simp;refine rpG ?_;exact ny1 (an w2 (an w3 G)) e2
  ·refine sGg ?_;refine cKo e2 ?_ ?_<;>intro k9 h5 e2
   ·have q5:=h5;try simp[Yd]at q5
    have f:=ms f e2;simp;refine rpG ?_;exact rtg [.tmp 2] f
   ·have q5:=h5;try simp[Yd]at q5
    simp;refine rpG ?_;exact ny1 (an w2 G) e2
 have f:=ms f e2;refine cRs (XC (a0.ZM.length:Int) 1 12) ?_;exact rt [.tmp 2] f
theorem LK(a0:ZR):Sa 240 [a0.row] [rB (Ov a0)]:=by
 have f:=me (Ov.eq_1 a0);refine so func240 ntmps240 ?_;refine dIs mixed ?_;refine cRs (XC a0.Id 1 999) ?_;refine cGs (fun gg=>WK a0.XI) ?_;refine cGs (fun gg=>WY a0.Doc) ?_;refine cGs (fun gg=>TM a0.ZK) ?_;refine gIf ?_ ?_<;>intro G
 ·have g1:=G;try simp[Yd]at g1
  have i1:0<a0.ZK.ZM.length:=by have:=GQ (a:=a0.ZK);simp_all
  simp[i1,ZF,G];refine rpG ?_;refine cGg (fun gg=>Yb.rd (Ra a0.Sig)) ?_;refine cGg (fun gg=>Ty (nth a0.ZK.ZM 0) (jO a0.Sig)) ?_;exact rtg [.tmp 2] f
 ·refine sGo ?_;simp;refine rpG ?_;refine sGo ?_;simp;refine rpG ?_;exact rtg [.tmp 2] f
theorem xq(a0:ZE):Sa 168 [a0.row] [rB (JP a0)]:=by
 have f:=me (JP.eq_1 a0);refine so func168 ntmps168 ?_;refine lp1 (TK.eq_2 a0) (fun J=>Yy 47 [eX 1 (a0.row.map .d),eI 3 (J:Int)]) (fun n1 J=>a0.ZC.length<n1+J/\J<=a0.ZC.length) (a0.ZC.length+1) 0 (fun p1 J e1 j1=>?_);refine cF e1 ?_ ?_<;>intro k2 h1 e1
 ·have i1:=ix h1;have m2:=ml a0.ZC (k2 6 _ rfl);have w1:=wr J;refine dIo mixed ?_;simp[i1,ZF];refine rpS ?_;refine cRs (LK (nth a0.ZC J)) ?_;refine gIf ?_ ?_<;>intro G
  ·have i2:=ik (J-1) a0.ZC;have w2:IntKind.i64.wrap ((J:Int)-1)=(J:Int)-1:=YZ zAD zAD;simp[i2,ZF,w2,G];refine rpG ?_;refine gK (fun _=>?_);simp[i1,ZF,G];refine rpG ?_;refine cK e1 ?_ ?_<;>intro k4 h2 e1
   ·exact rtg [.tmp 2] (ms f e1)
   ·exact ny1 (an w1 (an w2 G)) e1
  ·refine sGg ?_;refine cK e1 ?_ ?_<;>intro k5 h3 e1
   ·exact rtg [.tmp 2] (ms f e1)
   ·exact ny1 (an w1 G) e1
 have f:=ms f e1;refine cRs (XC a0.Id 0 99) ?_;exact rt [.tmp 2] f
theorem qk(a0:ZE)(a1:Int):Sa 169 [a0.row,rI a1] [rI (Y2 a0 a1)]:=by
 have f:=me (Y2.eq_1 a0 a1);refine so func169 ntmps169 ?_;refine lp1 (Wp.eq_2 a0 a1) (fun J=>Yy 22 [eI 1 a1,eX 2 (a0.row.map .d),eI 5 (J:Int)]) (fun n1 J=>a0.ZC.length<n1+J/\J<=a0.ZC.length) (a0.ZC.length+1) 0 (fun p1 J e1 j1=>?_);refine cFf e1 ?_ ?_<;>intro k2 h1 e1
 ·have i1:=ix h1;have m2:=ml a0.ZC (k2 8 _ rfl);have w1:=wr J;simp[i1,ZF];refine rpS ?_;refine cF e1 ?_ ?_<;>intro k3 h2 e1
  ·exact rt [.tmp 4] (ms f e1)
  exact ny1 w1 e1
 exact rt [.tmp 4] (ms f e1)
theorem SM(a0:ZE)(a1:ZR)(u0:Sm 2318336 a0)(u1:Sm 2318336 a1):Sd 98 [a0.row,a1.row] [(Q7 a0 a1).1.row,rB (Q7 a0 a1).2]:=by
 have f:=me (Q7.eq_1 a0 a1);refine soD func98 ntmps98 ?_;refine cRs (xq a0) ?_;refine cGs (fun gg=>qk a0 a1.Id) ?_;refine cF f ?_ ?_<;>intro k1 h1 f
 ·refine cDs [] (QV a0 (sg u0)) ?_;exact rtD [.cell 4 55,.tmp 5] f
 refine lp3 (zR.eq_2 a0 a1) (fun J U nb=>Yy 77 [eX 2 (a0.row.map .d),eX 3 (a1.row.map .d),(4,.one (.bptr 4 0),[.box [.d (.int .i64 0),.nil 16]]),(6,.one (.bptr 6 0),[.box [.d (.int .i64 a0.Id),.sref 6 2 0 nb.length],.none,.arr true 16 (nb.map ZR.row)]),eB 7 J,eI 8 (U:Int)]) (fun n1 J U nb=>a0.ZC.length<n1+U/\U<=a0.ZC.length/\nb.length<=0+2*U) (a0.ZC.length+1) false 0 ([]:List ZR) (fun p1 J U nb e1 j1=>?_) (h0:=wkS [((6,2),none)] []);refine cF e1 ?_ ?_<;>intro k3 h2 e1
 ·have i1:=ix h2;have m2:=ml a0.ZC (k3 26 _ rfl);have c1:=sl 2318336 a0.ZC (an u0 u1);have w1:=wr U;refine dIs mixed ?_;refine gIf ?_ ?_<;>intro G
  ·simp[i1,ZF,G];refine rpG ?_;refine cK e1 ?_ ?_<;>intro k5 h3 e1
   ·try(simp[G]at h3;done)
    all_goals
     refine drJ [49] mixed ?_;simp;refine cDg [true,true,true,false,false] (JD a1 (sg u1)) ?_;refine jg ?_;simp[G];refine rpG ?_;refine kX (ng:=nb.map ZR.row) (news:=([a1]:List ZR).map ZR.row) (l1:=[(6,2)]) (l2:=[(47,3),(47,4),(47,14),(47,15)]) (size:=16) ?_;simp[G];refine rpG ?_;refine drJ [60] mixed ?_;simp[i1,ZF,G];refine rpG ?_;refine cDg [true,true,true,false,false] (JD (nth a0.ZC U) (sg (Zn (ZE.YC u0)))) ?_;refine jg ?_;simp[G];refine rpG ?_;refine kX (ng:=(nb++([a1]:List ZR)).map ZR.row) (news:=([nth a0.ZC U]:List ZR).map ZR.row) (l1:=[(49,0)]) (l2:=[(58,3),(58,4),(58,14),(58,15)]) (size:=16) ?_;simp[G];refine rpG ?_;exact nx3 e1 (hw:=XN [((6,2),some (60,0))] [] rfl zB9)
   ·try(simp[G]at h3;done)
    all_goals
     refine drJ [60] mixed ?_;simp[i1,ZF,G];refine rpG ?_;refine cDg [true,true,true,false,false] (JD (nth a0.ZC U) (sg (Zn (ZE.YC u0)))) ?_;refine jg ?_;simp[G];refine rpG ?_;refine kX (ng:=nb.map ZR.row) (news:=([nth a0.ZC U]:List ZR).map ZR.row) (l1:=[(6,2)]) (l2:=[(58,3),(58,4),(58,14),(58,15)]) (size:=16) ?_;simp[G];refine rpG ?_;exact nx3 e1 (hw:=XN [((6,2),some (60,0))] [] rfl zB9)
  ·refine cK e1 ?_ ?_<;>intro k9 h4 e1
   ·try(simp[G]at h4;done)
    all_goals
     refine drJ [49] mixed ?_;simp;refine cDg [true,true,true,false,false] (JD a1 (sg u1)) ?_;refine jg ?_;simp[G];refine rpG ?_;refine kX (ng:=nb.map ZR.row) (news:=([a1]:List ZR).map ZR.row) (l1:=[(6,2)]) (l2:=[(47,3),(47,4),(47,14),(47,15)]) (size:=16) ?_;simp[G];refine rpG ?_;refine drJ [60] mixed ?_;simp[i1,ZF,G];refine rpG ?_;refine cDg [true,true,true,false,false] (JD (nth a0.ZC U) (sg (Zn (ZE.YC u0)))) ?_;refine jg ?_;simp[G];refine rpG ?_;refine kX (ng:=(nb++([a1]:List ZR)).map ZR.row) (news:=([nth a0.ZC U]:List ZR).map ZR.row) (l1:=[(49,0)]) (l2:=[(58,3),(58,4),(58,14),(58,15)]) (size:=16) ?_;simp[G];refine rpG ?_;exact nx3 e1 (hw:=XN [((6,2),some (60,0))] [] rfl zB9)
   ·try(simp[G]at h4;done)
    all_goals
     refine drJ [60] mixed ?_;simp[i1,ZF,G];refine rpG ?_;refine cDg [true,true,true,false,false] (JD (nth a0.ZC U) (sg (Zn (ZE.YC u0)))) ?_;refine jg ?_;simp[G];refine rpG ?_;refine kX (ng:=nb.map ZR.row) (news:=([nth a0.ZC U]:List ZR).map ZR.row) (l1:=[(6,2)]) (l2:=[(58,3),(58,4),(58,14),(58,15)]) (size:=16) ?_;simp[G];refine rpG ?_;exact nx3 e1 (hw:=XN [((6,2),some (60,0))] [] rfl zB9)
 have c2:=sl 2318336 a0.ZC (an u0 u1);have f:=ms f e1;refine cF f ?_ ?_<;>intro cf h5 f
 ·refine okD fun k14=>?_;refine drJ [69] mixed ?_;simp;refine cDs [true,true,true,false,false] (JD a1 (sg u1)) ?_;refine jg ?_;simp;refine kX (ng:=nb.map ZR.row) (news:=([a1]:List ZR).map ZR.row) (l1:=[(6,2)]) (l2:=[(67,3),(67,4),(67,14),(67,15)]) (size:=16) ?_;simp;refine cRs (xq (ZE.mk a0.Id (nb++([a1]:List ZR)))) ?_;refine cF f ?_ ?_<;>intro k15 h6 f
  ·refine cDs [] (QV a0 (sg u0)) ?_;exact rtD [.cell 4 55,.tmp 5] f
  exact rtD [.cell 4 55,.tmp 5] f
 refine cRs (xq (ZE.mk a0.Id nb)) ?_;refine cF f ?_ ?_<;>intro k16 h7 f
 ·refine cDs [] (QV a0 (sg u0)) ?_;exact rtD [.cell 4 55,.tmp 5] f
 exact rtD [.cell 4 55,.tmp 5] f
theorem Fv(a0:ZG)(a1 a2:Int)(a3:ZW)(a4 a5:Int)(u0:Sm 2314240 a0)(u1:Sm 2314240 a3):Sd 42 [a0.row,rI a1,rI a2,a3.row,rI a4,rI a5] [(x1 a0 a1 a2 a3 a4 a5).1.row,rB (x1 a0 a1 a2 a3 a4 a5).2]:=by
 have f:=me (x1.eq_1 a0 a1 a2 a3 a4 a5);refine soD func42 ntmps42 ?_;refine cDs [false,false,false,true,true,false,false,true,false,false,true,false] (Ql a0 (sg u0)) ?_;refine cRs (J9 a0.Frame.Z0 a2) ?_;refine dIs mixed ?_;refine cRs (jW a0 a1) ?_;refine gIf ?_ ?_<;>intro G
 ·have c1:=sl 2314240 a0.ZB (an u0 u1);have w1:IntKind.i64.wrap ((a0.ZB.length:Int)-1)=(a0.ZB.length:Int)-1:=YZ zAD zAD;have g1:=G;try simp[w1,JS,Yd]at g1
  have i1:(Ys a0.Frame.Z0 a2).toNat<a0.Frame.Z0.length:=by have:=KC a0.Frame.Z0 a2;exact il
  simp[i1,ZF,G];refine rpG ?_;refine cKo f ?_ ?_<;>intro k2 h1 f
  ·have q1:=h1;try simp[w1,JS,Yd]at q1
   simp[G];refine rpG ?_;exact z9 [.cell 12 33,.tmp 13] f
  ·have q1:=h1;try simp[w1,JS,Yd]at q1
   simp[G];refine rpG ?_;refine cRg (Nd a0 a2 a3 a4 a5 (sg u0) (sg u1)) ?_;refine cK f ?_ ?_<;>intro k3 h2 f
   ·exact z9 [.cell 12 33,.tmp 13] f
   ·refine dIo mixed ?_;have i2:=ik a1.toNat a0.ZB
    simp[i2,ZF,G];refine rpG ?_;refine cDg [] (SM (nth a0.ZB a1.toNat) (Qr a0 a2 a3 a4 a5).1 zAg zAg) ?_;refine cKt f ?_ ?_<;>intro k5 h3 f
    ·exact z9 [.cell 12 33,.tmp 13] f
    ·simp[i2,ZF,G];refine rpG ?_;refine N4 (t:=21) (j:=7) (i:=a1.toNat) (size:=2) (rows:=a0.ZB.map ZE.row) (ds:=(Q7 (nth a0.ZB a1.toNat) (Qr a0 a2 a3 a4 a5).1).1.row) (L:=[(68,1)]) ?_;simp[Kh (x:=(Q7 (nth a0.ZB a1.toNat) (Qr a0 a2 a3 a4 a5).1).1) rfl,c1,i2,ZF,XT,G];refine rpG ?_;exact z9 [.cell 12 33,.tmp 13] f
 ·have c2:=sl 2314240 a0.ZB (an u0 u1);have w2:IntKind.i64.wrap ((a0.ZB.length:Int)-1)=(a0.ZB.length:Int)-1:=YZ zAD zAD;refine cKo f ?_ ?_<;>intro k6 h4 f
  ·have q4:=h4;try simp[w2,JS,Yd]at q4
   simp[G];refine rpG ?_;exact z9 [.cell 12 33,.tmp 13] f
  ·simp[G]at h4
theorem R5(a0:ZG)(a1:Int):Sa 99 [a0.row,rI a1] [rI (ZJ a0 a1).1,rI (ZJ a0 a1).2]:=by
 have f:=me (ZJ.eq_1 a0 a1);refine so func99 ntmps99 ?_;refine lp1 (Vx.eq_2 a0 a1) (fun J=>Yy 26 [eI 1 a1,eX 2 (a0.row.map .d),eI 6 (J:Int)]) (fun n1 J=>a0.ZB.length<n1+J/\J<=a0.ZB.length) (a0.ZB.length+1) 0 (fun p1 J e1 j1=>?_);refine cFf e1 ?_ ?_<;>intro k2 h1 e1
 ·have i1:=ix h1;have m2:=ml a0.ZB (k2 10 _ rfl);have w1:=wr J;simp[i1,ZF];refine rpS ?_;refine cRs (qk (nth a0.ZB J) a1) ?_;refine cF e1 ?_ ?_<;>intro k3 h2 e1
  ·exact rt _ (ms f e1)
  exact ny1 w1 e1
 exact rt _ (ms f e1)
theorem M7(a0:ZU):Sa 170 [a0.row] [rI (JX a0)]:=by
 have f:=me (JX.eq_1 a0);refine so func170 ntmps170 ?_;refine gIf ?_ ?_<;>intro G
 ·have i1:=ik 0 a0.YM;simp[i1,ZF,G];refine rpG ?_;refine cGg (fun gg=>XC (nth a0.YM 0) 101 105) ?_;refine cKo f ?_ ?_<;>intro k1 h1 f
  ·have q1:=h1;try simp[Yd]at q1
   simp;refine rpG ?_;exact rtg [.tmp 2] f
  ·have q1:=h1;try simp[Yd]at q1
   simp;refine rpG ?_;refine dIo mixed ?_;have i2:=ik (W (nth a0.YM 0-101)).toNat ([7,5,5,9,6]:List Int)
   have r1:=ZF (f:=iR) i2;try simp at r1
   simp[i1,ZF,r1];refine rpG ?_;refine cKt f ?_ ?_<;>intro k3 h2 f
   ·exact rtg [.tmp 2] f
   ·simp[i1,ZF];refine rpG ?_;exact rtg [.tmp 2] f
 ·refine sGo ?_;simp;refine rpG ?_;refine cKo f ?_ ?_<;>intro k4 h3 f
  ·have q3:=h3;try simp[Yd]at q3
   simp;refine rpG ?_;exact rtg [.tmp 2] f
  ·simp[G]at h3
theorem RY(a0:ZU):Sa 100 [a0.row] [(Zl a0).1.row,rB (Zl a0).2]:=by
 have f:=me (Zl.eq_1 a0);refine so func100 ntmps100 ?_;refine dIs mixed ?_;refine cRs (M7 a0) ?_;refine gIf ?_ ?_<;>intro G
 ·have l3:=G;have g1:=G;try simp at g1
  have i1:6<a0.YM.length:=zAp;simp[i1,ZF,G];refine rpG ?_;refine cK f ?_ ?_<;>intro k2 h1 f
  ·try(simp[G]at h1;done)
   all_goals
    exact rtg [.cell 2 124,.tmp 3] f
  ·try(simp[G]at h1;done)
   all_goals
    refine dIo mixed ?_;have i2:1<a0.YM.length:=zAp
    have i3:2<a0.YM.length:=zAp;have i4:3<a0.YM.length:=zAp;have i5:4<a0.YM.length:=zAp;have i6:5<a0.YM.length:=zAp;simp[i2,ZF,i3,i4,i5,i6,i1,G];refine rpG ?_;exact rtg [.cell 2 124,.tmp 3] f
 ·have l3:=G;refine cK f ?_ ?_<;>intro k4 h2 f
  ·try(simp[G]at h2;done)
   all_goals
    exact rtg [.cell 2 124,.tmp 3] f
  ·try(simp[G]at h2;done)
   all_goals
    refine dIo mixed ?_;have i8:1<a0.YM.length:=zAp
    have i9:2<a0.YM.length:=zAp;have i10:3<a0.YM.length:=zAp;have i11:4<a0.YM.length:=zAp;have i12:5<a0.YM.length:=zAp;have i13:6<a0.YM.length:=zAp;simp[i8,ZF,i9,i10,i11,i12,i13,G];refine rpG ?_;exact rtg [.cell 2 124,.tmp 3] f
theorem P5(a0:List YO)(a1:Int):Sa 101 [rL 7 YO.row a0,rI a1] [rI (YE a0 a1)]:=by
 have f:=me (YE.eq_1 a0 a1);refine so func101 ntmps101 ?_;refine lp1 (Ww.eq_2 a0 a1) (fun J=>Yy 20 [eL 0 7 a0 YO.row,eI 1 a1,eI 5 (J:Int)]) (fun n1 J=>a0.length<n1+J/\J<=a0.length) (a0.length+1) 0 (fun p1 J e1 j1=>?_);refine cFf e1 ?_ ?_<;>intro k2 h1 e1
 ·have i1:=ix h1;have m2:=ml a0 (k2 0 _ rfl);have w1:=wr J;simp[i1,ZF];refine rpS ?_;refine cF e1 ?_ ?_<;>intro k3 h2 e1
  ·exact rt [.tmp 4] (ms f e1)
  exact ny1 w1 e1
 exact rt [.tmp 4] (ms f e1)
theorem FT(a0:Zs):Sa 171 [a0.row] [rB (OY a0)]:=by have f:=me (OY.eq_1 a0);refine so func171 ntmps171 ?_;refine cRs (XC a0.Zc 1 999) ?_;refine cGs (fun gg=>WK a0.xP) ?_;refine cGs (fun gg=>XC a0.Zy (-1) (W (a0.xP+1))) ?_;refine cGs (fun gg=>XC a0.YA 1 99) ?_;exact rt [.tmp 2] f
theorem S9(a0:Zs):Sd 173 [a0.row] [rL 1 iR (zm a0)]:=by have f:=me (zm.eq_1 a0);refine soD func173 ntmps173 ?_;exact rtD [.tmp 2] f
theorem Wi(a0:List Y6)(a1:Zs)(u0:Sm 2322432 a0):Sa 102 [rL 5 Y6.row a0,a1.row] [(Y4 a0 a1).1.row,rB (Y4 a0 a1).2]:=by
 have f:=me (Y4.eq_1 a0 a1);refine so func102 ntmps102 ?_;refine cRs (J9 a0 a1.YA) ?_;refine cRs (FT a1) ?_;refine cF f ?_ ?_<;>intro k1 h1 f
 ·exact rt [.cell 4 127,.tmp 5] f
 refine dIo mixed ?_;have i1:(Ys a0 a1.YA).toNat<a0.length:=by have:=KC a0 a1.YA;exact il
 simp[i1,ZF];refine rpS ?_;refine cRs (Yb.rd (S9 a1)) ?_;refine cRs (kz (nth a0 (Ys a0 a1.YA).toNat) (zm a1) (by simp(maxDischargeDepth:=12) [RA,ZH (m:=2326528) zAE u0];try omega)) ?_;exact rt [.cell 4 127,.tmp 5] f
theorem ke(a0:Zs):Sd 104 [a0.row] [(XQ a0).row]:=by have f:=me (XQ.eq_1 a0);refine soD func104 ntmps104 ?_;refine dIs mixed ?_;refine cDs [false] (S9 a0) ?_;exact rtD [.cell 2 154] f
theorem FN(a0:ZX)(a1:ZU)(u0:Sm 2326528 a0)(u1:Sm 2326528 a1):Sd 174 [a0.row,a1.row] [(yu a0 a1).1.row,rB (yu a0 a1).2]:=by
 have f:=me (yu.eq_1 a0 a1);refine soD func174 ntmps174 ?_;refine cDs [] (xI a0 (sg u0)) ?_;refine drJ [14] mixed ?_;simp;refine cDs [true,false] (OF a1 (sg u1)) ?_;refine jg ?_;have c1:=sl 2326528 a0.ZM (an u0 u1);simp;refine kX (ng:=a0.ZM.map ZU.row) (news:=([a1]:List ZU).map ZU.row) (l1:=[(8,0)]) (l2:=[(12,1)]) (size:=3) ?_;simp;refine cRs (TM (ZX.mk (a0.ZM++([a1]:List ZU)) a0.ZQ)) ?_;refine cF f ?_ ?_<;>intro k2 h1 f
 ·refine cDs [] (xI a0 (sg u0)) ?_;exact rtD [.cell 4 50,.tmp 5] f
 exact rtD [.cell 4 50,.tmp 5] f
theorem Vp(a0:ZE)(a1:Int)(a2:ZU)(u0:Sm 2322432 a0)(u1:Sm 2322432 a2):Sd 103 [a0.row,rI a1,a2.row] [(X9 a0 a1 a2).1.row,rB (X9 a0 a1 a2).2]:=by
 have f:=me (X9.eq_1 a0 a1 a2);refine soD func103 ntmps103 ?_;refine cDs [] (QV a0 (sg u0)) ?_;refine cRs (qk a0 a1) ?_;refine cF f ?_ ?_<;>intro k1 h1 f
 ·exact rtD [.cell 6 55,.tmp 7] f
 refine dIo mixed ?_;have i1:(Y2 a0 a1).toNat<a0.ZC.length:=by have:=TP a0 a1;exact il
 simp[i1,ZF];refine rpS ?_;refine cDf i1 [] (FN (nth a0.ZC (Y2 a0 a1).toNat).ZK a2 (sg (ZR.Yv (Zn (ZE.YC u0)))) (sg u1)) ?_;refine sN (t:=13) (j:=1) (i:=(Y2 a0 a1).toNat) (c:=14) (size:=16) (rows:=a0.ZC.map ZR.row) (ds:=(yu (nth a0.ZC (Y2 a0 a1).toNat).ZK a2).1.row) (L:=[(28,0),(28,1)]) rfl rfl rfl rfl zAG zAG (by simp;try omega) zAG zAG zAG zAG zAG zAG ?_;simp[Kh (x:=ZR.mk (nth a0.ZC (Y2 a0 a1).toNat).Id (nth a0.ZC (Y2 a0 a1).toNat).XI (nth a0.ZC (Y2 a0 a1).toNat).Doc (nth a0.ZC (Y2 a0 a1).toNat).Sig (yu (nth a0.ZC (Y2 a0 a1).toNat).ZK a2).1) rfl,i1,ZF,XT];refine rpS ?_;exact rtD [.cell 6 55,.tmp 7] f
theorem Z2(h:b)(k:a:=by(intros;first|omega|with_unfolding_all (first|first|omega|(have fi:=XY a0 a1 zAZ;omega)|(simp only[Bool.or_eq_false_iff,decide_eq_false_iff_not]at*;omega)|(have z:=Zi G;(try simp only[]at z);omega)|(have z:=Zi G.1;(try simp only[]at z);omega)|(have z:=Zi G.2;(try simp only[]at z);omega)|(have z:=Zi G.2.1;(try simp only[]at z);omega)|(have z:=Zi G.2.2;(try simp only[]at z);omega)|(have z:=Zi G.1.2;(try simp only[]at z);omega)|(have z:=Zi G.2.2.2;(try simp only[]at z);omega))|(simp_all;done)|(simp_all;omega)|grind|((try simp only[Yw,show ∀x,IntKind.i64.wrap x=W x from fun _=>rfl]at*);omega))):a/\b:=⟨k,h⟩
theorem L1(a0:ZG)(a1:Int)(u0:Sm 2318336 a0):Sd 43 [a0.row,rI a1] [(zY a0 a1).1.row,rB (zY a0 a1).2]:=by
 have f:=me (zY.eq_1 a0 a1);refine soD func43 ntmps43 ?_;refine cDs [false,false,false,true,true,false,false,true,false,false,true,false] (Ql a0 (sg u0)) ?_;refine cRs (R5 a0 a1) ?_;refine gIo ?_ ?_<;>intro G
 ·have l3:=G;have g1:=G;try simp at g1
  have i1:(ZJ a0 a1).1.toNat<a0.ZB.length:=zAK;simp[i1,ZF,G];refine zCI ?_;refine gK (fun _=>?_);have i2:(ZJ a0 a1).2.toNat<(nth a0.ZB (ZJ a0 a1).1.toNat).ZC.length:=zAK;simp[i2,ZF,G];refine zCI ?_;refine cKo f ?_ ?_<;>intro k1 h1 f
  ·simp[G];refine zCI ?_;exact z9 [.cell 4 33,.tmp 5] f
  ·have i3:1<(nth (nth a0.ZB (ZJ a0 a1).1.toNat).ZC (ZJ a0 a1).2.toNat).ZK.ZM.length:=zAK;simp[i1,ZF,i2,i3,G];refine zCI ?_;refine cR (RY (nth (nth (nth a0.ZB (ZJ a0 a1).1.toNat).ZC (ZJ a0 a1).2.toNat).ZK.ZM 1)) ?_;simp[G];refine zCI ?_;refine cR (P5 a0.Zf (Zl (nth (nth (nth a0.ZB (ZJ a0 a1).1.toNat).ZC (ZJ a0 a1).2.toNat).ZK.ZM 1)).1.Zc) ?_;simp[G];refine zCI ?_;refine cKo f ?_ ?_<;>intro k2 h2 f
   ·simp[G];refine zCI ?_;exact z9 [.cell 4 33,.tmp 5] f
   ·simp[G];refine zCI ?_;refine dIo mixed ?_;have i4:(YE a0.Zf (Zl (nth (nth (nth a0.ZB (ZJ a0 a1).1.toNat).ZC (ZJ a0 a1).2.toNat).ZK.ZM 1)).1.Zc).toNat<a0.Zf.length:=zAP
    simp[i4,ZF,G];refine zCI ?_;refine cR (J9 a0.Frame.Z0 (nth a0.Zf (YE a0.Zf (Zl (nth (nth (nth a0.ZB (ZJ a0 a1).1.toNat).ZC (ZJ a0 a1).2.toNat).ZK.ZM 1)).1.Zc).toNat).YA) ?_;simp[G];refine zCI ?_;refine dIo mixed ?_;simp[i4,ZF,G];refine zCI ?_;refine dIo mixed ?_;have i5:(YE a0.Zf (Zl (nth (nth (nth a0.ZB (ZJ a0 a1).1.toNat).ZC (ZJ a0 a1).2.toNat).ZK.ZM 1)).1.Zc).toNat<a0.Zy.length:=zAP
    simp[i5,ZF,G];refine zCI ?_;refine cKo f ?_ ?_<;>intro k6 h3 f
    ·simp[i5,ZF,G];refine zCI ?_;refine cR (Wi a0.Frame.Z0 (Zs.mk (Zl (nth (nth (nth a0.ZB (ZJ a0 a1).1.toNat).ZC (ZJ a0 a1).2.toNat).ZK.ZM 1)).1.Zc a0.Frame.Now (nth a0.Zy (YE a0.Zf (Zl (nth (nth (nth a0.ZB (ZJ a0 a1).1.toNat).ZC (ZJ a0 a1).2.toNat).ZK.ZM 1)).1.Zc).toNat) (nth a0.Zf (YE a0.Zf (Zl (nth (nth (nth a0.ZB (ZJ a0 a1).1.toNat).ZC (ZJ a0 a1).2.toNat).ZK.ZM 1)).1.Zc).toNat).YA 0) (sg (Zb.Xd (ZG.Xk u0)))) ?_;simp[G];refine zCI ?_;refine dIo mixed ?_;simp[G];refine zCI ?_;refine gJo G ?_ ?_<;>intro G
     ·have g2x:=G.2;try(simp at G;done)
      all_goals
       have g2:=G.2;try simp at g2
       all_goals
        have i6:(Ys a0.Frame.Z0 (nth a0.Zf (YE a0.Zf (Zl (nth (nth (nth a0.ZB (ZJ a0 a1).1.toNat).ZC (ZJ a0 a1).2.toNat).ZK.ZM 1)).1.Zc).toNat).YA).toNat<a0.Frame.Z0.length:=zAL;simp[i6,ZF,G];refine zCI ?_;refine cKo f ?_ ?_<;>intro k8 h4 f
        ·simp[G];refine zCI ?_;exact z9 [.cell 4 33,.tmp 5] f
        ·simp[G];refine zCI ?_;refine dIo mixed ?_;simp[i1,ZF,G];refine zCI ?_;refine cR (Yb.rd (ke (Y4 a0.Frame.Z0 (Zs.mk (Zl (nth (nth (nth a0.ZB (ZJ a0 a1).1.toNat).ZC (ZJ a0 a1).2.toNat).ZK.ZM 1)).1.Zc a0.Frame.Now (nth a0.Zy (YE a0.Zf (Zl (nth (nth (nth a0.ZB (ZJ a0 a1).1.toNat).ZC (ZJ a0 a1).2.toNat).ZK.ZM 1)).1.Zc).toNat) (nth a0.Zf (YE a0.Zf (Zl (nth (nth (nth a0.ZB (ZJ a0 a1).1.toNat).ZC (ZJ a0 a1).2.toNat).ZK.ZM 1)).1.Zc).toNat).YA 0)).1)) ?_;simp[G];refine zCI ?_;refine cD [] (Vp (nth a0.ZB (ZJ a0 a1).1.toNat) a1 (XQ (Y4 a0.Frame.Z0 (Zs.mk (Zl (nth (nth (nth a0.ZB (ZJ a0 a1).1.toNat).ZC (ZJ a0 a1).2.toNat).ZK.ZM 1)).1.Zc a0.Frame.Now (nth a0.Zy (YE a0.Zf (Zl (nth (nth (nth a0.ZB (ZJ a0 a1).1.toNat).ZC (ZJ a0 a1).2.toNat).ZK.ZM 1)).1.Zc).toNat) (nth a0.Zf (YE a0.Zf (Zl (nth (nth (nth a0.ZB (ZJ a0 a1).1.toNat).ZC (ZJ a0 a1).2.toNat).ZK.ZM 1)).1.Zc).toNat).YA 0)).1) (sg (Zn (ZG.Z5 u0))) zBC) ?_;simp[i1,ZF,G];refine zCI ?_;refine N4 (t:=18) (j:=7) (i:=(ZJ a0 a1).1.toNat) (size:=2) (rows:=a0.ZB.map ZE.row) (ds:=(X9 (nth a0.ZB (ZJ a0 a1).1.toNat) a1 (XQ (Y4 a0.Frame.Z0 (Zs.mk (Zl (nth (nth (nth a0.ZB (ZJ a0 a1).1.toNat).ZC (ZJ a0 a1).2.toNat).ZK.ZM 1)).1.Zc a0.Frame.Now (nth a0.Zy (YE a0.Zf (Zl (nth (nth (nth a0.ZB (ZJ a0 a1).1.toNat).ZC (ZJ a0 a1).2.toNat).ZK.ZM 1)).1.Zc).toNat) (nth a0.Zf (YE a0.Zf (Zl (nth (nth (nth a0.ZB (ZJ a0 a1).1.toNat).ZC (ZJ a0 a1).2.toNat).ZK.ZM 1)).1.Zc).toNat).YA 0)).1)).1.row) (L:=[(150,1)]) ?_;simp[Kh (x:=(X9 (nth a0.ZB (ZJ a0 a1).1.toNat) a1 (XQ (Y4 a0.Frame.Z0 (Zs.mk (Zl (nth (nth (nth a0.ZB (ZJ a0 a1).1.toNat).ZC (ZJ a0 a1).2.toNat).ZK.ZM 1)).1.Zc a0.Frame.Now (nth a0.Zy (YE a0.Zf (Zl (nth (nth (nth a0.ZB (ZJ a0 a1).1.toNat).ZC (ZJ a0 a1).2.toNat).ZK.ZM 1)).1.Zc).toNat) (nth a0.Zf (YE a0.Zf (Zl (nth (nth (nth a0.ZB (ZJ a0 a1).1.toNat).ZC (ZJ a0 a1).2.toNat).ZK.ZM 1)).1.Zc).toNat).YA 0)).1)).1) rfl,i1,ZF,XT,G];refine zCI ?_;exact z9 [.cell 4 33,.tmp 5] f
     ·have g2x:=G.2;try(simp at G;done)
      all_goals
       simp[G];refine zCI ?_;refine cKo f ?_ ?_<;>intro cS h5 f
       ·simp[G];refine zCI ?_;exact z9 [.cell 4 33,.tmp 5] f
       ·simp[G]at h5
    ·simp[G];refine zCI ?_;refine cR (Wi a0.Frame.Z0 (Zs.mk (Zl (nth (nth (nth a0.ZB (ZJ a0 a1).1.toNat).ZC (ZJ a0 a1).2.toNat).ZK.ZM 1)).1.Zc a0.Frame.Now (-1) (nth a0.Zf (YE a0.Zf (Zl (nth (nth (nth a0.ZB (ZJ a0 a1).1.toNat).ZC (ZJ a0 a1).2.toNat).ZK.ZM 1)).1.Zc).toNat).YA 0) (sg (Zb.Xd (ZG.Xk u0)))) ?_;simp[G];refine zCI ?_;refine dIo mixed ?_;simp[G];refine zCI ?_;refine gJo G ?_ ?_<;>intro G
     ·have g3x:=G.2;try(simp at G;done)
      all_goals
       have g3:=G.2;try simp at g3
       all_goals
        have i8:(Ys a0.Frame.Z0 (nth a0.Zf (YE a0.Zf (Zl (nth (nth (nth a0.ZB (ZJ a0 a1).1.toNat).ZC (ZJ a0 a1).2.toNat).ZK.ZM 1)).1.Zc).toNat).YA).toNat<a0.Frame.Z0.length:=zAL;simp[i8,ZF,G];refine zCI ?_;refine cKo f ?_ ?_<;>intro cf h6 f
        ·simp[G];refine zCI ?_;exact z9 [.cell 4 33,.tmp 5] f
        ·simp[G];refine zCI ?_;refine dIo mixed ?_;simp[i1,ZF,G];refine zCI ?_;refine cR (Yb.rd (ke (Y4 a0.Frame.Z0 (Zs.mk (Zl (nth (nth (nth a0.ZB (ZJ a0 a1).1.toNat).ZC (ZJ a0 a1).2.toNat).ZK.ZM 1)).1.Zc a0.Frame.Now (-1) (nth a0.Zf (YE a0.Zf (Zl (nth (nth (nth a0.ZB (ZJ a0 a1).1.toNat).ZC (ZJ a0 a1).2.toNat).ZK.ZM 1)).1.Zc).toNat).YA 0)).1)) ?_;simp[G];refine zCI ?_;refine cD [] (Vp (nth a0.ZB (ZJ a0 a1).1.toNat) a1 (XQ (Y4 a0.Frame.Z0 (Zs.mk (Zl (nth (nth (nth a0.ZB (ZJ a0 a1).1.toNat).ZC (ZJ a0 a1).2.toNat).ZK.ZM 1)).1.Zc a0.Frame.Now (-1) (nth a0.Zf (YE a0.Zf (Zl (nth (nth (nth a0.ZB (ZJ a0 a1).1.toNat).ZC (ZJ a0 a1).2.toNat).ZK.ZM 1)).1.Zc).toNat).YA 0)).1) (sg (Zn (ZG.Z5 u0))) zBC) ?_;simp[i1,ZF,G];refine zCI ?_;refine N4 (t:=18) (j:=7) (i:=(ZJ a0 a1).1.toNat) (size:=2) (rows:=a0.ZB.map ZE.row) (ds:=(X9 (nth a0.ZB (ZJ a0 a1).1.toNat) a1 (XQ (Y4 a0.Frame.Z0 (Zs.mk (Zl (nth (nth (nth a0.ZB (ZJ a0 a1).1.toNat).ZC (ZJ a0 a1).2.toNat).ZK.ZM 1)).1.Zc a0.Frame.Now (-1) (nth a0.Zf (YE a0.Zf (Zl (nth (nth (nth a0.ZB (ZJ a0 a1).1.toNat).ZC (ZJ a0 a1).2.toNat).ZK.ZM 1)).1.Zc).toNat).YA 0)).1)).1.row) (L:=[(150,1)]) ?_;simp[Kh (x:=(X9 (nth a0.ZB (ZJ a0 a1).1.toNat) a1 (XQ (Y4 a0.Frame.Z0 (Zs.mk (Zl (nth (nth (nth a0.ZB (ZJ a0 a1).1.toNat).ZC (ZJ a0 a1).2.toNat).ZK.ZM 1)).1.Zc a0.Frame.Now (-1) (nth a0.Zf (YE a0.Zf (Zl (nth (nth (nth a0.ZB (ZJ a0 a1).1.toNat).ZC (ZJ a0 a1).2.toNat).ZK.ZM 1)).1.Zc).toNat).YA 0)).1)).1) rfl,i1,ZF,XT,G];refine zCI ?_;exact z9 [.cell 4 33,.tmp 5] f
     ·have g3x:=G.2;try(simp at G;done)
      all_goals
       simp[G];refine zCI ?_;refine cKo f ?_ ?_<;>intro k15 h7 f
       ·simp[G];refine zCI ?_;exact z9 [.cell 4 33,.tmp 5] f
       ·simp[G]at h7
 ·have l3:=G;simp[G];refine zCI ?_;refine sGo ?_;simp[G];refine zCI ?_;refine cKo f ?_ ?_<;>intro k17 h8 f
  ·simp[G];refine zCI ?_;exact z9 [.cell 4 33,.tmp 5] f
  ·simp[G]at h8
theorem Ip(a0:ZG)(a1:Int)(u0:Sm 2318336 a0):Sd 44 [a0.row,rI a1] [(ze a0 a1).1.row,rB (ze a0 a1).2]:=by
 have f:=me (ze.eq_1 a0 a1);refine soD func44 ntmps44 ?_;refine cDs [false,false,false,true,true,false,false,true,false,false,true,false] (Ql a0 (sg u0)) ?_;refine cRs (XC a1 0 (W ((a0.Zy.length:Int)-1))) ?_;refine gIf ?_ ?_<;>intro G
 ·have c1:=sl 2318336 a0.Zy u0;have w1:IntKind.i64.wrap ((a0.Zy.length:Int)-1)=(a0.Zy.length:Int)-1:=YZ zAD zAD;have g1:=G;try simp[Yd,w1]at g1
  have i1:=ik a1.toNat a0.Zy;simp[i1,ZF,G];refine rpG ?_;refine cKo f ?_ ?_<;>intro k1 h1 f
  ·have q1:=h1;try simp[Yd,w1]at q1
   simp;refine rpG ?_;exact z9 _ f
  ·have q1:=h1;try simp[Yd,w1]at q1
   simp[i1,ZF];refine rpG ?_;refine Ir (rv:=[.cell 4 33,.tmp 5]) rfl ?_;simp[f.h];all_goals(repeat' (first|exact GU zAG zAG|refine And.intro ?_ ?_))
 ·have c2:=sl 2318336 a0.Zy u0;refine cKo f ?_ ?_<;>intro k2 h2 f
  ·have q2:=h2;try simp[Yd,w2]at q2
   simp;refine rpG ?_;exact z9 _ f
  ·simp[G]at h2
theorem yl(a0:List Zo)(a1:Int):Sa 108 [rL 3 Zo.row a0,rI a1] [rI (Zu a0 a1)]:=by
 have f:=me (Zu.eq_1 a0 a1);refine so func108 ntmps108 ?_;refine lp1 (xX.eq_2 a0 a1) (fun J=>Yy 20 [eL 0 3 a0 Zo.row,eI 1 a1,eI 5 (J:Int)]) (fun n1 J=>a0.length<n1+J/\J<=a0.length) (a0.length+1) 0 (fun p1 J e1 j1=>?_);refine cFf e1 ?_ ?_<;>intro k2 h1 e1
 ·have i1:=ix h1;have m2:=ml a0 (k2 0 _ rfl);have w1:=wr J;simp[i1,ZF];refine rpS ?_;refine cF e1 ?_ ?_<;>intro k3 h2 e1
  ·exact rt [.tmp 4] (ms f e1)
  exact ny1 w1 e1
 exact rt [.tmp 4] (ms f e1)
theorem Cu(a0:ZG)(a1:List Int):Sa 106 [a0.row,rL 1 iR a1] [rB (Ru a0 a1)]:=by
 have f:=me (Ru.eq_1 a0 a1);refine so func106 ntmps106 ?_;refine lp1 (VO.eq_2 a0 a1) (fun J=>Yy 76 [eL 1 1 a1 iR,eX 2 (a0.row.map .d),eI 5 (J:Int)]) (fun n1 J=>a1.length<n1+J/\J<=a1.length) (a1.length+1) 0 (fun p1 J e1 j1=>?_);refine cF e1 ?_ ?_<;>intro k2 h1 e1
 ·have i1:=ix h1;have m2:=ml a1 (k2 1 _ rfl);have w1:=wr J;refine dIo mixed ?_;simp[i1,ZF];refine rpS ?_;refine cRs (yl a0.Frame.ZD (nth a1 J)) ?_;refine dIs mixed ?_;refine gIf ?_ ?_<;>intro G
  ·have i2:=ik (J-1) a1;have w2:IntKind.i64.wrap ((J:Int)-1)=(J:Int)-1:=YZ zAD zAD;simp[i2,ZF,w2,OZ,G];refine rpG ?_;refine gK (fun _=>?_);simp[i1,ZF,G];refine rpG ?_;refine cK e1 ?_ ?_<;>intro k5 h2 e1
   ·exact rtg [.tmp 4] (ms f e1)
   ·refine dIo mixed ?_;have i3:(Zu a0.Frame.ZD (nth a1 J)).toNat<a0.Frame.ZD.length:=by have:=JH a0.Frame.ZD (nth a1 J);exact il
    simp[i3,ZF,G];refine rpG ?_;refine cRg (J9 a0.Frame.Z0 (nth a0.Frame.ZD (Zu a0.Frame.ZD (nth a1 J)).toNat).Key) ?_;refine dIg mixed ?_;refine gJf G ?_ ?_<;>intro G
    ·try(simp at G;done)
     all_goals
      have i4:(Ys a0.Frame.Z0 (nth a0.Frame.ZD (Zu a0.Frame.ZD (nth a1 J)).toNat).Key).toNat<a0.Frame.Z0.length:=zBT;simp[i4,ZF,G];refine rpG ?_;refine cK e1 ?_ ?_<;>intro k8 h3 e1
      ·exact rtg [.tmp 4] (ms f e1)
      ·exact ny1 (an w1 (an w2 G)) e1
    ·try(simp at G;done)
     all_goals
      refine cK e1 ?_ ?_<;>intro k9 h4 e1
      ·exact rtg [.tmp 4] (ms f e1)
      ·simp[G]at h4
  ·refine sGg ?_;refine cK e1 ?_ ?_<;>intro cS h5 e1
   ·exact rtg [.tmp 4] (ms f e1)
   ·refine dIo mixed ?_;have i7:(Zu a0.Frame.ZD (nth a1 J)).toNat<a0.Frame.ZD.length:=by have:=JH a0.Frame.ZD (nth a1 J);exact il
    simp[i7,ZF,G];refine rpG ?_;refine cRg (J9 a0.Frame.Z0 (nth a0.Frame.ZD (Zu a0.Frame.ZD (nth a1 J)).toNat).Key) ?_;refine dIg mixed ?_;refine gJf G ?_ ?_<;>intro G
    ·try(simp at G;done)
     all_goals
      have i8:(Ys a0.Frame.Z0 (nth a0.Frame.ZD (Zu a0.Frame.ZD (nth a1 J)).toNat).Key).toNat<a0.Frame.Z0.length:=zBT;simp[i8,ZF,G];refine rpG ?_;refine cK e1 ?_ ?_<;>intro cf h6 e1
      ·exact rtg [.tmp 4] (ms f e1)
      ·exact ny1 (an w1 G) e1
    ·try(simp at G;done)
     all_goals
      refine cK e1 ?_ ?_<;>intro k14 h7 e1
      ·exact rtg [.tmp 4] (ms f e1)
      ·simp[G]at h7
 exact rt [.tmp 4] (ms f e1)
theorem IY(a0:ZX)(a1:ZW)(u0:Sm 2318336 a0)(u1:Sm 2318336 a1):Sd 185 [a0.row,a1.row] [rL 1 iR (qO a0 a1)]:=by
 have f:=me (qO.eq_1 a0 a1);refine soD func185 ntmps185 ?_;refine lp2 (xr.eq_2 a0 a1) (fun J U=>Yy 27 [eX 2 (a0.row.map .d),eX 3 (a1.row.map .d),(5,.one (.sref 5 0 0 J.length),[.arr false 1 (J.map iR)]),eI 6 (U:Int)]) (fun n1 J U=>a0.ZQ.length<n1+U/\U<=a0.ZQ.length/\J.length<=0+1*U) (a0.ZQ.length+1) ([]:List Int) 0 (fun p1 J U e1 j1=>?_) (h0:=wkS [((5,0),some (7,0))] []);refine cF e1 ?_ ?_<;>intro k2 h1 e1
 ·have i1:=ix h1;have m2:=ml a0.ZQ (k2 10 _ rfl);have c1:=sl 2318336 a0.ZQ (an u0 u1);have w1:=wr U;refine dIo mixed ?_;simp[i1,ZF];refine rpS ?_;refine cRs (V5 (nth a0.ZQ U).Method a1 (sg u1)) ?_;exact nx2 e1 (hw:=XN [((5,0),some (25,0))] [] rfl zAe)
 exact rtD [.tmp 4] (ms f e1)
theorem RT(a0:Zm):Sd 177 [a0.row] [rL 1 iR (yf a0)]:=by have f:=me (yf.eq_1 a0);refine soD func177 ntmps177 ?_;exact rtD [.tmp 2] f
theorem Vz(a0:Int)(a1:Ze)(u0:Sm 2326528 a1):Sa 248 [rI a0,a1.row] [rI (y9 a0 a1)]:=by
 have f:=me (y9.eq_1 a0 a1);refine so func248 ntmps248 ?_;refine lp2 (xU.eq_2 a1) (fun J U=>Yy 75 [eI 0 a0,eX 3 (a1.row.map .d),(5,.one (.sref 5 0 0 J.length),[.arr false 1 (J.map iR)]),eI 6 (U:Int)]) (fun n1 J U=>a1.Path.length<n1+U/\U<=a1.Path.length/\J.length<=4+2*U) (a1.Path.length+1) ([4,a1.Count,a1.Method,a1.BX]:List Int) 0 (fun p1 J U e1 j1=>?_) (h0:=wkS [((5,0),some (14,0))] []);refine cFo e1 ?_ ?_<;>intro k2 h1 e1
 ·have q1:=h1;try simp at q1
  have i1:=ix h1;have m2:=ml a1.Path (k2 17 _ rfl);have c1:=sl 2326528 a1.Path u0;have w1:=wr U;simp[i1,ZF];refine rpS ?_;refine cFo e1 ?_ ?_<;>intro k3 h2 e1
  ·have q2:=h2;try simp at q2
   simp;refine rpS ?_;exact nx2 e1 (hw:=XN [((5,0),some (39,0))] [] rfl zAe)
  have q2:=h2;try simp at q2
  simp;refine rpS ?_;exact nx2 e1 (hw:=XN [((5,0),some (42,0))] [] rfl zAe)
 have q1:=h1;try simp at q1
 have c2:=sl 2326528 a1.Path u0;have f:=ms f e1;simp;refine rpS ?_;refine lp2 (kN.eq_2 a1) (fun nc nh=>Yy 75 [eI 0 a0,eX 3 (a1.row.map .d),(5,.one (.sref 5 0 0 nc.length),[.arr false 1 (nc.map iR)]),eI 7 (nh:Int)]) (fun n2 nc nh=>a1.YV.length<n2+nh/\nh<=a1.YV.length/\nc.length<=5+2*2326528+6*nh) (a1.YV.length+1) (J++([(a1.YV.length:Int)]:List Int)) 0 (fun p2 nc nh e2 j2=>?_) (hI:=by(have o:a1.Path.length<=2326528:=YX (xs u0);simp at*;omega)) (h0:=wkS [((5,0),some (48,0))] []);refine cFo e2 ?_ ?_<;>intro k5 h3 e2
 ·have q3:=h3;try simp at q3
  have i2:=ix h3;have m4:=ml a1.YV (k5 51 _ rfl);have c3:=sl 2326528 a1.YV u0;have w2:=wr nh;simp;refine dIo mixed ?_;simp[i2,ZF];refine rpS ?_;refine cRf i2 (Yb.rd (RT (nth a1.YV nh))) ?_;exact nx2 e2 (hI:=by(simp;omega)) (hw:=XN [((5,0),some (71,0))] [] rfl (by simp[w2]))
 have q3:=h3;try simp at q3
 have c4:=sl 2326528 a1.YV u0;have f:=ms f e2;simp;refine cRs (Ku a0 nc zAM) ?_;exact rt [.tmp 4] f
theorem Uc(a0:Int)(a1:List ZU)(u0:Sm 2326528 a1):Sa 282 [rI a0,rL 3 ZU.row a1] [rI (yF a0 a1)]:=by
 have f:=me (yF.eq_1 a0 a1);refine so func282 ntmps282 ?_;refine lp2 (kT.eq_2 a0 a1) (fun J U=>Yy 39 [eI 0 a0,eL 1 3 a1 ZU.row,(5,.one (.sref 5 0 0 J.length),[.arr false 1 (J.map iR)]),eI 6 (U:Int)]) (fun n1 J U=>a1.length<n1+U/\U<=a1.length/\J.length<=1+1*U) (a1.length+1) ([2]:List Int) 0 (fun p1 J U e1 j1=>?_) (h0:=wkS [((5,0),some (7,0))] []);refine cF e1 ?_ ?_<;>intro k2 h1 e1
 ·have i1:=ix h1;have m2:=ml a1 (k2 1 _ rfl);have c1:=sl 2326528 a1 u0;have w1:=wr U;refine HV [2,3,4,5,6,7,8,9,10,11,12,13,14,15,16,17,18,0,1,19,20,21,22] mixed zAV zAV zAV ?_;have c2:=sl 2326528 (nth a1 U).YM u0;simp[i1,ZF];refine rpS ?_;refine cRs (Ku a0 (([(nth a1 U).Key,(nth a1 U).Mark]:List Int)++(nth a1 U).YM) zAk) ?_;exact nx2 e1 (hw:=XN [((5,0),some (35,0))] [] rfl zAe)
 have c3:=sl 2326528 a1 u0;have f:=ms f e1;refine cRs (Ku a0 J zAM) ?_;exact rt [.tmp 4] f
theorem LL(a0 a1:Int)(a2:List ZU)(a3:Int)(u0:Sm 2322432 a2):Sa 249 [rI a0,rI a1,rL 3 ZU.row a2,rI a3] [rI (Nh a0 a1 a2 a3)]:=by have f:=me (Nh.eq_1 a0 a1 a2 a3);refine so func249 ntmps249 ?_;refine cRs (Uc a0 a2 (sg u0)) ?_;refine cRs (Ku a0 ([3,a1,yF a0 a2,a3]:List Int) zAk) ?_;exact rt [.tmp 8] f
theorem Qy(h:b)(k:a:=by(intros;first|omega|with_unfolding_all (first|first|omega|(have cc:a0.ZQ.length<=2318336:=YX (xs u0);have z0:=l3;simp at z0;have z:=UI zAD z0.1;have z2:=z0.2;(try have w3:IntKind.i64.wrap (a2-1)=a2-1:=YZ zAD zAD);(try have w4:W (a2-1)=a2-1:=w3);first|omega|(refine⟨⟨z0.1,zAD⟩,zAD,zAD⟩)|(simp_all;omega)))|(simp_all;done)|(simp_all;omega)|grind|((try simp only[Yw,show ∀x,IntKind.i64.wrap x=W x from fun _=>rfl]at*);omega))):a/\b:=⟨k,h⟩
theorem Cd(a0:ZX)(a1:List Int)(a2:Int)(u0:Sm 2318336 a0)(u1:Sm 2318336 a1):Sa 184 [a0.row,rL 1 iR a1,rI a2] [rI (Gq a0 a1 a2)]:=by
 have f:=me (Gq.eq_1 a0 a1 a2);refine so func184 ntmps184 ?_;refine dIs mixed ?_;refine cRs (XC a2 0 (W ((a0.ZQ.length:Int)-1))) ?_;refine gIo ?_ ?_<;>intro G
 ·have l3:=G;have c1:=sl 2318336 a0.ZQ (an u0 u1);have w1:IntKind.i64.wrap ((a0.ZQ.length:Int)-1)=(a0.ZQ.length:Int)-1:=YZ zAD zAD;have g1:=G;try simp[Yd,w1]at g1
  have i1:a2.toNat<a0.ZQ.length:=zAT;simp[i1,ZF,G];refine zCN ?_;refine cGo (fun gg=>XC (nth a0.ZQ a2.toNat).Count 0 (a0.ZM.length:Int)) ?_;simp[G];refine zCN ?_;refine cKo f ?_ ?_<;>intro k2 h1 f
  ·have q1:=h1;try simp[Yd,w1]at q1
   simp[G];refine zCN ?_;exact rtg [.tmp 6] f
  ·have q1:=h1;try simp[Yd,w1]at q1
   simp[i1,ZF,G];refine zCN ?_;refine cKo f ?_ ?_<;>intro k3 h2 f
   ·have q2:=h2;try simp at q2
    have i2:(W (a2-1)).toNat<a0.ZQ.length:=zAT;simp[i2,ZF,G];refine zCN ?_;refine cR (Vz (nth a0.ZQ a2.toNat).Method (nth a0.ZQ (W (a2-1)).toNat) (sg (Zn (ZX.zf u0)))) ?_ (ny:=by first|(simp;done)|(simp[W,w1];done));simp[G];refine zCN ?_;refine dIo mixed ?_;have i3:a2.toNat<a1.length:=zAT;simp[i3,ZF,i1,G];refine zCN ?_;refine cR (LL (nth a0.ZQ a2.toNat).Method (nth a1 a2.toNat) (a0.ZM.take (nth a0.ZQ a2.toNat).Count.toNat) (y9 (nth a0.ZQ a2.toNat).Method (nth a0.ZQ (W (a2-1)).toNat)) (ZH (n:=2318336) zAE (xs (an u0 u1)))) ?_ (ny:=by first|(simp;done)|(simp[W,w1];done));simp[G];refine zCN ?_;exact rtg [.tmp 6] f
   ·have q2:=h2;try simp at q2
    simp[G];refine zCN ?_;refine dIo mixed ?_;have i4:a2.toNat<a1.length:=zAT
    simp[i4,ZF,i1,G];refine zCN ?_;refine cR (LL (nth a0.ZQ a2.toNat).Method (nth a1 a2.toNat) (a0.ZM.take (nth a0.ZQ a2.toNat).Count.toNat) 0 (ZH (n:=2318336) zAE (xs (an u0 u1)))) ?_;simp[G];refine zCN ?_;exact rtg [.tmp 6] f
 ·have l3:=G;simp[G];refine zCN ?_;refine sGo ?_;simp[G];refine zCN ?_;have c2:=sl 2318336 a0.ZQ (an u0 u1);have w2:IntKind.i64.wrap ((a0.ZQ.length:Int)-1)=(a0.ZQ.length:Int)-1:=YZ zAD zAD;refine cKo f ?_ ?_<;>intro k6 h3 f
  ·have q3:=h3;try simp[Yd,w2]at q3
   simp[G];refine zCN ?_;exact rtg [.tmp 6] f
  ·simp[G]at h3
theorem VT(a0:ZE)(a1:Int)(u0:Sm 2314240 a0):Sd 116 [a0.row,rI a1] [rL 1 iR (Yn a0 a1)]:=by
 have f:=me (Yn.eq_1 a0 a1);refine soD func116 ntmps116 ?_;refine lp2 (xK.eq_2 a0 a1) (fun J U=>Yy 51 [eI 1 a1,eX 2 (a0.row.map .d),(5,.one (.sref 5 0 0 J.length),[.arr false 1 (J.map iR)]),eI 6 (U:Int)]) (fun n1 J U=>a0.ZC.length<n1+U/\U<=a0.ZC.length/\J.length<=0+1*U) (a0.ZC.length+1) ([]:List Int) 0 (fun p1 J U e1 j1=>?_) (h0:=wkS [((5,0),some (8,0))] []);refine cFf e1 ?_ ?_<;>intro k2 h1 e1
 ·have i1:=ix h1;have m2:=ml a0.ZC (k2 11 _ rfl);have c1:=sl 2314240 a0.ZC u0;have w1:=wr U;simp[i1,ZF];refine rpS ?_;refine cOs (Yb.own (xI (nth a0.ZC U).ZK (sg (ZR.Yv (Zn (ZE.YC u0)))))) ?_;refine eIs ?_;have c2:=sl 2314240 (nth a0.ZC U).ZK.ZQ u0;refine eIs ?_;refine dIo mixed ?_;simp[i1,ZF];refine rpS ?_;refine cDs [false] (IY (ZX.mk (nth a0.ZC U).ZK.ZM ((nth a0.ZC U).ZK.ZQ++([Ze.mk ((nth a0.ZC U).ZK.ZM.length:Int) a1 0 ([]:List X4) ([]:List Zm)]:List Ze))) (nth a0.ZC U).Doc zAQ zAQ) ?_;refine cRs (Cd (ZX.mk (nth a0.ZC U).ZK.ZM ((nth a0.ZC U).ZK.ZQ++([Ze.mk ((nth a0.ZC U).ZK.ZM.length:Int) a1 0 ([]:List X4) ([]:List Zm)]:List Ze))) (qO (ZX.mk (nth a0.ZC U).ZK.ZM ((nth a0.ZC U).ZK.ZQ++([Ze.mk ((nth a0.ZC U).ZK.ZM.length:Int) a1 0 ([]:List X4) ([]:List Zm)]:List Ze))) (nth a0.ZC U).Doc) (W ((((nth a0.ZC U).ZK.ZQ++([Ze.mk ((nth a0.ZC U).ZK.ZM.length:Int) a1 0 ([]:List X4) ([]:List Zm)]:List Ze)).length:Int)-1)) zAQ zAQ) ?_ (ny:=by first|(simp;done)|(simp[W,w1];done));exact nx2 e1 (hw:=XN [((5,0),some (49,0))] [] rfl zAe)
 have c3:=sl 2314240 a0.ZC u0;exact rtD [.tmp 4] (ms f e1)
theorem IW(a0 a1 a2:Int):Sa 280 [rI a0,rI a1,rI a2] [rI (T4 a0 a1 a2)]:=by have f:=me (T4.eq_1 a0 a1 a2);refine so func280 ntmps280 ?_;refine cRs (Ku a0 ([1,a1,a2]:List Int) (by simp(maxDischargeDepth:=12) [Tx,XH];try omega)) ?_;exact rt [.tmp 6] f
theorem SC(a0:Int)(a1:List Int)(u0:Sm 2322432 a1):Sd 243 [rI a0,rL 1 iR a1] [rL 1 iR (UT a0 a1)]:=by
 have f:=me (UT.eq_1 a0 a1);refine soD func243 ntmps243 ?_;refine lp2 (VN.eq_2 a0 a1) (fun J U=>Yy 41 [eI 0 a0,eL 1 1 a1 iR,(5,.one (.sref 5 0 0 J.length),[.arr false 1 (J.map iR)]),eI 6 (U:Int)]) (fun n1 J U=>a1.length<n1+U/\U<=a1.length+1/\J.length<=U) (a1.length+1) ([]:List Int) 0 (fun p1 J U e1 j1=>?_) (h0:=wkS [((5,0),some (7,0))] []);refine cF e1 ?_ ?_<;>intro k2 h1 e1
 ·have i1:=ix h1;have m2:=ml a1 (k2 1 _ rfl);have c1:=sl 2322432 a1 u0;have w1:=wr U;refine cFt e1 ?_ ?_<;>intro k3 h2 e1
  ·refine okD fun k4=>?_;refine dIo mixed ?_;have i2:=ik (W ((U:Int)+1)).toNat a1
   simp[i1,ZF,i2];refine rpS ?_;refine cRs (IW a0 (nth a1 U) (nth a1 (W ((U:Int)+1)).toNat)) ?_ (ny:=by first|(simp;done)|(simp[W,w1];done));have w2:IntKind.i64.wrap ((U:Int)+2)=(U:Int)+2:=YZ zAD zAD
   exact nx2 e1 (hI:=by first|omega|(simp at*;omega)) (hw:=XN [((5,0),some (32,0))] [] rfl zB6)
  simp[i1,ZF];refine rpS ?_;have w3:IntKind.i64.wrap ((U:Int)+2)=(U:Int)+2:=YZ zAD zAD
  exact nx2 e1 (hI:=by first|omega|(simp at*;omega)) (hw:=XN [((5,0),some (39,0))] [] rfl (by simp[w1,w3]))
 exact rtD [.tmp 4] (ms f e1)
theorem U5(a0:Int)(a1:List Int)(u0:Sm 2318336 a1):Sa 175 [rI a0,rL 1 iR a1] [rI (zz a0 a1)]:=by
 have f:=me (zz.eq_1 a0 a1);refine so func175 ntmps175 ?_;refine cRs (XC (a1.length:Int) 1 16) ?_;refine cFo f ?_ ?_<;>intro k1 h1 f
 ·have q1:=h1;try simp[Yd]at q1
  simp;exact rt [.tmp 4] f
 have q1:=h1;try simp[Yd]at q1
 simp;refine rpS ?_;refine lp1 (SD.eq_2 a0) (fun J=>Yy 22 [eI 0 a0,(5,.one (.sref 5 0 0 J.length),[.arr false 1 (J.map iR)])]) (fun n1 J=>J.length<n1/\1<=J.length/\J.length<=16) (a1.length+1) a1 (fun p1 J e1 j1=>?_) (hI:=by first|omega|(simp at*;omega)) (h0:=wkS [((5,0),some (12,0))] []);refine cFt e1 ?_ ?_<;>intro k3 h2 e1
 ·refine cDs [false] (SC a0 J zAR) ?_;exact nx1 e1 (hI:=by(have z:=Uf a0 J zAD;(try dsimp only);simp at*;omega)) (hw:=wkS [((5,0),some (18,0))] [])
 have f:=ms f e1;have i1:=ik 0 J;simp[i1,ZF];refine rpS ?_;exact rt [.tmp 4] f
theorem CN(a0:ZE)(a1:Int)(u0:Sm 2310144 a0):Sa 107 [a0.row,rI a1] [rI (qT a0 a1)]:=by have f:=me (qT.eq_1 a0 a1);refine so func107 ntmps107 ?_;refine cRs (Yb.rd (VT a0 a1 (sg u0))) ?_;refine cRs (U5 a1 (Yn a0 a1) (by simp(maxDischargeDepth:=12) [jl,ZH (m:=2318336) zAE u0];try omega)) ?_;exact rt [.tmp 4] f
theorem Oa(a0:List Int)(a1:Int):Sa 109 [rL 1 iR a0,rI a1] [rB (Na a0 a1)]:=by
 have f:=me (Na.eq_1 a0 a1);refine so func109 ntmps109 ?_;refine lp1 (N9.eq_2 a0 a1) (fun J=>Yy 18 [eL 0 1 a0 iR,eI 1 a1,eI 5 (J:Int)]) (fun n1 J=>a0.length<n1+J/\J<=a0.length) (a0.length+1) 0 (fun p1 J e1 j1=>?_);refine cFf e1 ?_ ?_<;>intro k2 h1 e1
 ·have i1:=ix h1;have m2:=ml a0 (k2 0 _ rfl);have w1:=wr J;simp[i1,ZF];refine rpS ?_;refine cF e1 ?_ ?_<;>intro k3 h2 e1
  ·exact rt [.tmp 4] (ms f e1)
  exact ny1 w1 e1
 exact rt [.tmp 4] (ms f e1)
theorem V6(a0:List Y6)(a1:List Zo)(a2:Zm)(u0:Sm 2322432 a0)(u1:Sm 2322432 a1):Sa 110 [rL 5 Y6.row a0,rL 3 Zo.row a1,a2.row] [(zW a0 a1 a2).1.row,rB (zW a0 a1 a2).2]:=by
 have f:=me (zW.eq_1 a0 a1 a2);refine so func110 ntmps110 ?_;refine cRs (yl a1 a2.Authority) ?_;refine cGs (fun gg=>WK a2.Time) ?_;refine cFt f ?_ ?_<;>intro k1 h1 f
 ·exact rt [.cell 6 135,.tmp 7] f
 have i1:(Zu a1 a2.Authority).toNat<a1.length:=by have:=JH a1 a2.Authority;exact il
 simp[i1,ZF];refine rpS ?_;refine cRs (J9 a0 (nth a1 (Zu a1 a2.Authority).toNat).Key) ?_;refine cF f ?_ ?_<;>intro k2 h2 f
 ·exact rt [.cell 6 135,.tmp 7] f
 refine dIo mixed ?_;have i2:(Ys a0 (nth a1 (Zu a1 a2.Authority).toNat).Key).toNat<a0.length:=by have:=KC a0 (nth a1 (Zu a1 a2.Authority).toNat).Key;exact il
 simp[i2,ZF];refine rpS ?_;refine cRs (Yb.rd (RT a2)) ?_;refine cRs (kz (nth a0 (Ys a0 (nth a1 (Zu a1 a2.Authority).toNat).Key).toNat) (yf a2) (by simp(maxDischargeDepth:=12) [HR,ZH (m:=2326528) zAE u0,ZH (m:=2326528) zAE u1];try omega)) ?_;exact rt [.cell 6 135,.tmp 7] f
theorem U3(h:b)(k:a:=by(intros;first|omega|with_unfolding_all (first|first|omega|(have tm:=Int.tmod_eq_emod_of_nonneg (b:=2) (show 0<=J by omega);(try simp only[Yw,show ∀x,IntKind.i64.wrap x=W x from fun _=>rfl]at*);(try simp at*);omega))|((try simp only[Yw,show ∀x,IntKind.i64.wrap x=W x from fun _=>rfl]at*);omega))):a/\b:=⟨k,h⟩
theorem Fk(a0:Int)(a1:List Int)(a2:Int)(u0:Sm 2318336 a1):Sd 178 [rI a0,rL 1 iR a1,rI a2] [rL 2 X4.row (yq a0 a1 a2)]:=by
 have f:=me (yq.eq_1 a0 a1 a2);refine soD func178 ntmps178 ?_;refine cGs (fun gg=>XC a2 0 (W ((a1.length:Int)-1))) ?_;have c1:=sl 2318336 a1 u0;have w1:IntKind.i64.wrap ((a1.length:Int)-1)=(a1.length:Int)-1:=YZ zAD zAD;refine cFo f ?_ ?_<;>intro k1 h1 f
 ·have q1:=h1;try simp[Yd,w1]at q1
  simp;exact rtD [.tmp 6] f
 have q1:=h1;try simp[Yd,w1]at q1
 simp;repeat with_reducible refine U3 ?_
 refine lp3 (yz.eq_2 a0) (fun J U nb=>Yy 60 [eI 0 a0,eI 2 J,(7,.one (.sref 7 0 0 U.length),[.arr false 2 (U.map X4.row)]),(8,.one (.sref 8 0 0 nb.length),[.arr false 1 (nb.map iR)])]) (fun n1 J U nb=>nb.length<n1/\0<=J/\J<(nb.length:Int)/\nb.length<=16/\U.length+n1<=17) (a1.length+1) a2 ([]:List X4) a1 (fun p1 J U nb e1 j1=>?_) (hI:=by first|omega|(simp at*;omega)) (h0:=wkS [((7,0),some (9,0)),((8,0),some (24,0))] []);try dsimp only at j1
 refine cF e1 ?_ ?_<;>intro k3 h2 e1
 ·refine cFf e1 ?_ ?_<;>intro k4 h3 e1
  ·have i1:(W (J-1)).toNat<nb.length:=zAs;simp[i1,ZF];repeat with_reducible refine U3 ?_
   refine cDs [false] (SC a0 nb zAR) ?_;exact nx3 e1 (hI:=by(have z:=Uf a0 nb zAD;have td:=Int.tdiv_eq_ediv_of_nonneg (b:=2) (show 0<=J by omega);have w2:W (Int.tdiv J 2)=Int.tdiv J 2:=YZ zAD zAD;(try dsimp only);rw[w2];simp at*;omega)) (hw:=XN [((7,0),some (39,0)),((8,0),some (56,0))] [] rfl zAe)
  refine cFo e1 ?_ ?_<;>intro k5 h4 e1
  ·have q4:=h4;try simp[w1]at q4
   have i2:(W (J+1)).toNat<nb.length:=zAs;simp[i2,ZF];repeat with_reducible refine U3 ?_
   refine cDs [false] (SC a0 nb zAR) ?_;exact nx3 e1 (hI:=by(have z:=Uf a0 nb zAD;have td:=Int.tdiv_eq_ediv_of_nonneg (b:=2) (show 0<=J by omega);have w2:W (Int.tdiv J 2)=Int.tdiv J 2:=YZ zAD zAD;(try dsimp only);rw[w2];simp at*;omega)) (hw:=XN [((7,0),some (53,0)),((8,0),some (56,0))] [] rfl zAe)
  have q4:=h4;try simp[w1]at q4
  simp;refine cDs [false] (SC a0 nb zAR) ?_;exact nx3 e1 (hI:=by(have z:=Uf a0 nb zAD;have td:=Int.tdiv_eq_ediv_of_nonneg (b:=2) (show 0<=J by omega);have w2:W (Int.tdiv J 2)=Int.tdiv J 2:=YZ zAD zAD;(try dsimp only);rw[w2];simp at*;omega)) (hw:=XN [((8,0),some (56,0))] [] rfl zAe)
 exact rtD [.tmp 6] (ms f e1)
theorem Sw(a0:ZX)(a1:Ze)(u0:Sm 2326528 a0)(u1:Sm 2326528 a1):Sd 117 [a0.row,a1.row] [(Qw a0 a1).1.row,rB (Qw a0 a1).2]:=by
 have f:=me (Qw.eq_1 a0 a1);refine soD func117 ntmps117 ?_;refine cDs [] (xI a0 (sg u0)) ?_;refine drJ [14] mixed ?_;simp;refine cDs [true,true,true,false,false] (Pn a1 (sg u1)) ?_;refine jg ?_;have c1:=sl 2326528 a0.ZQ (an u0 u1);simp;refine kX (ng:=a0.ZQ.map Ze.row) (news:=([a1]:List Ze).map Ze.row) (l1:=[(8,1)]) (l2:=[(12,3),(12,4)]) (size:=5) ?_;simp;refine cRs (TM (ZX.mk a0.ZM (a0.ZQ++([a1]:List Ze)))) ?_;refine cF f ?_ ?_<;>intro k2 h1 f
 ·refine cDs [] (xI a0 (sg u0)) ?_;exact rtD [.cell 4 50,.tmp 5] f
 exact rtD [.cell 4 50,.tmp 5] f
theorem Mb(a0:ZE)(a1:Int)(a2:List Zm)(u0:Sm 2310144 a0)(u1:Sm 2310144 a2):Sd 111 [a0.row,rI a1,rL 5 Zm.row a2] [(Qm a0 a1 a2).1.row,rB (Qm a0 a1 a2).2]:=by
 have f:=me (Qm.eq_1 a0 a1 a2);refine soD func111 ntmps111 ?_;refine cDs [] (QV a0 (sg u0)) ?_;refine cRs (Yb.rd (VT a0 a1 (sg u0))) ?_;refine cRs (U5 a1 (Yn a0 a1) zBF) ?_;refine cRs (xq a0) ?_;refine lp3 (Ka.eq_2 a0 a1 a2) (fun J U nb=>Yy 84 [eI 1 a1,eL 2 5 a2 Zm.row,eX 3 (a0.row.map .d),(6,.one (.bptr 6 0),[.box [.d (.int .i64 0),.nil 16]]),(8,.one (.bptr 8 0),[.box [.d (.int .i64 a0.Id),.sref 16 1 0 nb.length]]),eL 9 1 (Yn a0 a1) iR,eI 10 (zz a1 (Yn a0 a1)),eB 11 J,eI 12 (U:Int),(16,.any,[.none,.arr true 16 (nb.map ZR.row)])]) (fun n1 J U nb=>a0.ZC.length<n1+U/\U<=a0.ZC.length/\nb.length=a0.ZC.length) (a0.ZC.length+1) (JP a0&&(decide ((a0.ZC.length:Int)>0))) 0 a0.ZC (fun p1 J U nb e1 j1=>?_);refine cF e1 ?_ ?_<;>intro k2 h1 e1
 ·have i1:U<a0.ZC.length:=zB1;have m2:=ml a0.ZC (k2 33 _ rfl);have c1:=sl 2310144 a0.ZC (an u0 u1);have w1:=wr U;refine dIo mixed ?_;simp[i1,ZF];refine rpS ?_;refine cRs (Yb.rd (Fk a1 (Yn a0 a1) (U:Int) zBF)) ?_;have i2:=ik U nb;refine cDf i2 [] (Sw (nth a0.ZC U).ZK (Ze.mk ((nth a0.ZC U).ZK.ZM.length:Int) a1 (zz a1 (Yn a0 a1)) (yq a1 (Yn a0 a1) (U:Int)) a2) (sg (ZR.Yv (Zn (ZE.YC u0)))) (by simp(maxDischargeDepth:=12) [Pt,jl,ZH (m:=2326528) zAE u0,ZH (m:=2326528) zAE u1];try omega)) ?_;refine sN (t:=16) (j:=1) (i:=U) (c:=14) (size:=16) (rows:=nb.map ZR.row) (ds:=(Qw (nth a0.ZC U).ZK (Ze.mk ((nth a0.ZC U).ZK.ZM.length:Int) a1 (zz a1 (Yn a0 a1)) (yq a1 (Yn a0 a1) (U:Int)) a2)).1.row) (L:=[(64,0),(64,1)]) rfl rfl rfl rfl zAG zAG (by simp;try omega) zAG zAG zAG zAG zAG zAG ?_;simp[Kh (x:=ZR.mk (nth nb U).Id (nth nb U).XI (nth nb U).Doc (nth nb U).Sig (Qw (nth a0.ZC U).ZK (Ze.mk ((nth a0.ZC U).ZK.ZM.length:Int) a1 (zz a1 (Yn a0 a1)) (yq a1 (Yn a0 a1) (U:Int)) a2)).1) rfl,i2,ZF,XT];refine rpS ?_;exact ny3 w1 e1
 have c2:=sl 2310144 a0.ZC (an u0 u1);have f:=ms f e1;refine cGs (fun gg=>xq (ZE.mk a0.Id nb)) ?_;refine cF f ?_ ?_<;>intro k4 h2 f
 ·refine cDs [] (QV a0 (sg u0)) ?_;exact rtD [.cell 6 55,.tmp 7] f
 exact rtD [.cell 6 55,.tmp 7] f
theorem QR(h:b)(k:a:=by(intros;first|omega|with_unfolding_all (first|first|omega|(have z:=Jr (a0:=a0) (a1:=a2) (j:=U) zAo zAD;omega)|(have z:=Jr (a0:=a0) (a1:=a2) (j:=nc) zAo zAD;omega))|((try simp only[Yw,show ∀x,IntKind.i64.wrap x=W x from fun _=>rfl]at*);omega))):a/\b:=⟨k,h⟩
theorem Gu(a0:ZG)(a1:Int)(a2:List Int)(a3:Int)(u0:Sm 2306048 a0)(u1:Sm 2306048 a2):Sd 45 [a0.row,rI a1,rL 1 iR a2,rI a3] [(zU a0 a1 a2 a3).1.row,rB (zU a0 a1 a2 a3).2]:=by
 have f:=me (zU.eq_1 a0 a1 a2 a3);refine soD func45 ntmps45 ?_;refine cDs [false,false,false,true,true,false,false,true,false,false,true,false] (Ql a0 (sg u0)) ?_;refine cRs (jB a0.Frame.Methods a0.Frame.Now) ?_;refine cRs (jW a0 a1) ?_;refine cGs (fun gg=>Cu a0 a2) ?_;refine cGs (fun gg=>XC a3 (-10000) 10000) ?_;have c1:=sl 2306048 a0.ZB (an u0 u1);have w1:IntKind.i64.wrap ((a0.ZB.length:Int)-1)=(a0.ZB.length:Int)-1:=YZ zAD zAD;refine cFo f ?_ ?_<;>intro k1 h1 f
 ·have q1:=h1;try simp[Yd,w1,JS]at q1
  simp;exact rtD [.cell 8 33,.tmp 9] f
 have q1:=h1;try simp[Yd,w1,JS]at q1
 have i1:a1.toNat<a0.ZB.length:=by first|omega|(have z:=Jr (a0:=a0) (a1:=a2) (j:=U) zAo zAD;omega)|(have z:=Jr (a0:=a0) (a1:=a2) (j:=nc) zAo zAD;omega)
 simp[i1,ZF];refine zCP ?_;refine cRs (CN (nth a0.ZB a1.toNat) (Zq a0.Frame.Methods a0.Frame.Now) (sg (Zn (ZG.Z5 u0)))) ?_;refine lp2 (Qn.eq_2 a0 a1 a2 a3) (fun J U=>Yy 162 [eI 1 a1,eL 2 1 a2 iR,eI 3 a3,eX 4 (a0.row.map .d),(8,.one (.bptr 8 0),[.box [.nil 5,.nil 3,.nil 4,.d (.int .i64 0),.d (.int .i64 0),.nil 7,.nil 1,.nil 2,.nil 1,.nil 1,.d (.int .i64 0),.nil 1]]),(10,.one (.bptr 10 0),[.box [.sref 24 0 0 a0.Frame.Z0.length,.sref 24 1 0 a0.Frame.ZD.length,.sref 24 2 0 a0.Frame.Methods.length,.d (.int .i64 a0.Frame.XB),.d (.int .i64 a0.Frame.Now),.sref 24 5 0 a0.Zf.length,.sref 24 6 0 a0.Zy.length,.sref 24 7 0 a0.ZB.length,.sref 24 8 0 a0.Y9.length,.sref 24 9 0 a0.Yg.length,.d (.int .i64 a0.Next),.sref 24 11 0 a0.YN.length]]),eI 11 (Zq a0.Frame.Methods a0.Frame.Now),eI 12 (qT (nth a0.ZB a1.toNat) (Zq a0.Frame.Methods a0.Frame.Now)),(13,.one (.sref 13 0 0 J.length),[.arr false 5 (J.map Zm.row)]),eI 14 (U:Int),(24,.any,[.arr false 5 (a0.Frame.Z0.map Y6.row),.arr false 3 (a0.Frame.ZD.map Zo.row),.arr false 4 (a0.Frame.Methods.map YJ.row),.none,.none,.arr false 7 (a0.Zf.map YO.row),.arr false 1 (a0.Zy.map iR),.arr true 2 (a0.ZB.map ZE.row),.arr false 1 (a0.Y9.map iR),.arr false 1 (a0.Yg.map iR),.none,.arr false 1 (a0.YN.map iR)])]) (fun n1 J U=>a2.length<n1+U/\U<=a2.length/\J.length<=0+1*U) (a2.length+1) ([]:List Zm) 0 (fun p1 J U e1 j1=>?_) (h0:=wkS [((13,0),some (59,0))] []);try dsimp only at j1
 refine cFt e1 ?_ ?_<;>intro k3 h2 e1
 ·have i2:=ix h2;have m2:=ml a2 (k3 2 _ rfl);have c2:=sl 2306048 a2 (an u0 u1);have w2:=wr U;refine dIo mixed ?_;simp[i2,ZF];refine zCP ?_;refine cRs (yl a0.Frame.ZD (nth a2 U)) ?_;refine dIo mixed ?_;simp[i2,ZF];refine zCP ?_;refine cRs (Oa a0.Yg (nth a2 U)) ?_;refine cF e1 ?_ ?_<;>intro k6 h3 e1
  ·refine cRs (Gp 0 (W (a0.Frame.Now+a3))) ?_ (ny:=by first|(simp;done)|(simp[W,w1,w2];done));refine cRs (BN 10000 (jb 0 (W (a0.Frame.Now+a3)))) ?_ (ny:=by first|(simp;done)|(simp[W,w1,w2];done));refine dIo mixed ?_;have i3:(Zu a0.Frame.ZD (nth a2 U)).toNat<a0.Y9.length:=zAi
   simp[i2,ZF,i3];refine zCP ?_;refine cRs (V6 a0.Frame.Z0 a0.Frame.ZD (Zm.mk (nth a2 U) (nth a0.Y9 (Zu a0.Frame.ZD (nth a2 U)).toNat) (Tt 10000 (jb 0 (W (a0.Frame.Now+a3)))) (qT (nth a0.ZB a1.toNat) (Zq a0.Frame.Methods a0.Frame.Now)) 0) (sg (Zb.Xd (ZG.Xk u0))) (sg (Zb.XJ (ZG.Xk u0)))) ?_ (ny:=by first|(simp;done)|(simp[W,w1,w2];done));refine cFo e1 ?_ ?_<;>intro k8 h4 e1
   ·have q4:=h4;try simp[w1]at q4
    have f:=ms f e1;simp;exact rtD [.cell 8 33,.tmp 9] f
   have q4:=h4;try simp[w1]at q4
   simp;refine zCP ?_;exact nx2 e1 (hw:=XN [((13,0),some (117,0))] [] rfl zB6)
  refine dIo mixed ?_;have i4:(Zu a0.Frame.ZD (nth a2 U)).toNat<a0.Y9.length:=zAi
  simp[i2,ZF,i4];refine zCP ?_;refine cRs (V6 a0.Frame.Z0 a0.Frame.ZD (Zm.mk (nth a2 U) (nth a0.Y9 (Zu a0.Frame.ZD (nth a2 U)).toNat) a0.Frame.Now (qT (nth a0.ZB a1.toNat) (Zq a0.Frame.Methods a0.Frame.Now)) 0) (sg (Zb.Xd (ZG.Xk u0))) (sg (Zb.XJ (ZG.Xk u0)))) ?_;refine cFt e1 ?_ ?_<;>intro cS h5 e1
  ·exact rtD [.cell 8 33,.tmp 9] (ms f e1)
  simp;refine zCP ?_;exact nx2 e1 (hw:=XN [((13,0),some (117,0))] [] rfl zB6)
 have c3:=sl 2306048 a2 (an u0 u1);have f:=ms f e1;simp[i1,ZF];refine zCP ?_;refine cDs [] (Mb (nth a0.ZB a1.toNat) (Zq a0.Frame.Methods a0.Frame.Now) J (sg (Zn (ZG.Z5 u0))) (by first|(simp(maxDischargeDepth:=12) [XH];omega)|(simp(maxDischargeDepth:=12) [ZH (m:=2310144) zAE u0,ZH (m:=2310144) zAE u1];done))) ?_;refine cF f ?_ ?_<;>intro cQ h6 f
 ·exact rtD [.cell 8 33,.tmp 9] f
 refine lp2 (qn.eq_2 a0 a2) (fun nc nh=>Yy 162 [eI 1 a1,eL 2 1 a2 iR,eX 4 (a0.row.map .d),(8,.one (.bptr 8 0),[.box [.nil 5,.nil 3,.nil 4,.d (.int .i64 0),.d (.int .i64 0),.nil 7,.nil 1,.nil 2,.nil 1,.nil 1,.d (.int .i64 0),.nil 1]]),(10,.one (.bptr 10 0),[.box [.sref 24 0 0 a0.Frame.Z0.length,.sref 24 1 0 a0.Frame.ZD.length,.sref 24 2 0 a0.Frame.Methods.length,.d (.int .i64 a0.Frame.XB),.d (.int .i64 a0.Frame.Now),.sref 24 5 0 a0.Zf.length,.sref 24 6 0 a0.Zy.length,.sref 24 7 0 a0.ZB.length,.sref 24 8 0 nh.length,.sref 24 9 0 a0.Yg.length,.d (.int .i64 a0.Next),.sref 24 11 0 a0.YN.length]]),(19,.one (.bptr 19 0),[.box [.d (.int .i64 (Qm (nth a0.ZB a1.toNat) (Zq a0.Frame.Methods a0.Frame.Now) J).1.Id),.sref 126 1 0 (Qm (nth a0.ZB a1.toNat) (Zq a0.Frame.Methods a0.Frame.Now) J).1.ZC.length]]),eI 21 (nc:Int),(24,.any,[.arr false 5 (a0.Frame.Z0.map Y6.row),.arr false 3 (a0.Frame.ZD.map Zo.row),.arr false 4 (a0.Frame.Methods.map YJ.row),.none,.none,.arr false 7 (a0.Zf.map YO.row),.arr false 1 (a0.Zy.map iR),.arr true 2 (a0.ZB.map ZE.row),.arr false 1 (nh.map iR),.arr false 1 (a0.Yg.map iR),.none,.arr false 1 (a0.YN.map iR)]),(126,.any,[.none,.arr true 16 ((Qm (nth a0.ZB a1.toNat) (Zq a0.Frame.Methods a0.Frame.Now) J).1.ZC.map ZR.row)])]) (fun n2 nc nh=>a2.length<n2+nc/\nc<=a2.length/\nh.length=a0.Y9.length) (a2.length+1) 0 a0.Y9 (fun p2 nc nh e2 j2=>?_);try dsimp only at j2
 refine cFt e2 ?_ ?_<;>intro cf h7 e2
 ·have i5:=ix h7;have m4:=ml a2 (cf 2 _ rfl);have w3:=wr nc;refine dIo mixed ?_;simp[i5,ZF];refine zCP ?_;refine cRs (yl a0.Frame.ZD (nth a2 nc)) ?_;refine dIo mixed ?_;have i6:(Zu a0.Frame.ZD (nth a2 nc)).toNat<a0.Y9.length:=zAh;have i7:(Zu a0.Frame.ZD (nth a2 nc)).toNat<nh.length:=zAh;simp[i6,ZF,i7,Kh (x:=W (nth a0.Y9 (Zu a0.Frame.ZD (nth a2 nc)).toNat+1)) rfl];refine zCP ?_;exact ny2 (an w1 w3) e2
 have f:=ms f e2;simp[i1,ZF];refine zCP ?_;refine N4 (t:=24) (j:=7) (i:=a1.toNat) (size:=2) (rows:=a0.ZB.map ZE.row) (ds:=(Qm (nth a0.ZB a1.toNat) (Zq a0.Frame.Methods a0.Frame.Now) J).1.row) (L:=[(126,1)]) ?_;simp[Kh (x:=(Qm (nth a0.ZB a1.toNat) (Zq a0.Frame.Methods a0.Frame.Now) J).1) rfl,c1,i1,ZF,XT];refine zCP ?_;exact rtD [.cell 8 33,.tmp 9] f
theorem L4(a0:Int)(a1:ZR)(u0:Sm 2318336 a1):Sa 281 [rI a0,a1.row] [rI (SU a0 a1)]:=by
 have f:=me (SU.eq_1 a0 a1);refine so func281 ntmps281 ?_;refine dIs mixed ?_;refine cRs (V5 a0 a1.Doc (sg (ZR.zt u0))) ?_;refine cRs (Uc a0 a1.ZK.ZM (sg (ZX.QE (ZR.Yv u0)))) ?_;refine lp2 (VQ.eq_2 a0 a1) (fun J U=>Yy 43 [eI 0 a0,eX 3 (a1.row.map .d),(5,.one (.sref 5 0 0 J.length),[.arr false 1 (J.map iR)]),eI 6 (U:Int)]) (fun n1 J U=>a1.ZK.ZQ.length<n1+U/\U<=a1.ZK.ZQ.length/\J.length<=5+1*U) (a1.ZK.ZQ.length+1) ([5,a1.Id,a1.XI,Kr a0 a1.Doc,yF a0 a1.ZK.ZM]:List Int) 0 (fun p1 J U e1 j1=>?_) (h0:=wkS [((5,0),some (20,0))] []);refine cFf e1 ?_ ?_<;>intro k3 h1 e1
 ·have i1:=ix h1;have m2:=ml a1.ZK.ZQ (k3 24 _ rfl);have c1:=sl 2318336 a1.ZK.ZQ u0;have w1:=wr U;simp[i1,ZF];refine rpS ?_;refine cRs (Vz a0 (nth a1.ZK.ZQ U) (sg (Zn (ZX.zf (ZR.Yv u0))))) ?_;exact nx2 e1 (hw:=XN [((5,0),some (39,0))] [] rfl zAe)
 have c2:=sl 2318336 a1.ZK.ZQ u0;have f:=ms f e1;refine cRs (Ku a0 J zAM) ?_;exact rt [.tmp 4] f
theorem N1(a0:Int)(a1:List ZR)(u0:Sm 2314240 a1):Sa 244 [rI a0,rL 16 ZR.row a1] [rI (PJ a0 a1)]:=by
 have f:=me (PJ.eq_1 a0 a1);refine so func244 ntmps244 ?_;refine lp2 (RN.eq_2 a0 a1) (fun J U=>Yy 26 [eI 0 a0,eL 1 16 a1 ZR.row,(5,.one (.sref 5 0 0 J.length),[.arr false 1 (J.map iR)]),eI 6 (U:Int)]) (fun n1 J U=>a1.length<n1+U/\U<=a1.length/\J.length<=0+1*U) (a1.length+1) ([]:List Int) 0 (fun p1 J U e1 j1=>?_) (h0:=wkS [((5,0),some (7,0))] []);refine cFf e1 ?_ ?_<;>intro k2 h1 e1
 ·have i1:=ix h1;have m2:=ml a1 (k2 1 _ rfl);have c1:=sl 2314240 a1 u0;have w1:=wr U;simp[i1,ZF];refine rpS ?_;refine cRs (L4 a0 (nth a1 U) (sg (Zn u0))) ?_;exact nx2 e1 (hw:=XN [((5,0),some (22,0))] [] rfl zAe)
 have c2:=sl 2314240 a1 u0;have f:=ms f e1;refine cRs (U5 a0 J zA9) ?_;exact rt [.tmp 4] f
theorem L5(a0:ZE)(a1:Int)(a2:List Int)(a3:Int)(u0:Sm 2310144 a0)(u1:Sm 2310144 a2):So 179 [a0.row,rI a1,rL 1 iR a2,rI a3] [(Xn a0 a1 a2 a3).1.row,rB (Xn a0 a1 a2 a3).2]:=by
 have f:=me (Xn.eq_1 a0 a1 a2 a3);refine so func179 ntmps179 ?_;refine lp2 (zA.eq_2 a0 a2) (fun J U=>Yy 53 [eL 2 1 a2 iR,eI 3 a3,eX 4 (a0.row.map .d),(8,.one (.bptr 8 0),[.box [.d (.int .i64 0),.d (.int .i64 0),.nil 16,.d (.int .i64 0)]]),(10,.one (.bptr 10 0),[.box [.d (.int .i64 a0.Id),.d (.int .i64 a1),.sref 10 3 0 U.length,.d (.int .i64 0)],.none,.none,.arr false 16 (U.map ZR.row)]),eI 11 (J:Int)]) (fun n1 J U=>a2.length<n1+J/\J<=a2.length/\U.length<=J/\(∀x∈U,Sm 2310144 x)) (a2.length+1) 0 ([]:List ZR) (fun p1 J U e1 j1=>?_) (hI:=by exact⟨zAD,zAD,Nat.zero_le _,Nat.zero_le _,fun x h=>by cases h⟩) (h0:=wkS [((10,3),none)] []);try dsimp only at j1
 refine cF e1 ?_ ?_<;>intro k2 h1 e1
 ·have i1:=ix h1;have m2:=ml a2 (k2 2 _ rfl);have c1:=sl 2310144 a2 (an u0 u1);have w1:=wr J;refine dIo mixed ?_;simp[i1,ZF];refine rpS ?_;refine cRs (qk a0 (nth a2 J)) ?_;refine cF e1 ?_ ?_<;>intro k4 h2 e1
  ·exact rtO [.cell 8 197,.tmp 9] (ms f e1)
  refine dIo mixed ?_;have i2:(Y2 a0 (nth a2 J)).toNat<a0.ZC.length:=by have:=TP a0 (nth a2 J);exact il
  simp[i2,ZF];refine rpS ?_;refine cRs (Yb.rd (JD (nth a0.ZC (Y2 a0 (nth a2 J)).toNat) (sg (Zn (ZE.YC u0))))) ?_;refine eIs ?_;refine eIs ?_;exact nx2 e1 (hI:=by((try dsimp only);refine⟨zAD,zAD,zAD,by simp;omega,fun x hx=>?_⟩;rcases List.mem_append.1 hx with hx|hx;exact j1.2.2.2.2 x hx;have e:=List.mem_singleton.1 hx;subst e;exact Zn (ZE.YC u0))) (hw:=XN [((10,3),some (41,0))] [] rfl zAe)
 have c2:=sl 2310144 a2 (an u0 u1);have f:=ms f e1;refine cF f ?_ ?_<;>intro k6 h3 f
 ·exact rtO [.cell 8 197,.tmp 9] f
 refine cRs (N1 a3 U zBI) ?_;exact rtO [.cell 8 197,.tmp 9] f
theorem Mx(a0:Yk)(a1:Int)(u0:Sm 2310144 a0):Sa 245 [a0.row,rI a1] [rB (z6 a0 a1)]:=by
 have f:=me (z6.eq_1 a0 a1);refine so func245 ntmps245 ?_;refine lp1 (zM.eq_2 a0) (fun J=>Yy 33 [eI 1 a1,eX 2 (a0.row.map .d),eI 5 (J:Int)]) (fun n1 J=>a0.ZC.length<n1+J/\J<=a0.ZC.length) (a0.ZC.length+1) 0 (fun p1 J e1 j1=>?_);refine cFf e1 ?_ ?_<;>intro k2 h1 e1
 ·have i1:=ix h1;have m2:=ml a0.ZC (k2 8 _ rfl);have c1:=sl 2310144 a0.ZC u0;have w1:=wr J;simp[i1,ZF];refine rpS ?_;refine cRs (LK (nth a0.ZC J)) ?_;refine cF e1 ?_ ?_<;>intro k3 h2 e1
  ·exact rt [.tmp 4] (ms f e1)
  exact ny1 w1 e1
 have f:=ms f e1;refine dIs mixed ?_;refine cRs (XC (a0.ZC.length:Int) 1 8) ?_;refine cGs (fun gg=>N1 a1 a0.ZC (sg (Yk.YC u0))) ?_;exact rt [.tmp 4] f
theorem N0(a0:ZE)(a1:Yk)(a2:Int)(u0:Sm 2306048 a0)(u1:Sm 2306048 a1):Sd 180 [a0.row,a1.row,rI a2] [(QF a0 a1 a2).1.row,rB (QF a0 a1 a2).2]:=by
 have f:=me (QF.eq_1 a0 a1 a2);refine soD func180 ntmps180 ?_;refine cDs [] (QV a0 (sg u0)) ?_;refine cRs (Mx a1 a2 (sg u1)) ?_;refine lp4 (Kx.eq_2 a1) (fun J U nb nm=>Yy 52 [eX 3 (a0.row.map .d),eX 4 (a1.row.map .d),(6,.one (.bptr 6 0),[.box [.d (.int .i64 0),.nil 16]]),(8,.one (.bptr 8 0),[.box [.d (.int .i64 nb),.sref 8 2 0 nm.length],.none,.arr true 16 (nm.map ZR.row)]),eB 9 J,eI 10 (U:Int)]) (fun n1 J U nb nm=>a1.ZC.length<n1+U/\U<=a1.ZC.length/\(J=true->a1.ZC.length<=8)/\Sm (2306048+U) (ZE.mk nb nm)) (a1.ZC.length+1) (z6 a1 a2&&(a1.To==a0.Id)) 0 a0.Id a0.ZC (fun p1 J U nb nm e1 j1=>?_) (hI:=by exact⟨zAD,zAD,Nat.zero_le _,fun h=>NC a1 a2 (by simp at h;exact h.1),u0⟩) (h0:=wkS [((8,2),some (14,1))] []);try dsimp only at j1
 refine cF e1 ?_ ?_<;>intro k2 h1 e1
 ·have i1:U<a1.ZC.length:=zB1;have m2:=ml a1.ZC (k2 27 _ rfl);have c1:=sl 2306048 a1.ZC (an u0 u1);have w1:=wr U;refine dIo mixed ?_;simp[i1,ZF];refine rpS ?_;refine cDs [] (SM (ZE.mk nb nm) (nth a1.ZC U) zA6 zA6) ?_;exact nx4 e1 (hI:=by(have hc:=h1;simp at hc;(try dsimp only);refine⟨zAD,zAD,zAD,fun _=>j1.2.2.2.1 hc.2,?_⟩;exact W8 (n:=2306048+U) j1.2.2.2.2 (ZH (n:=2306048) zAD (Zn (Yk.YC u1))))) (hw:=XN [((8,2),some (42,1))] [] rfl zAe)
 have c2:=sl 2306048 a1.ZC (an u0 u1);have f:=ms f e1;refine cF f ?_ ?_<;>intro k4 h2 f
 ·refine cDs [] (QV a0 (sg u0)) ?_;exact rtD [.cell 6 55,.tmp 7] f
 exact rtD [.cell 6 55,.tmp 7] f
theorem FU(a0:ZE)(a1:Int)(u0:Sm 2322432 a0):Sd 181 [a0.row,rI a1] [(qC a0 a1).1.row,rB (qC a0 a1).2]:=by
 have f:=me (qC.eq_1 a0 a1);refine soD func181 ntmps181 ?_;refine cRs (qk a0 a1) ?_;refine cF f ?_ ?_<;>intro k1 h1 f
 ·refine cDs [] (QV a0 (sg u0)) ?_;exact rtD [.cell 4 55,.tmp 5] f
 refine lp2 (y0.eq_2 a0 a1) (fun J U=>Yy 41 [eX 2 (a0.row.map .d),(4,.one (.bptr 4 0),[.box [.d (.int .i64 0),.nil 16]]),eI 6 (Y2 a0 a1),(7,.one (.bptr 7 0),[.box [.d (.int .i64 a0.Id),.sref 7 2 0 U.length],.none,.arr true 16 (U.map ZR.row)]),eI 8 (J:Int)]) (fun n1 J U=>a0.ZC.length<n1+J/\J<=a0.ZC.length/\U.length<=0+1*J) (a0.ZC.length+1) 0 ([]:List ZR) (fun p1 J U e1 j1=>?_) (h0:=wkS [((7,2),none)] []);refine cF e1 ?_ ?_<;>intro k3 h2 e1
 ·have i1:=ix h2;have m2:=ml a0.ZC (k3 21 _ rfl);have c1:=sl 2322432 a0.ZC u0;have w1:=wr J;refine cF e1 ?_ ?_<;>intro k4 h3 e1
  ·refine okD fun k5=>?_;refine drJ [38] mixed ?_;simp[i1,ZF];refine rpS ?_;refine cDs [true,true,true,false,false] (JD (nth a0.ZC J) (sg (Zn (ZE.YC u0)))) ?_;refine jg ?_;simp;refine kX (ng:=U.map ZR.row) (news:=([nth a0.ZC J]:List ZR).map ZR.row) (l1:=[(7,2)]) (l2:=[(36,3),(36,4),(36,14),(36,15)]) (size:=16) ?_;simp;exact nx2 e1 (hw:=XN [((7,2),some (38,0))] [] rfl zAe)
  exact ny2 w1 e1
 have c2:=sl 2322432 a0.ZC u0;exact rtD [.cell 4 55,.tmp 5] (ms f e1)
theorem HJ(a0 a1:ZE)(a2:List Int)(a3:Int)(u0:Sm 2301952 a0)(u1:Sm 2301952 a1)(u2:Sm 2301952 a2):Sd 112 [a0.row,a1.row,rL 1 iR a2,rI a3] [(JR a0 a1 a2 a3).1.row,(JR a0 a1 a2 a3).2.1.row,rB (JR a0 a1 a2 a3).2.2]:=by
 have f:=me (JR.eq_1 a0 a1 a2 a3);refine soD func112 ntmps112 ?_;refine cRs (L5 a0 a1.Id a2 a3 zBk zBk) ?_;refine cDs [] (N0 a1 (Xn a0 a1.Id a2 a3).1 a3 zBm zBm) ?_;refine cDs [] (QV a0 (sg u0)) ?_;refine lp4 (xF.eq_2 a0 a1 a2 a3) (fun J U nb nm=>Yy 72 [eL 2 1 a2 iR,eX 4 (a0.row.map .d),eX 5 (a1.row.map .d),(8,.one (.bptr 8 0),[.box [.d (.int .i64 0),.nil 16]]),(9,.one (.bptr 9 0),[.box [.d (.int .i64 0),.nil 16]]),eB 12 (Xn a0 a1.Id a2 a3).2,(13,.one (.bptr 13 0),[.box [.d (.int .i64 (QF a1 (Xn a0 a1.Id a2 a3).1 a3).1.Id),.sref 32 1 0 (QF a1 (Xn a0 a1.Id a2 a3).1 a3).1.ZC.length]]),eB 14 J,(15,.one (.bptr 15 0),[.box [.d (.int .i64 nb),.sref 15 2 0 nm.length],.none,.arr true 16 (nm.map ZR.row)]),eI 16 (U:Int),(32,.any,[.none,.arr true 16 ((QF a1 (Xn a0 a1.Id a2 a3).1 a3).1.ZC.map ZR.row)])]) (fun n1 J U nb nm=>a2.length<n1+U/\U<=a2.length/\Sm 2301952 (ZE.mk nb nm)) (a2.length+1) (QF a1 (Xn a0 a1.Id a2 a3).1 a3).2 0 a0.Id a0.ZC (fun p1 J U nb nm e1 j1=>?_) (hI:=by exact⟨zAD,zAD,Nat.zero_le _,u0⟩) (h0:=wkS [((15,2),some (36,1))] []);try dsimp only at j1
 refine cF e1 ?_ ?_<;>intro k2 h1 e1
 ·have i1:U<a2.length:=zB1;have m2:=ml a2 (k2 2 _ rfl);have c1:=sl 2301952 a2 (an u0 (an u1 u2));have w1:=wr U;refine dIo mixed ?_;simp[i1,ZF];refine rpS ?_;refine cDs [] (FU (ZE.mk nb nm) (nth a2 U) (by exact ZH (n:=2301952) zAE j1.2.2.2)) ?_;exact nx4 e1 (hI:=by((try dsimp only);refine⟨zAD,zAD,zAD,?_⟩;exact Pm j1.2.2.2)) (hw:=XN [((15,2),some (55,1))] [] rfl zAe)
 have c2:=sl 2301952 a2 (an u0 (an u1 u2));have f:=ms f e1;refine cF f ?_ ?_<;>intro k4 h2 f
 ·refine okD fun k5=>?_;refine dIs mixed ?_;refine cDs [] (QV a0 (sg u0)) ?_;refine cDs [] (QV a1 (sg u1)) ?_;exact rtD [.cell 8 55,.cell 9 55,.tmp 10] f
 refine vv [(8,8),(9,9),(13,13),(15,15)] mixed zAV zAV zAV zAV ?_;simp;exact rtD [.cell 8 55,.cell 9 55,.tmp 10] f
theorem Fl(a0:ZG)(a1 a2 a3:Int)(u0:Sm 2297856 a0):Sd 46 [a0.row,rI a1,rI a2,rI a3] [(xf a0 a1 a2 a3).1.row,rB (xf a0 a1 a2 a3).2]:=by
 have f:=me (xf.eq_1 a0 a1 a2 a3);refine soD func46 ntmps46 ?_;refine cDs [false,false,false,true,true,false,false,true,false,false,true,false] (Ql a0 (sg u0)) ?_;refine cRs (jB a0.Frame.Methods a0.Frame.Now) ?_;refine cRs (jW a0 a1) ?_;refine cGs (fun gg=>jW a0 a2) ?_;have c1:=sl 2297856 a0.ZB u0;have w1:IntKind.i64.wrap ((a0.ZB.length:Int)-1)=(a0.ZB.length:Int)-1:=YZ zAD zAD;refine cFo f ?_ ?_<;>intro k1 h1 f
 ·have q1:=h1;try simp[w1,JS,Yd]at q1
  simp;exact rtD [.cell 8 33,.tmp 9] f
 have q1:=h1;try simp[w1,JS,Yd]at q1
 simp;refine dIo mixed ?_;have i1:=ik a1.toNat a0.ZB
 have i2:=ik a2.toNat a0.ZB;simp[i1,ZF,i2];refine rpS ?_;refine cDf i1 [] (HJ (nth a0.ZB a1.toNat) (nth a0.ZB a2.toNat) ([a3]:List Int) (Zq a0.Frame.Methods a0.Frame.Now) (sg (Zn (ZG.Z5 u0))) (sg (Zn (ZG.Z5 u0))) zAk) ?_;refine N4 (t:=16) (j:=7) (i:=a1.toNat) (size:=2) (rows:=a0.ZB.map ZE.row) (ds:=(JR (nth a0.ZB a1.toNat) (nth a0.ZB a2.toNat) ([a3]:List Int) (Zq a0.Frame.Methods a0.Frame.Now)).1.row) (L:=[(58,1)]) ?_;simp;refine rpS ?_;refine N4 (t:=16) (j:=7) (i:=a2.toNat) (size:=2) (rows:=(a0.ZB.set a1.toNat (JR (nth a0.ZB a1.toNat) (nth a0.ZB a2.toNat) ([a3]:List Int) (Zq a0.Frame.Methods a0.Frame.Now)).1).map ZE.row) (ds:=(JR (nth a0.ZB a1.toNat) (nth a0.ZB a2.toNat) ([a3]:List Int) (Zq a0.Frame.Methods a0.Frame.Now)).2.1.row) (L:=[(58,3)]) ?_;simp;refine rpS ?_;exact rtD [.cell 8 33,.tmp 9] f
theorem IK(a0:ZE)(a1:Int)(u0:Sm 2326528 a0):So 113 [a0.row,rI a1] [(qL a0 a1).1.row,rI (qL a0 a1).2]:=by
 have f:=me (qL.eq_1 a0 a1);refine so func113 ntmps113 ?_;refine lp3 (KI.eq_2 a0 a1) (fun J U nb=>Yy 42 [eI 1 a1,eX 2 (a0.row.map .d),(4,.one (.bptr 4 0),[.box [.d (.int .i64 0),.nil 16]]),(6,.one (.bptr 6 0),[.box [.d (.int .i64 a0.Id),.sref 6 2 0 nb.length],.none,.arr false 16 (nb.map ZR.row)]),eI 7 J,eI 8 (U:Int)]) (fun n1 J U nb=>a0.ZC.length<n1+U/\U<=a0.ZC.length/\nb.length<=0+1*U) (a0.ZC.length+1) 0 0 ([]:List ZR) (fun p1 J U nb e1 j1=>?_) (h0:=wkS [((6,2),none)] []);refine cFf e1 ?_ ?_<;>intro k2 h1 e1
 ·have i1:=ix h1;have m2:=ml a0.ZC (k2 14 _ rfl);have c1:=sl 2326528 a0.ZC u0;have w1:=wr U;simp[i1,ZF];refine rpS ?_;refine cF e1 ?_ ?_<;>intro k3 h2 e1
  ·exact ny3 w1 e1
  refine dIo mixed ?_;simp[i1,ZF];refine rpS ?_;refine cRs (Yb.rd (JD (nth a0.ZC U) (sg (Zn (ZE.YC u0))))) ?_;refine eIs ?_;refine eIs ?_;exact nx3 e1 (hw:=XN [((6,2),some (38,0))] [] rfl zAe)
 have c2:=sl 2326528 a0.ZC u0;exact rtO [.cell 4 55,.tmp 5] (ms f e1)
theorem L8(a0:ZG)(a1:Int)(u0:Sm 2318336 a0):So 47 [a0.row,rI a1] [(za a0 a1).1.row,rB (za a0 a1).2]:=by
 have f:=me (za.eq_1 a0 a1);refine so func47 ntmps47 ?_;refine cOs (Yb.own (Ql a0 (sg u0))) ?_;refine cRs (jW a0 a1) ?_;have c1:=sl 2318336 a0.ZB u0;have w1:IntKind.i64.wrap ((a0.ZB.length:Int)-1)=(a0.ZB.length:Int)-1:=YZ zAD zAD;refine cFo f ?_ ?_<;>intro k1 h1 f
 ·have q1:=h1;try simp[w1,JS,Yd]at q1
  simp;exact rtO _ f
 have q1:=h1;try simp[w1,JS,Yd]at q1
 simp;refine dIo mixed ?_;have i1:=ik a1.toNat a0.ZB
 simp[i1,ZF];refine rpS ?_;refine cR (IK (nth a0.ZB a1.toNat) a0.Frame.Now (sg (Zn (ZG.Z5 u0)))) ?_;simp[i1,ZF];refine rpS ?_;exact rtO _ f
theorem IF(a0:List YJ)(a1:Int):Sa 246 [rL 4 YJ.row a0,rI a1] [rI (qd a0 a1)]:=by
 have f:=me (qd.eq_1 a0 a1);refine so func246 ntmps246 ?_;refine lp1 (js.eq_2 a0 a1) (fun J=>Yy 20 [eL 0 4 a0 YJ.row,eI 1 a1,eI 5 (J:Int)]) (fun n1 J=>a0.length<n1+J/\J<=a0.length) (a0.length+1) 0 (fun p1 J e1 j1=>?_);refine cFf e1 ?_ ?_<;>intro k2 h1 e1
 ·have i1:=ix h1;have m2:=ml a0 (k2 0 _ rfl);have w1:=wr J;simp[i1,ZF];refine rpS ?_;refine cF e1 ?_ ?_<;>intro k3 h2 e1
  ·exact rt [.tmp 4] (ms f e1)
  exact ny1 w1 e1
 exact rt [.tmp 4] (ms f e1)
theorem DJ(a0:List YJ)(a1:Int):Sa 182 [rL 4 YJ.row a0,rI a1] [rI (Md a0 a1)]:=by
 have f:=me (Md.eq_1 a0 a1);refine so func182 ntmps182 ?_;refine cRs (IF a0 a1) ?_;refine cFt f ?_ ?_<;>intro k1 h1 f
 ·exact rt [.tmp 4] f
 have i1:(qd a0 a1).toNat<a0.length:=by have:=IL a0 a1;exact il
 simp[i1,ZF];refine rpS ?_;exact rt [.tmp 4] f
theorem TY(a0:Zb)(a1:Int):Sa 114 [a0.row,rI a1] [rB (VZ a0 a1)]:=by
 have f:=me (VZ.eq_1 a0 a1);refine so func114 ntmps114 ?_;refine cRs (J9 a0.Z0 a1) ?_;refine dIs mixed ?_;refine gIf ?_ ?_<;>intro G
 ·have i1:(Ys a0.Z0 a1).toNat<a0.Z0.length:=by have:=KC a0.Z0 a1;exact il
  simp[i1,ZF,G];refine rpG ?_;refine cGg (fun gg=>DJ a0.Methods (nth a0.Z0 (Ys a0.Z0 a1).toNat).Method) ?_;exact rtg [.tmp 4] f
 ·refine sGo ?_;simp;refine rpG ?_;exact rtg [.tmp 4] f
theorem Hi(a0:ZG)(a1 a2:Int)(a3:ZW)(u0:Sm 2314240 a0)(u1:Sm 2314240 a3):Sd 48 [a0.row,rI a1,rI a2,a3.row] [(yZ a0 a1 a2 a3).1.row,rB (yZ a0 a1 a2 a3).2]:=by
 have f:=me (yZ.eq_1 a0 a1 a2 a3);refine soD func48 ntmps48 ?_;refine cDs [false,false,false,true,true,false,false,true,false,false,true,false] (Ql a0 (sg u0)) ?_;refine cRs (jW a0 a1) ?_;refine cGs (fun gg=>TY a0.Frame a2) ?_;have c1:=sl 2314240 a0.ZB (an u0 u1);have w1:IntKind.i64.wrap ((a0.ZB.length:Int)-1)=(a0.ZB.length:Int)-1:=YZ zAD zAD;refine cFo f ?_ ?_<;>intro k1 h1 f
 ·have q1:=h1;try simp[w1,JS,Yd]at q1
  simp;refine Ir (rv:=[.cell 8 33,.tmp 9]) rfl ?_;simp[f.h];all_goals((try simp only[q3,true_and]);(try(rintro r (⟨a,_,rfl⟩|rfl) x hx<;>simp at hx<;>subst hx<;>rfl)))
 have q1:=h1;try simp[w1,JS,Yd]at q1
 simp;refine cRs (Nd a0 a2 a3 0 10000 (sg u0) (sg u1)) ?_;refine cFo f ?_ ?_<;>intro k2 h2 f
 ·have q2:=h2;try simp at q2
  simp;refine Ir (rv:=[.cell 8 33,.tmp 9]) rfl ?_;simp[f.h];all_goals((try simp only[q3,true_and]);(try(rintro r (⟨a,_,rfl⟩|rfl) x hx<;>simp at hx<;>subst hx<;>rfl)))
 have q2:=h2;try simp at q2
 simp;refine dIo mixed ?_;have i1:=ik a1.toNat a0.ZB
 simp[i1,ZF];refine rpS ?_;refine cDs [] (SM (nth a0.ZB a1.toNat) (Qr a0 a2 a3 0 10000).1 zAg zAg) ?_;refine cFo f ?_ ?_<;>intro k4 h3 f
 ·have q3:=h3;try simp at q3
  simp;refine Ir (rv:=[.cell 8 33,.tmp 9]) rfl ?_;simp[f.h];all_goals((try simp only[q3,true_and]);(try(rintro r (⟨a,_,rfl⟩|rfl) x hx<;>simp at hx<;>subst hx<;>rfl)))
 have q3:=h3;try simp at q3
 simp[i1,ZF];refine rpS ?_;refine N4 (t:=16) (j:=7) (i:=a1.toNat) (size:=2) (rows:=a0.ZB.map ZE.row) (ds:=(Q7 (nth a0.ZB a1.toNat) (Qr a0 a2 a3 0 10000).1).1.row) (L:=[(46,1)]) ?_;have c2:=sl 2314240 a0.YN (an u0 u1)
 simp[Kh (x:=(Q7 (nth a0.ZB a1.toNat) (Qr a0 a2 a3 0 10000).1).1) rfl,c1,i1,ZF,XT];refine rpS ?_;refine Ir (rv:=[.cell 8 33,.tmp 9]) rfl ?_;simp[f.h];all_goals((try simp only[q3,true_and]);(try(rintro r (⟨a,_,rfl⟩|rfl) x hx<;>simp at hx<;>subst hx<;>rfl)))
theorem RC(a0:ZG)(u0:Sm 2330624 a0):Sd 115 [a0.row] [rL 1 iR (YP a0)]:=by
 have f:=me (YP.eq_1 a0);refine soD func115 ntmps115 ?_;refine lp2 (KM.eq_2 a0) (fun J U=>Yy 39 [eX 1 (a0.row.map .d),(3,.one (.sref 3 0 0 J.length),[.arr false 1 (J.map iR)]),eI 4 (U:Int)]) (fun n1 J U=>a0.Frame.ZD.length<n1+U/\U<=a0.Frame.ZD.length/\J.length<=0+1*U) (a0.Frame.ZD.length+1) ([]:List Int) 0 (fun p1 J U e1 j1=>?_) (h0:=wkS [((3,0),some (6,0))] []);refine cFf e1 ?_ ?_<;>intro k2 h1 e1
 ·have i1:=ix h1;have m2:=ml a0.Frame.ZD (k2 10 _ rfl);have c1:=sl 2330624 a0.Frame.ZD u0;have w1:=wr U;simp[i1,ZF];refine rpS ?_;refine cRs (Oa a0.Yg (nth a0.Frame.ZD U).Id) ?_;refine cGs (fun gg=>TY a0.Frame (nth a0.Frame.ZD U).Key) ?_;refine cF e1 ?_ ?_<;>intro k3 h2 e1
  ·exact nx2 e1 (hw:=XN [((3,0),some (37,0))] [] rfl zAe)
  exact ny2 w1 e1
 exact rtD [.tmp 2] (ms f e1)
theorem Jk(h:b)(k:a:=by(intros;first|omega|with_unfolding_all (first|first|omega|(have f0:0<=(ZJ a0 a1).1:=(by first|omega|(simp at*;omega));have fi:=XY a0 a1 f0;omega)|(have f0:0<=(ZJ a0 a1).1:=(by first|omega|(simp at*;omega));have fi:=XY a0 a1 f0;have ll:=qw (nth a0.ZB (ZJ a0 a1).1.toNat) (Zq a0.Frame.Methods a0.Frame.Now);omega)|(have fl:=Kf a0;have fm:=YX (Zb.XJ (ZG.Xk u0));(try dsimp only at*);omega))|((try simp only[Yw,show ∀x,IntKind.i64.wrap x=W x from fun _=>rfl]at*);omega))):a/\b:=⟨k,h⟩
theorem O0(a0:ZG)(a1 a2:Int)(u0:Sm 2310144 a0):Sd 49 [a0.row,rI a1,rI a2] [(Jb a0 a1 a2).1.row,rB (Jb a0 a1 a2).2]:=by
 have f:=me (Jb.eq_1 a0 a1 a2);refine soD func49 ntmps49 ?_;refine cDs [false,false,false,true,true,false,false,true,false,false,true,false] (Ql a0 (sg u0)) ?_;refine cRs (R5 a0 a1) ?_;refine cRs (jB a0.Frame.Methods a0.Frame.Now) ?_;refine cRs (Yb.rd (RC a0 (sg u0))) ?_;refine cGs (fun gg=>Oa a0.YN a1) ?_;refine cFt f ?_ ?_<;>intro k1 h1 f
 ·exact rtD [.cell 6 33,.tmp 7] f
 have i1:(ZJ a0 a1).1.toNat<a0.ZB.length:=zAU;simp[i1,ZF];repeat with_reducible refine Jk ?_
 refine cR (Yb.rd (VT (nth a0.ZB (ZJ a0 a1).1.toNat) (Zq a0.Frame.Methods a0.Frame.Now) (sg (Zn (ZG.Z5 u0))))) ?_;have i2:(ZJ a0 a1).2.toNat<(Yn (nth a0.ZB (ZJ a0 a1).1.toNat) (Zq a0.Frame.Methods a0.Frame.Now)).length:=zAU
 have i3:(ZJ a0 a1).2.toNat<(nth a0.ZB (ZJ a0 a1).1.toNat).ZC.length:=zAU;simp[i2,ZF,i1,i3];repeat with_reducible refine Jk ?_
 refine lp2 (QC.eq_2 a0 a1 a2) (fun J U=>Yy 140 [eI 2 a2,eX 3 (a0.row.map .d),(6,.one (.bptr 6 0),[.box [.nil 5,.nil 3,.nil 4,.d (.int .i64 0),.d (.int .i64 0),.nil 7,.nil 1,.nil 2,.nil 1,.nil 1,.d (.int .i64 0),.nil 1]]),(8,.one (.bptr 8 0),[.box [.sref 21 0 0 a0.Frame.Z0.length,.sref 21 1 0 a0.Frame.ZD.length,.sref 21 2 0 a0.Frame.Methods.length,.d (.int .i64 a0.Frame.XB),.d (.int .i64 a0.Frame.Now),.sref 21 5 0 a0.Zf.length,.sref 21 6 0 a0.Zy.length,.sref 21 7 0 a0.ZB.length,.sref 21 8 0 a0.Y9.length,.sref 21 9 0 a0.Yg.length,.d (.int .i64 a0.Next),.sref 21 11 0 a0.YN.length]]),eI 9 (ZJ a0 a1).1,eI 10 (ZJ a0 a1).2,eL 12 1 (YP a0) iR,eI 13 (nth (Yn (nth a0.ZB (ZJ a0 a1).1.toNat) (Zq a0.Frame.Methods a0.Frame.Now)) (ZJ a0 a1).2.toNat),(14,.one (.bptr 14 0),[.box [.d (.int .i64 ((nth (nth a0.ZB (ZJ a0 a1).1.toNat).ZC (ZJ a0 a1).2.toNat).ZK.ZM.length:Int)),.d (.int .i64 (Zq a0.Frame.Methods a0.Frame.Now)),.d (.int .i64 (nth (Yn (nth a0.ZB (ZJ a0 a1).1.toNat) (Zq a0.Frame.Methods a0.Frame.Now)) (ZJ a0 a1).2.toNat)),.nil 2,.sref 14 5 0 U.length],.none,.none,.none,.none,.arr false 5 (U.map Zm.row)]),eI 15 (J:Int),(21,.any,[.arr false 5 (a0.Frame.Z0.map Y6.row),.arr false 3 (a0.Frame.ZD.map Zo.row),.arr false 4 (a0.Frame.Methods.map YJ.row),.none,.none,.arr false 7 (a0.Zf.map YO.row),.arr false 1 (a0.Zy.map iR),.arr true 2 (a0.ZB.map ZE.row),.arr false 1 (a0.Y9.map iR),.arr false 1 (a0.Yg.map iR),.none,.arr false 1 (a0.YN.map iR)])]) (fun n1 J U=>(YP a0).length<n1+J/\J<=(YP a0).length/\U.length<=0+1*J) ((YP a0).length+1) 0 ([]:List Zm) (fun p1 J U e1 j1=>?_) (h0:=wkS [((14,5),none)] []);try dsimp only at j1
 refine cF e1 ?_ ?_<;>intro k3 h2 e1
 ·have i4:=ix h2;have m2:=ml (YP a0) (k3 12 _ rfl);have w1:=wr J;refine dIo mixed ?_;simp[i4,ZF];repeat with_reducible refine Jk ?_
  refine cRs (V6 a0.Frame.Z0 a0.Frame.ZD (Zm.mk (nth (YP a0) J) 0 a2 (nth (Yn (nth a0.ZB (ZJ a0 a1).1.toNat) (Zq a0.Frame.Methods a0.Frame.Now)) (ZJ a0 a1).2.toNat) 0) (sg (Zb.Xd (ZG.Xk u0))) (sg (Zb.XJ (ZG.Xk u0)))) ?_;refine cFt e1 ?_ ?_<;>intro k5 h3 e1
  ·exact rtD [.cell 6 33,.tmp 7] (ms f e1)
  simp;repeat with_reducible refine Jk ?_
  exact nx2 e1 (hw:=XN [((14,5),some (111,0))] [] rfl zAe)
 have f:=ms f e1;refine dIo mixed ?_;simp[i1,ZF,i3];repeat with_reducible refine Jk ?_
 refine cDs [] (Sw (nth (nth a0.ZB (ZJ a0 a1).1.toNat).ZC (ZJ a0 a1).2.toNat).ZK (Ze.mk ((nth (nth a0.ZB (ZJ a0 a1).1.toNat).ZC (ZJ a0 a1).2.toNat).ZK.ZM.length:Int) (Zq a0.Frame.Methods a0.Frame.Now) (nth (Yn (nth a0.ZB (ZJ a0 a1).1.toNat) (Zq a0.Frame.Methods a0.Frame.Now)) (ZJ a0 a1).2.toNat) ([]:List X4) U) zA1 zA1) ?_;refine drJ [] mixed ?_;simp[i1,ZF,i3];repeat with_reducible refine Jk ?_
 refine pS (t:=21) (j:=7) (i:=(ZJ a0 a1).1.toNat) (c:=1) (k':=(ZJ a0 a1).2.toNat) (q:=14) (n:=16) (size:=2) (s:=(nth a0.ZB (ZJ a0 a1).1.toNat).ZC.map ZR.row) (rows:=a0.ZB.map ZE.row) (ds:=(Qw (nth (nth a0.ZB (ZJ a0 a1).1.toNat).ZC (ZJ a0 a1).2.toNat).ZK (Ze.mk ((nth (nth a0.ZB (ZJ a0 a1).1.toNat).ZC (ZJ a0 a1).2.toNat).ZK.ZM.length:Int) (Zq a0.Frame.Methods a0.Frame.Now) (nth (Yn (nth a0.ZB (ZJ a0 a1).1.toNat) (Zq a0.Frame.Methods a0.Frame.Now)) (ZJ a0 a1).2.toNat) ([]:List X4) U)).1.row) (L:=[(125,0),(125,1)]) rfl rfl rfl rfl (by simp;rfl) zAG zAG (by simp[i1,i3]) (by simp[ZF,XT,i1,i3]) (by simp[i1,i3]) zAG zAG zAG zAG zAG zAG ?_;simp[Kh (x:=ZE.mk (nth a0.ZB (ZJ a0 a1).1.toNat).Id ((nth a0.ZB (ZJ a0 a1).1.toNat).ZC.set (ZJ a0 a1).2.toNat (ZR.mk (nth (nth a0.ZB (ZJ a0 a1).1.toNat).ZC (ZJ a0 a1).2.toNat).Id (nth (nth a0.ZB (ZJ a0 a1).1.toNat).ZC (ZJ a0 a1).2.toNat).XI (nth (nth a0.ZB (ZJ a0 a1).1.toNat).ZC (ZJ a0 a1).2.toNat).Doc (nth (nth a0.ZB (ZJ a0 a1).1.toNat).ZC (ZJ a0 a1).2.toNat).Sig (Qw (nth (nth a0.ZB (ZJ a0 a1).1.toNat).ZC (ZJ a0 a1).2.toNat).ZK (Ze.mk ((nth (nth a0.ZB (ZJ a0 a1).1.toNat).ZC (ZJ a0 a1).2.toNat).ZK.ZM.length:Int) (Zq a0.Frame.Methods a0.Frame.Now) (nth (Yn (nth a0.ZB (ZJ a0 a1).1.toNat) (Zq a0.Frame.Methods a0.Frame.Now)) (ZJ a0 a1).2.toNat) ([]:List X4) U)).1))) rfl,ZF,XT,i1,i3];repeat with_reducible refine Jk ?_
 exact rtD [.cell 6 33,.tmp 7] f
end Go.Proofs.YthecodaabaaaoaaGreat
