/- Contracts of the functions La the abstract machine, part S1. No condition. -/
import Derived.Test.YthecodaabaaaoaaGreatL
import Derived.Test.YthecodaabaaaoaaGreatTy
namespace Go.Proofs.YthecodaabaaaoaaGreat
open Tryz
open Go.Vm Go.Mo
set_option maxHeartbeats 1000000
set_option maxRecDepth 100000
set_option linter.unusedSimpArgs false
set_option linter.unusedVariables false
variable{a b:Prop}
theorem wY(a0:List UInt8):Mm prog 19 [rL 1 bR a0] (Vj a0).row:=by
 have f:=me (Vj.eq_1 a0);refine uu func19 rfl zAV ?_;simp[ntmps19];refine lp2 (Ms.eq_2 a0) (fun J U=>Yx 32 [eL 0 1 a0 bR,eI 3 J,eI 4 (U:Int)]) (fun n1 J U=>4000<n1+U) 4001 (W (193017+(a0.length:Int))) 0 (fun p1 J U e1 j1=>?_);refine cFf e1 ?_ ?_<;>intro k2 h1 e1
 ·have i1:U<a0.length:=zBw;have m2:=ml a0 (k2 0 _ rfl);have w1:=wr U;simp[i1,ZD];refine rpS ?_;exact ny2 w1 e1
 have f:=ms f e1;refine mc 31 (rv:=[.tmp 2]) rfl ?_;simp[f.h]
theorem Uw(a0:YI):xz prog 59 false a0.row [] (Yh a0).1.row [rI (Yh a0).2]:=by
 have f:=me (Yh.eq_1 a0);refine yX func59 rfl zAV (fun v=>?_);simp[ntmps59];refine dIs mixed ?_;refine dIs mixed ?_;refine cF f ?_ ?_<;>intro k3 h1 f
 ·refine okD fun k4=>?_;refine dIo mixed ?_;have i1:=ik a0.i a0.b
  simp[i1,ZD];refine rpS ?_;refine qQ (rv:=[.tmp 2]) rfl ?_;first|(have w0:=wr a0.i (by have z:=ml a0.b (k3 32 _ rfl);simp at h1;omega);simp[f.h,w0];done)|simp[f.h]
 refine qQ (rv:=[.tmp 2]) rfl ?_;first|(have w0:=wr a0.i (by have z:=ml a0.b (k3 32 _ rfl);simp at h1;omega);simp[f.h,w0];done)|simp[f.h]
theorem XD(a0:YI)(a1:Int):xz prog 21 false a0.row [rI a1] (ZJ a0 a1).1.row [rI (ZJ a0 a1).2]:=by
 have f:=me (ZJ.eq_1 a0 a1);refine yX func21 rfl zAV (fun v=>?_);simp[ntmps21];refine cF f ?_ ?_<;>intro k1 h1 f
 ·refine qQ (rv:=[.tmp 4]) rfl ?_;simp[f.h]
 refine cF f ?_ ?_<;>intro k2 h2 f
 ·refine cBs [] (Uw a0) ?_;refine qQ (rv:=[.tmp 4]) rfl ?_;simp[f.h]
 refine cBs [] (Uw a0) ?_;refine cBs [] (Uw (Yh a0).1) ?_;refine cBs [] (Uw (Yh (Yh a0).1).1) ?_;refine qQ (rv:=[.tmp 4]) rfl ?_;simp[f.h]
theorem FN(a0 a1:Int):Sa 54 [rI a0,rI a1] [rI (qB a0 a1)]:=by
 have f:=me (qB.eq_1 a0 a1);refine so func54 ntmps54 ?_;refine cF f ?_ ?_<;>intro k1 h1 f
 ·exact rt [.tmp 4] f
 exact rt [.tmp 4] f
theorem B4(a0 a1:Int):Sa 53 [rI a0,rI a1] [rI (W3 a0 a1)]:=by
 have f:=me (W3.eq_1 a0 a1);refine so func53 ntmps53 ?_;refine cF f ?_ ?_<;>intro k1 h1 f
 ·exact rt [.tmp 4] f
 exact rt [.tmp 4] f
theorem Ut:Sd 55 [] [rL 5 Y4.row yg]:=by
 have f:=me (yg.eq_1);refine soD func55 ntmps55 ?_;exact rtD [.tmp 0] f
theorem P2:Sd 56 [] [rL 3 Zi.row YU]:=by
 have f:=me (YU.eq_1);refine soD func56 ntmps56 ?_;exact rtD [.tmp 0] f
theorem Cq:Sd 57 [] [rL 4 YH.row kz]:=by
 have f:=me (kz.eq_1);refine soD func57 ntmps57 ?_;exact rtD [.tmp 0] f
theorem KU(a0:List Y4)(a1:Int):Sa 95 [rL 5 Y4.row a0,rI a1] [rI (Yk a0 a1)]:=by
 have f:=me (Yk.eq_1 a0 a1);refine so func95 ntmps95 ?_;refine lp1 (kC.eq_2 a0 a1) (fun J=>Yx 20 [eL 0 5 a0 Y4.row,eI 1 a1,eI 5 (J:Int)]) (fun n1 J=>a0.length<n1+J/\J<=a0.length) (a0.length+1) 0 (fun p1 J e1 j1=>?_);refine cFf e1 ?_ ?_<;>intro k2 h1 e1
 ·have i1:=ix h1;have m2:=ml a0 (k2 0 _ rfl);have w1:=wr J;simp[i1,ZD];refine rpS ?_;refine cF e1 ?_ ?_<;>intro k3 h2 e1
  ·exact rt [.tmp 4] (ms f e1)
  exact ny1 w1 e1
 exact rt [.tmp 4] (ms f e1)
theorem XC(a0 a1 a2:Int):Sa 94 [rI a0,rI a1,rI a2] [rB (Ye a0 a1 a2)]:=by
 have f:=me (Ye.eq_1 a0 a1 a2);refine so func94 ntmps94 ?_;exact rt [.tmp 6] f
theorem EE(a0:YN):Sa 257 [a0.row] [(WA a0).row]:=by
 have f:=me (WA.eq_1 a0);refine so func257 ntmps257 ?_;exact rt [.cell 2 60] f
theorem Wy(a0:Int):Sa 176 [rI a0] [rB (W2 a0)]:=by
 have f:=me (W2.eq_1 a0);refine so func176 ntmps176 ?_;refine cRs (XC a0 0 10000) ?_;exact rt [.tmp 2] f
theorem BS(a0:Ze):Sa 256 [a0.row] [rB (PI a0)]:=by
 have f:=me (PI.eq_1 a0);refine so func256 ntmps256 ?_;refine cRs (Wy a0.XH) ?_;refine cGs (fun gg=>Wy a0.To) ?_;exact rt [.tmp 2] f
theorem BO(a0:YN):Sa 196 [a0.row] [rB (PK a0)]:=by
 have f:=me (PK.eq_1 a0);refine so func196 ntmps196 ?_;refine cRs (XC a0.Za 1 999) ?_;refine cGs (fun gg=>XC a0.Key 1 99) ?_;refine cGs (fun gg=>XC a0.Z4 1 99) ?_;refine cGs (fun gg=>XC a0.jE 0 99) ?_;refine cGs (fun gg=>EE a0) ?_;refine cGs (fun gg=>BS (WA a0)) ?_;exact rt [.tmp 2] f
theorem OH(a0:YN):Sd 197 [a0.row] [rL 1 iR (yL a0)]:=by
 have f:=me (yL.eq_1 a0);refine soD func197 ntmps197 ?_;exact rtD [.tmp 2] f
theorem tj(a0 a1:Int):Sa 297 [rI a0,rI a1] [rI (C5 a0 a1)]:=by
 have f:=me (C5.eq_1 a0 a1);refine so func297 ntmps297 ?_;refine cRs (XC a1 1 1000000000000) ?_;refine cFo f ?_ ?_<;>intro k1 h1 f
 ·have q1:=h1;try simp[Ye]at q1
  simp;exact rt [.tmp 4] f
 have q1:=h1;try simp[Ye]at q1
 simp;refine rpS ?_;exact rt [.tmp 4] f
theorem El(a0:List Int):Sa 278 [rL 1 iR a0] [rI (Ma a0)]:=by
 have f:=me (Ma.eq_1 a0);refine so func278 ntmps278 ?_;refine lp2 (Rq.eq_2 a0) (fun J U=>Yx 22 [eL 0 1 a0 iR,eI 3 J,eI 4 (U:Int)]) (fun n1 J U=>a0.length<n1+U/\U<=a0.length) (a0.length+1) 11 0 (fun p1 J U e1 j1=>?_);refine cFf e1 ?_ ?_<;>intro k2 h1 e1
 ·have i1:=ix h1;have m2:=ml a0 (k2 0 _ rfl);have w1:=wr U;simp[i1,ZD];refine rpS ?_;refine cRs (tj (nth a0 U) 2147483647) ?_;exact ny2 w1 e1
 exact rt [.tmp 2] (ms f e1)
theorem Rb(a0:Int)(a1:List Int)(u0:Sm 2330624 a1):Sa 241 [rI a0,rL 1 iR a1] [rI (xE a0 a1)]:=by
 have f:=me (xE.eq_1 a0 a1);have c1:=sl 2330624 a1 u0;refine so func241 ntmps241 ?_;refine cRs (El ((([a0]:List Int)++a1)++([a0]:List Int))) ?_;exact rt [.tmp 4] f
theorem Wc(a0:Y4)(a1:List Int)(u0:Sm 2326528 a1):Sa 172 [a0.row,rL 1 iR a1] [rI (qH a0 a1)]:=by
 have f:=me (qH.eq_1 a0 a1);refine so func172 ntmps172 ?_;refine FI [2,3,4,5,6,0,1,7,8] mixed zAV zAV zAV ?_;have c1:=sl 2326528 a1 u0;simp;refine rpS ?_;refine cRs (Rb a0.PB (([a0.Method]:List Int)++a1) zAj) ?_;exact rt [.tmp 4] f
theorem Ug(a0:List Y4)(a1:YN)(u0:Sm 2322432 a0):Sa 122 [rL 5 Y4.row a0,a1.row] [(kA a0 a1).1.row,rB (kA a0 a1).2]:=by
 have f:=me (kA.eq_1 a0 a1);refine so func122 ntmps122 ?_;refine cRs (KU a0 a1.Z4) ?_;refine cRs (BO a1) ?_;refine cGs (fun gg=>KU a0 a1.Key) ?_;refine cF f ?_ ?_<;>intro k1 h1 f
 ·exact rt [.cell 4 124,.tmp 5] f
 refine dIo mixed ?_;have i1:(Yk a0 a1.Z4).toNat<a0.length:=by have:=KO a0 a1.Z4;exact il
 simp[i1,ZD];refine rpS ?_;refine cRs (Yg.rd (OH a1)) ?_;refine cRs (Wc (nth a0 (Yk a0 a1.Z4).toNat) (yL a1) (by simp(maxDischargeDepth:=12) [OX,ZQ (m:=2326528) zAD u0];try omega)) ?_;exact rt [.cell 4 124,.tmp 5] f
theorem CO:Sd 58 [] [rL 7 YN.row kE]:=by
 have f:=me (kE.eq_1);refine soD func58 ntmps58 ?_;refine cRs (Yg.rd (Ut)) ?_;refine cRs (Ug yg (YN.mk 1 11 1 0 60 1 0) zBd) ?_;refine cRs (Yg.rd (Ut)) ?_;refine cRs (Ug yg (YN.mk 2 12 1 20 100 1 0) zBd) ?_;refine cRs (Yg.rd (Ut)) ?_;refine cRs (Ug yg (YN.mk 3 13 2 40 150 2 0) zBd) ?_;exact rtD [.tmp 0] f
theorem EW(a0:Int):Sd 20 [rI a0] [(QH a0).row]:=by
 have f:=me (QH.eq_1 a0);refine soD func20 ntmps20 ?_;refine cRs (FN 0 a0) ?_;refine cRs (B4 1 (qB 0 a0)) ?_;refine cDs [false] (Ut) ?_;refine cDs [false] (P2) ?_;refine cDs [false] (Cq) ?_;refine cDs [false] (CO) ?_;refine vS (news:=([ZE.mk 0 ([]:List ZN),ZE.mk 1 ([]:List ZN)]:List ZE).map ZE.row) (L:=[]) rfl rfl rfl rfl zAE zAE zAE zAE zAE zAE ?_;simp;refine cF f ?_ ?_<;>intro k1 h1 f
 ·exact rtD _ f
 exact rtD _ f
theorem BU(a0:YI)(a1:Int):xz prog 60 false a0.row [rI a1] (YE a0 a1).1.row [rB (YE a0 a1).2]:=by
 have f:=me (YE.eq_1 a0 a1);refine yX func60 rfl zAV (fun v=>?_);simp[ntmps60];refine cBs [] (XD a0 a1) ?_;refine qQ (rv:=[.tmp 4]) rfl ?_;simp[f.h]
theorem Aw(h:b)(k:a:=by(intros;first|omega|with_unfolding_all (first|first|omega|(have z:=Qw a0 (a1.length:Int);omega))|((try simp only[Y0,show ∀x,IntKind.i64.wrap x=W x from fun _=>rfl]at*);omega))):a/\b:=⟨k,h⟩
theorem KF(a0:YI)(a1:List Int)(u0:0<a1.length):xz prog 123 false a0.row [rL 1 iR a1] (YB a0 a1).1.row [rI (YB a0 a1).2]:=by
 have f:=me (YB.eq_1 a0 a1);refine yX func123 rfl zAV (fun v=>?_);simp[ntmps123];refine cBo [] (XD a0 (a1.length:Int)) ?_;have i1:(ZJ a0 (a1.length:Int)).2.toNat<a1.length:=by(have z:=Qw a0 (a1.length:Int);omega)
 simp[i1,ZD];repeat with_reducible refine Aw ?_
 refine qQ (rv:=[.tmp 4]) rfl ?_;simp[f.h]
theorem wJ(h:b)(k:a:=by(intros;first|omega|with_unfolding_all (first|first|omega|(have z:=Qw a0 (a1.length:Int);omega))|((try simp only[Y0,show ∀x,IntKind.i64.wrap x=W x from fun _=>rfl]at*);omega))):a/\b:=⟨k,h⟩
theorem wT(a0:YI)(a1:List ByteArray)(u0:0<a1.length):xz prog 258 false a0.row [rL 1 sR a1] (Pm a0 a1).1.row [rS (Pm a0 a1).2]:=by
 have f:=me (Pm.eq_1 a0 a1);refine yX func258 rfl zAV (fun v=>?_);simp[ntmps258];refine cBo [] (XD a0 (a1.length:Int)) ?_;have i1:(ZJ a0 (a1.length:Int)).2.toNat<a1.length:=by(have z:=Qw a0 (a1.length:Int);omega)
 simp[i1,ZD];repeat with_reducible refine wJ ?_
 refine qQ (rv:=[.tmp 4]) rfl ?_;simp[f.h]
theorem Ba(a0:YI):xz prog 198 false a0.row [] (y7 a0).1.row [rS (y7 a0).2]:=by
 have f:=me (y7.eq_1 a0);refine yX func198 rfl zAV (fun v=>?_);simp[ntmps198];refine TM [(4,0)] rfl zAE ?_;refine cBs [] (wT a0 ([(⟨#[]⟩:ByteArray),(⟨#[97]⟩:ByteArray),(⟨#[98]⟩:ByteArray),(⟨#[97,98]⟩:ByteArray),(⟨#[121,101,115]⟩:ByteArray),(⟨#[110,111]⟩:ByteArray),(⟨#[111,110,101,32,104,117,110,100,114,101,100]⟩:ByteArray)]:List ByteArray) zAX) ?_;refine qQ (rv:=[.tmp 2]) rfl ?_;simp[f.h]
theorem VK(a0:ZR):Sa 237 [a0.row] [rB (K7 a0)]:=by
 have f:=me (K7.eq_1 a0);refine so func237 ntmps237 ?_;refine lp1 (y5.eq_2 a0) (fun J=>Yx 51 [eX 1 (a0.row.map .d),eI 3 (J:Int)]) (fun n1 J=>a0.Xw.length<n1+J/\J<=a0.Xw.length) (a0.Xw.length+1) 0 (fun p1 J e1 j1=>?_);refine cFf e1 ?_ ?_<;>intro k2 h1 e1
 ·have i1:=ix h1;have m2:=ml a0.Xw (k2 7 _ rfl);have w1:=wr J;simp[i1,ZD];refine rpS ?_;refine cF e1 ?_ ?_<;>intro k3 h2 e1
  ·exact rt [.tmp 2] (ms f e1)
  exact ny1 w1 e1
 have f:=ms f e1;refine lp1 (ym.eq_2 a0) (fun iF=>Yx 51 [eX 1 (a0.row.map .d),eI 4 (iF:Int)]) (fun n2 iF=>a0.KZ.length<n2+iF/\iF<=a0.KZ.length) (a0.KZ.length+1) 0 (fun p2 iF e2 j2=>?_);refine cFf e2 ?_ ?_<;>intro k5 h3 e2
 ·have i2:=ix h3;have m4:=ml a0.KZ (k5 21 _ rfl);have w2:=wr iF;simp[i2,ZD];refine rpS ?_;refine cRs (XC (nth a0.KZ iF) 1 1000000000000) ?_;refine cFo e2 ?_ ?_<;>intro k6 h4 e2
  ·have q4:=h4;try simp[Ye]at q4
   have f:=ms f e2;simp;exact rt [.tmp 2] f
  have q4:=h4;try simp[Ye]at q4
  simp;exact ny1 w2 e2
 have f:=ms f e2;refine cRs (XC a0.UN 0 999) ?_;refine cGs (fun gg=>XC (a0.Xw.length:Int) 1 6) ?_;exact rt [.tmp 2] f
theorem Ic(a0:Int):Sa 259 [rI a0] [rB (kZ a0)]:=by
 have f:=me (kZ.eq_1 a0);refine so func259 ntmps259 ?_;refine cRs (XC a0 1 2147483646) ?_;exact rt [.tmp 2] f
theorem NV(a0:Int)(a1:List ByteArray)(a2:Int)(u0:Sm 2326528 a1):Sd 199 [rI a0,rL 1 sR a1,rI a2] [(yd a0 a1 a2).1.row,rB (yd a0 a1 a2).2]:=by
 have f:=me (yd.eq_1 a0 a1 a2);have c1:=sl 2326528 a1 u0;refine soD func199 ntmps199 ?_;refine lp2 (yj.eq_2 a0 a1 a2) (fun J U=>Yx 42 [eI 0 a0,eL 1 1 a1 sR,eI 2 a2,(6,.one (.bptr 6 0),[.box [.d (.int .i64 0),.nil 1,.nil 1]]),(8,.one (.bptr 8 0),[.box [.d (.int .i64 a0),.sref 13 0 0 a1.length,.sref 8 3 0 U.length],.none,.none,.arr false 1 (U.map iR)]),eI 9 (J:Int),(13,.any,[.arr false 1 (a1.map sR)])]) (fun n1 J U=>a1.length<n1+J/\J<=a1.length/\U.length<=0+1*J) (a1.length+1) 0 ([]:List Int) (fun p1 J U e1 j1=>?_) (h0:=wkS [((8,3),none)] []);refine cF e1 ?_ ?_<;>intro k2 h1 e1
 ·have i1:=ix h1;have m2:=ml a1 (k2 1 _ rfl);have w1:=wr J;refine dIs mixed ?_;refine cRs (Rb a2 ([a0,(J:Int)]:List Int) (by simp(maxDischargeDepth:=12) [SA,XM,ZQ (m:=2330624) zAD u0];try omega)) ?_;refine cRs (FN 1 (xE a2 ([a0,(J:Int)]:List Int))) ?_;exact nx2 e1 (hw:=XO [((8,3),some (30,0))] [] rfl zAd)
 have f:=ms f e1;refine cRs (VK (ZR.mk a0 a1 U)) ?_;refine cGs (fun gg=>Ic a2) ?_;refine cF f ?_ ?_<;>intro k4 h2 f
 ·exact rtD [.cell 6 44,.tmp 7] f
 exact rtD [.cell 6 44,.tmp 7] f
theorem TC(a0:YI):xz prog 124 true a0.row [] (X1 a0).1.row [(X1 a0).2.row]:=by
 have f:=me (X1.eq_1 a0);refine yX func124 rfl zAV (fun v=>?_);simp[ntmps124];refine cBs [] (XD a0 3) ?_;refine lp5 (WJ.eq_2) (fun J U iD iG iP=>Yx 28 [(0,.fix v (.one (.bptr 0 0)),[.box [.d (.sl 1 (iD.map bR)),.d (.int .i64 (iG:Int)),.d (.int .i64 iP)]]),(2,.one (.bptr 2 0),[.box [.d (.int .i64 0),.nil 1,.nil 1]]),(3,.one (.sref 3 0 0 J.length),[.arr false 1 (J.map sR)]),eI 4 U]) (fun n1 J U iD iG iP=>U+1<=(n1:Int)/\0<=U/\(J.length:Int)+U<=3/\(∀x∈J,x.size<=11)) 5 ([]:List ByteArray) (W (1+(ZJ a0 3).2)) (ZJ a0 3).1.b (ZJ a0 3).1.i (ZJ a0 3).1.h (fun p1 J U iD iG iP e1 j1=>?_) (hI:=by(have z:=Qw a0 3;(try dsimp only);simp only[Y0,List.length_nil];refine⟨zAA,zAA,zAA,zAA,fun x h=>by cases h⟩)) (h0:=wkS [((3,0),some (7,0))] []);try dsimp only at j1
 refine cF e1 ?_ ?_<;>intro k2 h1 e1
 ·refine cBs [] (Ba (YI.mk iD iG iP)) ?_;exact nx5 e1 (hI:=by(have hh:=h1;simp at hh;(try dsimp only);simp only[Y0,List.length_append,List.length_singleton];refine⟨zAA,zAA,zAA,zAA,fun x hx=>?_⟩;rcases List.mem_append.1 hx with hx|hx;exact j1.2.2.2.2 x hx;simp at hx;rw[hx];exact Oa _)) (hw:=wkS [((3,0),some (19,0))] [])
 have f:=ms f e1;refine cBs [] (XD (YI.mk iD iG iP) 5) ?_;refine cDs [true,false,false] (NV (ZJ (YI.mk iD iG iP) 5).2 J 11 (by(exact⟨zAA,fun x hx=>Nat.le_trans (j1.2.2.2.2 x hx) zAD⟩))) ?_;refine qQ (rv:=[.cell 2 44]) rfl ?_;simp[f.h]
theorem Tt(a0:YI)(a1:Int):xz prog 125 true a0.row [rI a1] (Xa a0 a1).1.row [(Xa a0 a1).2.row]:=by
 have f:=me (Xa.eq_1 a0 a1);refine yX func125 rfl zAV (fun v=>?_);simp[ntmps125];refine TM [(7,0)] rfl zAE ?_;refine cBs [] (KF a0 ([0,-10,40]:List Int) zAX) ?_;refine cF f ?_ ?_<;>intro k1 h1 f
 ·refine cF f ?_ ?_<;>intro k2 h2 f
  ·refine cF f ?_ ?_<;>intro k3 h3 f
   ·refine qQ (rv:=[.cell 4 67]) rfl ?_;simp[f.h]
   refine qQ (rv:=[.cell 4 67]) rfl ?_;simp[f.h]
  refine cF f ?_ ?_<;>intro k4 h4 f
  ·refine qQ (rv:=[.cell 4 67]) rfl ?_;simp[f.h]
  refine qQ (rv:=[.cell 4 67]) rfl ?_;simp[f.h]
 refine cF f ?_ ?_<;>intro k5 h5 f
 ·refine cF f ?_ ?_<;>intro k6 h6 f
  ·refine qQ (rv:=[.cell 4 67]) rfl ?_;simp[f.h]
  refine qQ (rv:=[.cell 4 67]) rfl ?_;simp[f.h]
 refine cF f ?_ ?_<;>intro k7 h7 f
 ·refine qQ (rv:=[.cell 4 67]) rfl ?_;simp[f.h]
 refine qQ (rv:=[.cell 4 67]) rfl ?_;simp[f.h]
theorem Ij(a0:YI):xz prog 61 true a0.row [] (Z5 a0).1.row [rL 9 Zx.row (Z5 a0).2]:=by
 have f:=me (Z5.eq_1 a0);refine yX func61 rfl zAV (fun v=>?_);simp[ntmps61];refine TM [(6,0)] rfl zAE ?_;refine cBs [] (KF a0 ([11,12]:List Int) zAX) ?_;refine cBs [] (TC (YB a0 ([11,12]:List Int)).1) ?_;refine vS (news:=([Zx.mk 1 22 0 0 0 (ZR.mk 0 ([]:List ByteArray) ([]:List Int)) ([]:List Int),Zx.mk 2 0 (YB a0 ([11,12]:List Int)).2 0 10000 (X1 (YB a0 ([11,12]:List Int)).1).2 ([]:List Int),Zx.mk 1 3 0 0 0 (ZR.mk 0 ([]:List ByteArray) ([]:List Int)) ([]:List Int),Zx.mk 3 1 0 0 0 (ZR.mk 0 ([]:List ByteArray) ([]:List Int)) ([]:List Int)]:List Zx).map Zx.row) (L:=[(9,1),(9,2)]) rfl rfl rfl rfl zAE zAE zAE zAE zAE zAE ?_;simp;refine cBs [] (Tt (X1 (YB a0 ([11,12]:List Int)).1).1 25) ?_;refine kI ?_;simp;refine WV (iJ:=([Zx.mk 1 22 0 0 0 (ZR.mk 0 ([]:List ByteArray) ([]:List Int)) ([]:List Int),Zx.mk 2 0 (YB a0 ([11,12]:List Int)).2 0 10000 (X1 (YB a0 ([11,12]:List Int)).1).2 ([]:List Int),Zx.mk 1 3 0 0 0 (ZR.mk 0 ([]:List ByteArray) ([]:List Int)) ([]:List Int),Zx.mk 3 1 0 0 0 (ZR.mk 0 ([]:List ByteArray) ([]:List Int)) ([]:List Int)]:List Zx).map Zx.row) (news:=([(Xa (X1 (YB a0 ([11,12]:List Int)).1).1 25).2,Zx.mk 1 18 0 0 0 (ZR.mk 0 ([]:List ByteArray) ([]:List Int)) ([]:List Int)]:List Zx).map Zx.row) (l1:=[(13,0)]) (l2:=[(16,6),(16,7),(16,8)]) (size:=9) ?_;simp;refine cBs [] (Tt (Xa (X1 (YB a0 ([11,12]:List Int)).1).1 25).1 43) ?_;refine kI ?_;simp;refine WV (iJ:=(([Zx.mk 1 22 0 0 0 (ZR.mk 0 ([]:List ByteArray) ([]:List Int)) ([]:List Int),Zx.mk 2 0 (YB a0 ([11,12]:List Int)).2 0 10000 (X1 (YB a0 ([11,12]:List Int)).1).2 ([]:List Int),Zx.mk 1 3 0 0 0 (ZR.mk 0 ([]:List ByteArray) ([]:List Int)) ([]:List Int),Zx.mk 3 1 0 0 0 (ZR.mk 0 ([]:List ByteArray) ([]:List Int)) ([]:List Int)]:List Zx)++([(Xa (X1 (YB a0 ([11,12]:List Int)).1).1 25).2,Zx.mk 1 18 0 0 0 (ZR.mk 0 ([]:List ByteArray) ([]:List Int)) ([]:List Int)]:List Zx)).map Zx.row) (news:=([(Xa (Xa (X1 (YB a0 ([11,12]:List Int)).1).1 25).1 43).2,Zx.mk 1 22 0 0 0 (ZR.mk 0 ([]:List ByteArray) ([]:List Int)) ([]:List Int)]:List Zx).map Zx.row) (l1:=[(19,0)]) (l2:=[(22,6),(22,7),(22,8)]) (size:=9) ?_;simp;refine cBs [] (Tt (Xa (Xa (X1 (YB a0 ([11,12]:List Int)).1).1 25).1 43).1 65) ?_;refine kI ?_;simp;refine WV (iJ:=((([Zx.mk 1 22 0 0 0 (ZR.mk 0 ([]:List ByteArray) ([]:List Int)) ([]:List Int),Zx.mk 2 0 (YB a0 ([11,12]:List Int)).2 0 10000 (X1 (YB a0 ([11,12]:List Int)).1).2 ([]:List Int),Zx.mk 1 3 0 0 0 (ZR.mk 0 ([]:List ByteArray) ([]:List Int)) ([]:List Int),Zx.mk 3 1 0 0 0 (ZR.mk 0 ([]:List ByteArray) ([]:List Int)) ([]:List Int)]:List Zx)++([(Xa (X1 (YB a0 ([11,12]:List Int)).1).1 25).2,Zx.mk 1 18 0 0 0 (ZR.mk 0 ([]:List ByteArray) ([]:List Int)) ([]:List Int)]:List Zx))++([(Xa (Xa (X1 (YB a0 ([11,12]:List Int)).1).1 25).1 43).2,Zx.mk 1 22 0 0 0 (ZR.mk 0 ([]:List ByteArray) ([]:List Int)) ([]:List Int)]:List Zx)).map Zx.row) (news:=([(Xa (Xa (Xa (X1 (YB a0 ([11,12]:List Int)).1).1 25).1 43).1 65).2,Zx.mk 1 20 0 0 0 (ZR.mk 0 ([]:List ByteArray) ([]:List Int)) ([]:List Int)]:List Zx).map Zx.row) (l1:=[(25,0)]) (l2:=[(28,6),(28,7),(28,8)]) (size:=9) ?_;simp;refine qQ (rv:=[.tmp 2]) rfl ?_;simp[f.h]
theorem F8(h:b)(k:a:=by(intros;first|omega|with_unfolding_all (first|first|omega|(have z:=Qw (YB (ZJ (ZJ a0 16).1 2).1 ([0,(-10),40]:List Int)).1 3;omega))|((try simp only[Y0,show ∀x,IntKind.i64.wrap x=W x from fun _=>rfl]at*);omega))):a/\b:=⟨k,h⟩
theorem OM(a0:YI):xz prog 62 false a0.row [] (Xq a0).1.row [(Xq a0).2.row]:=by
 have f:=me (Xq.eq_1 a0);refine yX func62 rfl zAV (fun v=>?_);simp[ntmps62];refine cBs [] (XD a0 16) ?_;refine cF f ?_ ?_<;>intro k1 h1 f
 ·refine cY h1 ?_;refine TM [(10,0)] rfl zAE ?_;refine cBs [] (KF (ZJ a0 16).1 ([1,5,10,20,30]:List Int) zAX) ?_;refine qQ (rv:=[.cell 2 67]) rfl ?_;simp[f.h]
 refine cF f ?_ ?_<;>intro k2 h2 f
 ·refine cY h2 ?_;refine TM [(10,0)] rfl zAE ?_;refine cBs [] (KF (ZJ a0 16).1 ([1,5,10,20,30]:List Int) zAX) ?_;refine qQ (rv:=[.cell 2 67]) rfl ?_;simp[f.h]
 refine cF f ?_ ?_<;>intro k3 h3 f
 ·refine TM [(10,0)] rfl zAE ?_;refine cBs [] (KF (ZJ a0 16).1 ([1,5,10,20,30]:List Int) zAX) ?_;refine qQ (rv:=[.cell 2 67]) rfl ?_;simp[f.h]
 refine cF f ?_ ?_<;>intro k4 h4 f
 ·refine cY h4 ?_;refine cBs [] (XD (ZJ a0 16).1 2) ?_;refine TM [(19,0)] rfl zAE ?_;refine cBs [] (KF (ZJ (ZJ a0 16).1 2).1 ([11,12,13]:List Int) zAX) ?_;refine TM [(22,0)] rfl zAE ?_;refine cBs [] (KF (YB (ZJ (ZJ a0 16).1 2).1 ([11,12,13]:List Int)).1 ([30,10000]:List Int) zAX) ?_;refine cBs [] (TC (YB (YB (ZJ (ZJ a0 16).1 2).1 ([11,12,13]:List Int)).1 ([30,10000]:List Int)).1) ?_;refine qQ (rv:=[.cell 2 67]) rfl ?_;simp[f.h]
 refine cF f ?_ ?_<;>intro k5 h5 f
 ·refine cBs [] (XD (ZJ a0 16).1 2) ?_;refine TM [(19,0)] rfl zAE ?_;refine cBs [] (KF (ZJ (ZJ a0 16).1 2).1 ([11,12,13]:List Int) zAX) ?_;refine TM [(22,0)] rfl zAE ?_;refine cBs [] (KF (YB (ZJ (ZJ a0 16).1 2).1 ([11,12,13]:List Int)).1 ([30,10000]:List Int) zAX) ?_;refine cBs [] (TC (YB (YB (ZJ (ZJ a0 16).1 2).1 ([11,12,13]:List Int)).1 ([30,10000]:List Int)).1) ?_;refine qQ (rv:=[.cell 2 67]) rfl ?_;simp[f.h]
 refine cF f ?_ ?_<;>intro k6 h6 f
 ·refine cY h6 ?_;refine cBs [] (XD (ZJ a0 16).1 3) ?_;refine qQ (rv:=[.cell 2 67]) rfl ?_;simp[f.h]
 refine cF f ?_ ?_<;>intro k7 h7 f
 ·refine cBs [] (XD (ZJ a0 16).1 3) ?_;refine qQ (rv:=[.cell 2 67]) rfl ?_;simp[f.h]
 refine cF f ?_ ?_<;>intro k8 h8 f
 ·refine cBs [] (XD (ZJ a0 16).1 3) ?_;refine qQ (rv:=[.cell 2 67]) rfl ?_;simp[f.h]
 refine cF f ?_ ?_<;>intro k9 h9 f
 ·refine cBs [] (XD (ZJ a0 16).1 2) ?_;refine cBs [] (XD (ZJ (ZJ a0 16).1 2).1 2) ?_;refine cBs [] (XD (ZJ (ZJ (ZJ a0 16).1 2).1 2).1 3) ?_;refine qQ (rv:=[.cell 2 67]) rfl ?_;simp[f.h]
 refine cF f ?_ ?_<;>intro aZ cA f
 ·refine cBs [] (XD (ZJ a0 16).1 2) ?_;refine qQ (rv:=[.cell 2 67]) rfl ?_;simp[f.h]
 refine cF f ?_ ?_<;>intro k11 h11 f
 ·refine cBs [] (XD (ZJ a0 16).1 2) ?_;refine TM [(59,0)] rfl zAE ?_;refine cBs [] (KF (ZJ (ZJ a0 16).1 2).1 ([11,12]:List Int) zAX) ?_;refine cBs [] (TC (YB (ZJ (ZJ a0 16).1 2).1 ([11,12]:List Int)).1) ?_;refine qQ (rv:=[.cell 2 67]) rfl ?_;simp[f.h]
 refine cF f ?_ ?_<;>intro k12 h12 f
 ·refine cBs [] (XD (ZJ a0 16).1 4) ?_;refine TM [(70,0)] rfl zAE ?_;refine cBs [] (KF (ZJ (ZJ a0 16).1 4).1 ([5,25,60]:List Int) zAX) ?_;refine qQ (rv:=[.cell 2 67]) rfl ?_;simp[f.h]
 refine cF f ?_ ?_<;>intro aY h13 f
 ·refine cBs [] (XD (ZJ a0 16).1 3) ?_;refine TM [(79,0)] rfl zAE ?_;refine cBs [] (KF (ZJ (ZJ a0 16).1 3).1 ([10,40,60]:List Int) zAX) ?_;refine qQ (rv:=[.cell 2 67]) rfl ?_;simp[f.h]
 refine cBs [] (XD (ZJ a0 16).1 2) ?_;refine TM [(85,0)] rfl zAE ?_;refine cBs [] (KF (ZJ (ZJ a0 16).1 2).1 ([0,-10,40]:List Int) zAX) ?_;refine cBo [] (XD (YB (ZJ (ZJ a0 16).1 2).1 ([0,-10,40]:List Int)).1 3) ?_;simp;repeat with_reducible refine F8 ?_
 refine qQ (rv:=[.cell 2 67]) rfl ?_;simp[f.h]
theorem V3(h:b)(k:a:=by(intros;first|omega|with_unfolding_all (first|first|omega|(have z:=Qw (Z5 (YE a0 2).1).1 (W (((Z5 (YE a0 2).1).2.length:Int)+1));have z3:=zO (YE a0 2).1;simp only[Y0]at*;omega))|((try simp only[Y0,show ∀x,IntKind.i64.wrap x=W x from fun _=>rfl]at*);omega))):a/\b:=⟨k,h⟩
theorem Hy(a0:YI)(a1:Int):xz prog 22 false a0.row [rI a1] (j8 a0 a1).1.row [rL 9 Zx.row (j8 a0 a1).2]:=by
 have f:=me (j8.eq_1 a0 a1);refine yX func22 rfl zAV (fun v=>?_);simp[ntmps22];refine eIs ?_;refine cBs [] (BU a0 2) ?_;refine cF f ?_ ?_<;>intro k1 h1 f
 ·refine cBs [] (Ij (YE a0 2).1) ?_;refine cBo [] (XD (Z5 (YE a0 2).1).1 (W (((Z5 (YE a0 2).1).2.length:Int)+1))) ?_;simp;repeat with_reducible refine V3 ?_
  refine cBs [] (XD (ZJ (Z5 (YE a0 2).1).1 (W (((Z5 (YE a0 2).1).2.length:Int)+1))).1 a1) ?_;refine lp5 (zE.eq_2) (fun J U iD iG iP=>Yx 32 [(0,.fix v (.one (.bptr 0 0)),[.box [.d (.sl 1 (iD.map bR)),.d (.int .i64 (iG:Int)),.d (.int .i64 iP)]]),(5,.one (.sref 5 0 0 J.length),[.arr false 9 (J.map Zx.row)]),eI 6 U]) (fun n1 J U iD iG iP=>U+1<=(n1:Int)/\0<=U/\(J.length:Int)+U<=16777300) ((ZJ (ZJ (Z5 (YE a0 2).1).1 (W (((Z5 (YE a0 2).1).2.length:Int)+1))).1 a1).2.toNat+2) ((Z5 (YE a0 2).1).2.take (ZJ (Z5 (YE a0 2).1).1 (W (((Z5 (YE a0 2).1).2.length:Int)+1))).2.toNat) (ZJ (ZJ (Z5 (YE a0 2).1).1 (W (((Z5 (YE a0 2).1).2.length:Int)+1))).1 a1).2 (ZJ (ZJ (Z5 (YE a0 2).1).1 (W (((Z5 (YE a0 2).1).2.length:Int)+1))).1 a1).1.b (ZJ (ZJ (Z5 (YE a0 2).1).1 (W (((Z5 (YE a0 2).1).2.length:Int)+1))).1 a1).1.i (ZJ (ZJ (Z5 (YE a0 2).1).1 (W (((Z5 (YE a0 2).1).2.length:Int)+1))).1 a1).1.h (fun p1 J U iD iG iP e1 j1=>?_) (hI:=by(have z:=Qw (ZJ (Z5 (YE a0 2).1).1 (W (((Z5 (YE a0 2).1).2.length:Int)+1))).1 a1;have z2:=NW (ZJ (Z5 (YE a0 2).1).1 (W (((Z5 (YE a0 2).1).2.length:Int)+1))).1 a1;(try dsimp only);first|(simp only[List.length_nil];omega)|(have z3:=zO (YE a0 2).1;simp only[List.length_take];omega))) (h0:=mM (qq:=true) prog false (d:=5) (u:=11) (j:=0) (n:=(ZJ (Z5 (YE a0 2).1).1 (W (((Z5 (YE a0 2).1).2.length:Int)+1))).2.toNat) (size:=9) (rows:=(Z5 (YE a0 2).1).2.map Zx.row) zAE zAE (by simp;first|omega|(have z:=Qw (Z5 (YE a0 2).1).1 (W (((Z5 (YE a0 2).1).2.length:Int)+1));have z3:=zO (YE a0 2).1;simp only[Y0]at*;omega)) zAE zAE (Kl zAE));try dsimp only at j1
  refine cF e1 ?_ ?_<;>intro k3 h2 e1
  ·refine cBs [] (OM (YI.mk iD iG iP)) ?_;refine eIs ?_;refine evI rfl rfl rfl ?_;simp;repeat with_reducible refine V3 ?_
   exact nx5 e1 (hI:=by(have hh:=h2;simp at hh;simp only[Y0];(try dsimp only);simp only[List.length_append,List.length_cons,List.length_nil];omega)) (hw:=wkS [((5,0),some (30,0))] [])
  have f:=ms f e1;refine qQ (rv:=[.tmp 4]) rfl ?_;simp[f.h]
 refine cBs [] (XD (YE a0 2).1 a1) ?_;refine lp5 (zF.eq_2) (fun iF iI gq gv dB=>Yx 32 [(0,.fix v (.one (.bptr 0 0)),[.box [.d (.sl 1 (gq.map bR)),.d (.int .i64 (gv:Int)),.d (.int .i64 dB)]]),(5,.one (.sref 5 0 0 iF.length),[.arr false 9 (iF.map Zx.row)]),eI 6 iI]) (fun n2 iF iI gq gv dB=>iI+1<=(n2:Int)/\0<=iI/\(iF.length:Int)+iI<=16777300) ((ZJ (YE a0 2).1 a1).2.toNat+2) ([]:List Zx) (ZJ (YE a0 2).1 a1).2 (ZJ (YE a0 2).1 a1).1.b (ZJ (YE a0 2).1 a1).1.i (ZJ (YE a0 2).1 a1).1.h (fun p2 iF iI gq gv dB e2 j2=>?_) (hI:=by(have z:=Qw (YE a0 2).1 a1;have z2:=NW (YE a0 2).1 a1;(try dsimp only);first|(simp only[List.length_nil];omega)|(have z3:=zO (YE a0 2).1;simp only[List.length_take];omega))) (h0:=wkS [((5,0),some (7,0))] []);try dsimp only at j2
 refine cF e2 ?_ ?_<;>intro k5 h3 e2
 ·refine cBs [] (OM (YI.mk gq gv dB)) ?_;refine eIs ?_;refine evI rfl rfl rfl ?_;simp;repeat with_reducible refine V3 ?_
  exact nx5 e2 (hI:=by(have hh:=h3;simp at hh;simp only[Y0];(try dsimp only);simp only[List.length_append,List.length_cons,List.length_nil];omega)) (hw:=wkS [((5,0),some (30,0))] [])
 have f:=ms f e2;refine qQ (rv:=[.tmp 4]) rfl ?_;simp[f.h]
theorem NK(a0:List UInt8):Sa 6 [rL 1 bR a0] [(ZP a0).1.row,rL 9 Zx.row (ZP a0).2]:=by
 have f:=me (ZP.eq_1 a0);refine so func6 ntmps6 ?_;refine cNs (wY a0) ?_;refine cBs [] (XD (Vj a0) 2) ?_;refine cDs [false,false,false,true,true,false,false,true,false,false,true,false] (EW (ZJ (Vj a0) 2).2) ?_;refine vj [(2,2),(4,7),(5,5),(12,7)] [] [13,3000001] mixed zAV zAV zAV zAV zAV zAV zAV ?_;simp;refine cBs [] (Hy (ZJ (Vj a0) 2).1 12) ?_;exact rt _ f
theorem EV(a0:ZO)(u0:Sm 2342912 a0):Sd 66 [a0.row] [(O3 a0).row]:=by
 have f:=me (O3.eq_1 a0);have c1:=sl 2342912 a0.Zt u0;have c2:=sl 2342912 a0.ZC u0;have c3:=sl 2342912 a0.Methods u0;refine soD func66 ntmps66 ?_;exact rtD _ f
theorem GX(a0:ZO)(u0:Sm 2342912 a0):Sd 66 [a0.row] [a0.row]:=by
  have h:=EV a0 u0;rwa[EG]at h
theorem B8(a0:ZR)(u0:Sm 2342912 a0):Sd 165 [a0.row] [(Hs a0).row]:=by
 have f:=me (Hs.eq_1 a0);refine soD func165 ntmps165 ?_;refine FI [2,3,4,5,6,7,8,9,0,1,10,11] mixed zAV zAV zAV ?_;have c1:=sl 2342912 a0.Xw u0;have c2:=sl 2342912 a0.KZ u0;simp;refine rpS ?_;exact rtD [.cell 2 44] f
theorem Nj(a0:ZR)(u0:Sm 2342912 a0):Sd 165 [a0.row] [a0.row]:=by
  have h:=B8 a0 u0;rwa[BW]at h
theorem CE(a0:ZT)(u0:Sm 2342912 a0):Sd 242 [a0.row] [(LX a0).row]:=by
 have f:=me (LX.eq_1 a0);refine soD func242 ntmps242 ?_;refine FI [2,3,4,5,0,1,6,7,8,9] mixed zAV zAV zAV ?_;have c1:=sl 2342912 a0.YM u0;simp;refine rpS ?_;exact rtD [.cell 2 154] f
theorem OL(a0:ZT)(u0:Sm 2342912 a0):Sd 242 [a0.row] [a0.row]:=by
  have h:=CE a0 u0;rwa[Cd]at h
theorem BR(a0:List ZT)(u0:Sm 2338816 a0):Sd 247 [rL 3 ZT.row a0] [rL 3 ZT.row (MG a0)]:=by
 have f:=me (MG.eq_1 a0);refine soD func247 ntmps247 ?_;refine vS (news:=([]:List ZT).map ZT.row) (L:=[]) rfl rfl rfl rfl zAE zAE zAE zAE zAE zAE ?_;simp;refine lp2 (Sn.eq_2 a0) (fun J U=>Yx 21 [eL 0 3 a0 ZT.row,(3,.one (.sref 3 0 0 J.length),[.arr true 3 (J.map ZT.row)]),eI 4 (U:Int)]) (fun n1 J U=>a0.length<n1+U/\U<=a0.length/\J.length<=0+1*U) (a0.length+1) ([]:List ZT) 0 (fun p1 J U e1 j1=>?_) (h0:=wkS [((3,0),some (5,0))] []);refine cFf e1 ?_ ?_<;>intro k2 h1 e1
 ·have i1:=ix h1;have m2:=ml a0 (k2 0 _ rfl);have c1:=sl 2338816 a0 u0;have w1:=wr U;simp[i1,ZD];refine rpS ?_;refine cDs [true,false] (OL (nth a0 U) (sg (Zr u0))) ?_;refine kI ?_;simp;refine WV (iJ:=J.map ZT.row) (news:=([nth a0 U]:List ZT).map ZT.row) (l1:=[(3,0)]) (l2:=[(17,1)]) (size:=3) ?_;simp;exact nx2 e1 (hw:=XO [((3,0),some (19,0))] [] rfl zAd)
 exact rtD [.tmp 2] (ms f e1)
theorem Dx(a0:List ZT)(u0:Sm 2338816 a0):Sd 247 [rL 3 ZT.row a0] [rL 3 ZT.row a0]:=by
  have h:=BR a0 u0;rwa[Ac]at h
theorem CY(a0:Zb)(u0:Sm 2342912 a0):Sd 186 [a0.row] [(Mq a0).row]:=by
 have f:=me (Mq.eq_1 a0);have c1:=sl 2342912 a0.Path u0;have c2:=sl 2342912 a0.YW u0;refine soD func186 ntmps186 ?_;exact rtD [.cell 2 80] f
theorem OD(a0:Zb)(u0:Sm 2342912 a0):Sd 186 [a0.row] [a0.row]:=by
  have h:=CY a0 u0;rwa[Cs]at h
theorem CC(a0:ZW)(u0:Sm 2334720 a0):Sd 183 [a0.row] [(Pt a0).row]:=by
 have f:=me (Pt.eq_1 a0);refine soD func183 ntmps183 ?_;refine cDs [] (Dx a0.ZI (sg (ZW.QE u0))) ?_;refine lp2 (TN.eq_2 a0) (fun J U=>Yx 28 [eX 1 (a0.row.map .d),(2,.one (.bptr 2 0),[.box [.nil 3,.nil 5]]),(3,.one (.bptr 3 0),[.box [.sref 7 0 0 a0.ZI.length,.sref 3 2 0 U.length],.none,.arr true 5 (U.map Zb.row)]),eI 4 (J:Int),(7,.any,[.arr true 3 (a0.ZI.map ZT.row)])]) (fun n1 J U=>a0.ZM.length<n1+J/\J<=a0.ZM.length/\U.length<=0+1*J) (a0.ZM.length+1) 0 ([]:List Zb) (fun p1 J U e1 j1=>?_) (h0:=wkS [((3,2),none)] []);refine cF e1 ?_ ?_<;>intro k2 h1 e1
 ·have i1:=ix h1;have m2:=ml a0.ZM (k2 11 _ rfl);have c1:=sl 2334720 a0.ZM u0;have w1:=wr J;refine drJ [25] mixed ?_;simp[i1,ZD];refine rpS ?_;refine cDs [true,true,true,false,false] (OD (nth a0.ZM J) (sg (Zr (ZW.zR u0)))) ?_;refine kI ?_;simp;refine WV (iJ:=U.map Zb.row) (news:=([nth a0.ZM J]:List Zb).map Zb.row) (l1:=[(3,2)]) (l2:=[(23,3),(23,4)]) (size:=5) ?_;simp;exact nx2 e1 (hw:=XO [((3,2),some (25,0))] [] rfl zAd)
 have c2:=sl 2334720 a0.ZM u0;exact rtD [.cell 2 50] (ms f e1)
theorem xp(a0:ZW)(u0:Sm 2334720 a0):Sd 183 [a0.row] [a0.row]:=by
  have h:=CC a0 u0;rwa[CT]at h
theorem Dm(a0:ZN)(u0:Sm 2330624 a0):Sd 127 [a0.row] [(LF a0).row]:=by
 have f:=me (LF.eq_1 a0);refine soD func127 ntmps127 ?_;refine cDs [true,false,false] (Nj a0.Doc (sg (ZN.xx u0))) ?_;refine cDs [] (xp a0.ZG (sg (ZN.XY u0))) ?_;exact rtD [.cell 2 52] f
theorem JT(a0:ZN)(u0:Sm 2330624 a0):Sd 127 [a0.row] [a0.row]:=by
  have h:=Dm a0 u0;rwa[Cl]at h
theorem Dp(a0:ZE)(u0:Sm 2326528 a0):Sd 67 [a0.row] [(Po a0).row]:=by
 have f:=me (Po.eq_1 a0);refine soD func67 ntmps67 ?_;refine lp2 (TO.eq_2 a0) (fun J U=>Yx 27 [eX 1 (a0.row.map .d),(2,.one (.bptr 2 0),[.box [.d (.int .i64 0),.nil 16]]),(3,.one (.bptr 3 0),[.box [.d (.int .i64 a0.Id),.sref 3 2 0 U.length],.none,.arr true 16 (U.map ZN.row)]),eI 4 (J:Int)]) (fun n1 J U=>a0.ZB.length<n1+J/\J<=a0.ZB.length/\U.length<=0+1*J) (a0.ZB.length+1) 0 ([]:List ZN) (fun p1 J U e1 j1=>?_) (h0:=wkS [((3,2),none)] []);refine cF e1 ?_ ?_<;>intro k2 h1 e1
 ·have i1:=ix h1;have m2:=ml a0.ZB (k2 10 _ rfl);have c1:=sl 2326528 a0.ZB u0;have w1:=wr J;refine drJ [24] mixed ?_;simp[i1,ZD];refine rpS ?_;refine cDs [true,true,true,false,false] (JT (nth a0.ZB J) (sg (Zr (ZE.YO u0)))) ?_;refine kI ?_;simp;refine WV (iJ:=U.map ZN.row) (news:=([nth a0.ZB J]:List ZN).map ZN.row) (l1:=[(3,2)]) (l2:=[(22,3),(22,4),(22,14),(22,15)]) (size:=16) ?_;simp;exact nx2 e1 (hw:=XO [((3,2),some (24,0))] [] rfl zAd)
 have c2:=sl 2326528 a0.ZB u0;exact rtD [.cell 2 55] (ms f e1)
theorem QZ(a0:ZE)(u0:Sm 2326528 a0):Sd 67 [a0.row] [a0.row]:=by
  have h:=Dp a0 u0;rwa[D5]at h
theorem CJ(a0:ZF)(u0:Sm 2322432 a0):Sd 24 [a0.row] [(Pk a0).row]:=by
 have f:=me (Pk.eq_1 a0);refine soD func24 ntmps24 ?_;refine FI [0,1,2,3,4,5,6,7,8,9,10,11,12,13,14,15,16,17,18,21,22,23,24,19,20,25,26,27] mixed zAV zAV zAV ?_;simp;have c1:=sl 2322432 a0.Zd u0;have c2:=sl 2322432 a0.Zw u0;have c3:=sl 2322432 a0.Y2 u0;have c4:=sl 2322432 a0.Yc u0;have c5:=sl 2322432 a0.YL u0;refine cDs [false,false,false] (GX a0.Frame (sg (ZF.Xr u0))) ?_;refine lp2 (Uy.eq_2 a0) (fun J U=>Yx 50 [eX 1 (a0.row.map .d),(2,.one (.bptr 2 0),[.box [.nil 5,.nil 3,.nil 4,.d (.int .i64 0),.d (.int .i64 0),.nil 7,.nil 1,.nil 2,.nil 1,.nil 1,.d (.int .i64 0),.nil 1]]),(3,.one (.bptr 3 0),[.box [.sref 7 0 0 a0.Frame.Zt.length,.sref 7 1 0 a0.Frame.ZC.length,.sref 7 2 0 a0.Frame.Methods.length,.d (.int .i64 a0.Frame.XJ),.d (.int .i64 a0.Frame.Now),.sref 11 0 0 a0.Zd.length,.sref 15 0 0 a0.Zw.length,.sref 3 8 0 U.length,.sref 19 0 0 a0.Y2.length,.sref 23 0 0 a0.Yc.length,.d (.int .i64 a0.Next),.sref 29 0 0 a0.YL.length],.none,.none,.none,.none,.none,.none,.none,.arr true 2 (U.map ZE.row)]),eI 4 (J:Int),(7,.any,[.arr false 5 (a0.Frame.Zt.map Y4.row),.arr false 3 (a0.Frame.ZC.map Zi.row),.arr false 4 (a0.Frame.Methods.map YH.row)]),(11,.any,[.arr false 7 (a0.Zd.map YN.row)]),(15,.any,[.arr false 1 (a0.Zw.map iR)]),(19,.any,[.arr false 1 (a0.Y2.map iR)]),(23,.any,[.arr false 1 (a0.Yc.map iR)]),(29,.any,[.arr false 1 (a0.YL.map iR)])]) (fun n1 J U=>a0.ZA.length<n1+J/\J<=a0.ZA.length/\U.length<=0+1*J) (a0.ZA.length+1) 0 ([]:List ZE) (fun p1 J U e1 j1=>?_) (h0:=wkS [((3,8),none)] []);refine cF e1 ?_ ?_<;>intro k3 h1 e1
 ·have i1:=ix h1;have m2:=ml a0.ZA (k3 33 _ rfl);have c6:=sl 2322432 a0.ZA u0;have w1:=wr J;refine drJ [47] mixed ?_;simp[i1,ZD];refine rpS ?_;refine cDs [] (QZ (nth a0.ZA J) (sg (Zr (ZF.YR u0)))) ?_;refine kI ?_;simp;refine WV (iJ:=U.map ZE.row) (news:=([nth a0.ZA J]:List ZE).map ZE.row) (l1:=[(3,8)]) (l2:=[(45,1)]) (size:=2) ?_;simp;exact nx2 e1 (hw:=XO [((3,8),some (47,0))] [] rfl zAd)
 exact rtD [.cell 2 33] (ms f e1)
theorem JV(a0:ZF)(u0:Sm 2322432 a0):Sd 24 [a0.row] [a0.row]:=by
  have h:=CJ a0 u0;rwa[Di]at h
theorem F5(a0:ZF)(a1:Int)(u0:Sm 2318336 a0):Sd 41 [a0.row,rI a1] [(jr a0 a1).1.row,rB (jr a0 a1).2]:=by
 have f:=me (jr.eq_1 a0 a1);refine soD func41 ntmps41 ?_;refine cDs [false,false,false,true,true,false,false,true,false,false,true,false] (JV a0 (sg u0)) ?_;refine cRs (XC a1 0 100) ?_;refine cFo f ?_ ?_<;>intro k1 h1 f
 ·have q1:=h1;try simp[Ye]at q1
  simp;exact rtD _ f
 have q1:=h1;try simp[Ye]at q1
 simp;exact rtD _ f
theorem kF(a0:ZF)(a1:Int):Sa 96 [a0.row,rI a1] [rB (JG a0 a1)]:=by
 have f:=me (JG.eq_1 a0 a1);refine so func96 ntmps96 ?_;refine cRs (XC a1 0 (W ((a0.ZA.length:Int)-1))) ?_;exact rt [.tmp 4] f
theorem ja(a0:List YH)(a1:Int):Sa 105 [rL 4 YH.row a0,rI a1] [rI (Zo a0 a1)]:=by
 have f:=me (Zo.eq_1 a0 a1);refine so func105 ntmps105 ?_;refine lp2 (y0.eq_2 a0 a1) (fun J U=>Yx 54 [eL 0 4 a0 YH.row,eI 1 a1,eI 5 J,eI 6 (U:Int)]) (fun n1 J U=>a0.length<n1+U/\U<=a0.length/\-1<=J/\J<(a0.length:Int)) (a0.length+1) (-1) 0 (fun p1 J U e1 j1=>?_);refine cF e1 ?_ ?_<;>intro k2 h1 e1
 ·have i1:=ix h1;have m2:=ml a0 (k2 0 _ rfl);have w1:=wr U;refine dIo mixed ?_;simp[i1,ZD];refine rpS ?_;refine gIf ?_ ?_<;>intro G
  ·simp[i1,ZD,G];refine rpG ?_;refine gJf G ?_ ?_<;>intro G
   ·all_goals
     simp[i1,ZD,G];refine rpG ?_;refine gK (fun _=>?_);have i2:=ik J.toNat a0
     simp[i2,ZD,G];refine rpG ?_;refine cK e1 ?_ ?_<;>intro k4 h2 e1
     ·exact ny2 (an w1 G) e1
     ·exact ny2 (an w1 G) e1
   ·all_goals
     refine sGg ?_;refine cK e1 ?_ ?_<;>intro k5 h3 e1
     ·exact ny2 (an w1 G) e1
     ·exact ny2 (an w1 G) e1
  ·refine gJf G ?_ ?_<;>intro G
   ·try(simp at G;done)
    all_goals
     simp[i1,ZD,G];refine rpG ?_;refine gK (fun _=>?_);have i4:=ik J.toNat a0
     simp[i4,ZD,G];refine rpG ?_;refine cK e1 ?_ ?_<;>intro k6 h4 e1
     ·simp[G]at h4
     ·simp[G]at h4
   ·all_goals
     refine sGg ?_;refine cK e1 ?_ ?_<;>intro k7 h5 e1
     ·simp[G]at h5
     ·exact ny2 (an w1 G) e1
 have f:=ms f e1;refine cFt f ?_ ?_<;>intro k8 h6 f
 ·exact rt [.tmp 4] f
 have i6:=ik J.toNat a0;simp[i6,ZD];refine rpS ?_;exact rt [.tmp 4] f
theorem Ho(a0:ZF)(a1:Int):Sa 162 [a0.row,rI a1] [rI (Xt a0 a1)]:=by
 have f:=me (Xt.eq_1 a0 a1);refine so func162 ntmps162 ?_;refine lp1 (KL.eq_2 a0 a1) (fun J=>Yx 22 [eI 1 a1,eX 2 (a0.row.map .d),eI 5 (J:Int)]) (fun n1 J=>a0.Zd.length<n1+J/\J<=a0.Zd.length) (a0.Zd.length+1) 0 (fun p1 J e1 j1=>?_);refine cFf e1 ?_ ?_<;>intro k2 h1 e1
 ·have i1:=ix h1;have m2:=ml a0.Zd (k2 8 _ rfl);have w1:=wr J;simp[i1,ZD];refine rpS ?_;refine cF e1 ?_ ?_<;>intro k3 h2 e1
  ·exact rt [.tmp 4] (ms f e1)
  exact ny1 w1 e1
 exact rt [.tmp 4] (ms f e1)
theorem zB(a0:Int)(a1:List Int)(u0:Sm 68719476736 a1):Sa 239 [rI a0,rL 1 iR a1] [rI (Ku a0 a1)]:=by
 have f:=me (Ku.eq_1 a0 a1);have c1:=sl 68719476736 a1 u0;refine so func239 ntmps239 ?_;refine cRs (El (([7,a0]:List Int)++a1)) ?_;exact rt [.tmp 4] f
theorem Iv(a0:Int)(a1:ByteArray)(a2:Int)(u0:Sm 2326528 a1):Sa 238 [rI a0,rS a1,rI a2] [rI (kg a0 a1 a2)]:=by
 have f:=me (kg.eq_1 a0 a1 a2);refine so func238 ntmps238 ?_;refine lp2 (qc.eq_2 a1) (fun J U=>Yx 27 [eI 0 a0,(1,.one (.d (.str a1)),[]),(7,.one (.sref 7 0 0 J.length),[.arr false 1 (J.map iR)]),eI 8 (U:Int)]) (fun n1 J U=>a1.size<n1+U/\U<=a1.size/\J.length<=1+1*U) (a1.size+1) ([a2]:List Int) 0 (fun p1 J U e1 j1=>?_) (h0:=wkS [((7,0),some (10,0))] []);refine cFo e1 ?_ ?_<;>intro k2 h1 e1
 ·have q1:=h1;try simp at q1
  have c1:a1.size<=2326528:=D3 (xs u0);have w1:=wr U;simp;refine rpS ?_;exact nx2 e1 (hw:=XO [((7,0),some (23,0))] [] rfl zAd)
 have q1:=h1;try simp at q1
 have c2:a1.size<=2326528:=D3 (xs u0);have f:=ms f e1;simp;refine cRs (zB a0 J zAK) ?_;exact rt [.tmp 6] f
theorem UP(a0:Int)(a1:ZR)(u0:Sm 2322432 a1):Sa 164 [rI a0,a1.row] [rI (JN a0 a1)]:=by
 have f:=me (JN.eq_1 a0 a1);refine so func164 ntmps164 ?_;refine cRs (VK a1) ?_;refine cF f ?_ ?_<;>intro k1 h1 f
 ·exact rt [.tmp 4] f
 refine lp2 (jQ.eq_2 a0 a1) (fun J U=>Yx 38 [eI 0 a0,eX 3 (a1.row.map .d),(5,.one (.sref 5 0 0 J.length),[.arr false 1 (J.map iR)]),eI 6 (U:Int)]) (fun n1 J U=>a1.Xw.length<n1+U/\U<=a1.Xw.length/\J.length<=1+1*U) (a1.Xw.length+1) ([a1.UN]:List Int) 0 (fun p1 J U e1 j1=>?_) (h0:=wkS [((5,0),some (12,0))] []);refine cF e1 ?_ ?_<;>intro k3 h2 e1
 ·have i1:=ix h2;have m2:=ml a1.Xw (k3 15 _ rfl);have c1:=sl 2322432 a1.Xw u0;have w1:=wr U;refine dIo mixed ?_;have i2:U<a1.KZ.length:=by(have:=LV (a:=a1);first|(simp_all;done)|(simp_all;omega))
  simp[i1,ZD,i2];refine rpS ?_;refine cRs (Iv a0 (nth a1.Xw U) (nth a1.KZ U) (sg (Zr (ZR.Gx u0)))) ?_;exact nx2 e1 (hw:=XO [((5,0),some (34,0))] [] rfl zAd)
 have c2:=sl 2322432 a1.Xw u0;have f:=ms f e1;refine cRs (zB a0 J zAK) ?_;exact rt [.tmp 4] f
theorem MZ(a0:Zl):Sa 235 [a0.row] [rB (jS a0)]:=by
 have f:=me (jS.eq_1 a0);refine so func235 ntmps235 ?_;refine cRs (XC a0.Key 1 99) ?_;refine cGs (fun gg=>XC a0.Za 1 999) ?_;refine cGs (fun gg=>XC a0.Method 0 99) ?_;refine cGs (fun gg=>XC a0.Org 0 99) ?_;refine cGs (fun gg=>XC a0.Ub 1 3) ?_;refine cGs (fun gg=>XC a0.QL 0 1000000000000) ?_;refine cGs (fun gg=>XC a0.V6 0 1000000000000) ?_;refine cGs (fun gg=>XC a0.UZ 0 1000000000000) ?_;exact rt [.tmp 2] f
theorem UM(a0:Zl):Sd 236 [a0.row] [rL 1 iR (Qx a0)]:=by
 have f:=me (Qx.eq_1 a0);refine soD func236 ntmps236 ?_;exact rtD [.tmp 2] f
theorem It(a0:List Y4)(a1:Zl)(u0:Sm 2322432 a0):Sa 163 [rL 5 Y4.row a0,a1.row] [(K5 a0 a1).1.row,rB (K5 a0 a1).2]:=by
 have f:=me (K5.eq_1 a0 a1);refine so func163 ntmps163 ?_;refine cRs (KU a0 a1.Key) ?_;refine cRs (MZ a1) ?_;refine cF f ?_ ?_<;>intro k1 h1 f
 ·exact rt [.cell 4 46,.tmp 5] f
 refine dIo mixed ?_;have i1:(Yk a0 a1.Key).toNat<a0.length:=by have:=KO a0 a1.Key;exact il
 simp[i1,ZD];refine rpS ?_;refine cRs (Yg.rd (UM a1)) ?_;refine cRs (Wc (nth a0 (Yk a0 a1.Key).toNat) (Qx a1) (by simp(maxDischargeDepth:=12) [V9,ZQ (m:=2326528) zAD u0];try omega)) ?_;exact rt [.cell 4 46,.tmp 5] f
theorem R9(a0:Zl):Sd 166 [a0.row] [(xC a0).row]:=by
 have f:=me (xC.eq_1 a0);refine soD func166 ntmps166 ?_;refine dIs mixed ?_;refine cDs [false] (UM a0) ?_;exact rtD [.cell 2 154] f
theorem Hv(a0:YN):Sd 167 [a0.row] [(kB a0).row]:=by
 have f:=me (kB.eq_1 a0);refine soD func167 ntmps167 ?_;refine dIs mixed ?_;refine cDs [false] (OH a0) ?_;exact rtD [.cell 2 154] f
theorem MB(a0:ZF)(a1:Int)(a2:ZR)(a3 a4:Int)(u0:Sm 2318336 a0)(u1:Sm 2318336 a2):So 97 [a0.row,rI a1,a2.row,rI a3,rI a4] [(QI a0 a1 a2 a3 a4).1.row,rB (QI a0 a1 a2 a3 a4).2]:=by
 have f:=me (QI.eq_1 a0 a1 a2 a3 a4);refine so func97 ntmps97 ?_;refine cRs (ja a0.Frame.Methods a0.Frame.Now) ?_;refine cRs (Ho a0 a1) ?_;refine cF f ?_ ?_<;>intro k1 h1 f
 ·exact rtO [.cell 10 52,.tmp 11] f
 refine dIo mixed ?_;have i1:(Xt a0 a1).toNat<a0.Zd.length:=by have:=FV a0 a1;exact il
 simp[i1,ZD];refine rpS ?_;refine cRs (UP (Zo a0.Frame.Methods a0.Frame.Now) a2 (sg u1)) ?_;refine cRs (It a0.Frame.Zt (Zl.mk a1 (nth a0.Zd (Xt a0 a1).toNat).Za (Zo a0.Frame.Methods a0.Frame.Now) (JN (Zo a0.Frame.Methods a0.Frame.Now) a2) 1 a3 0 0 0) (sg (ZO.Xb (ZF.Xr u0)))) ?_;refine dIs mixed ?_;refine cDs [true,false,false] (Nj a2 (sg u1)) ?_;refine cRf i1 (Yg.rd (R9 (K5 a0.Frame.Zt (Zl.mk a1 (nth a0.Zd (Xt a0 a1).toNat).Za (Zo a0.Frame.Methods a0.Frame.Now) (JN (Zo a0.Frame.Methods a0.Frame.Now) a2) 1 a3 0 0 0)).1)) ?_;refine cRs (Yg.rd (Hv (nth a0.Zd (Xt a0 a1).toNat))) ?_;refine eIs ?_;exact rtO [.cell 10 52,.tmp 11] f
theorem Ga(a0 a1:List Int):Sa 298 [rL 1 iR a0,rL 1 iR a1] [rB (TP a0 a1)]:=by
 have f:=me (TP.eq_1 a0 a1);refine so func298 ntmps298 ?_;refine cF f ?_ ?_<;>intro k1 h1 f
 ·exact rt [.tmp 4] f
 refine lp1 (WX.eq_2 a0 a1) (fun J=>Yx 26 [eL 0 1 a0 iR,eL 1 1 a1 iR,eI 5 (J:Int)]) (fun n1 J=>a0.length<n1+J/\J<=a0.length) (a0.length+1) 0 (fun p1 J e1 j1=>?_);refine cF e1 ?_ ?_<;>intro k3 h2 e1
 ·have i1:=ix h2;have m2:=ml a0 (k3 0 _ rfl);have w1:=wr J;refine dIo mixed ?_;have i2:=ik J a1;simp[i1,ZD,i2];refine rpS ?_;refine cF e1 ?_ ?_<;>intro k5 h3 e1
  ·exact rt [.tmp 4] (ms f e1)
  exact ny1 w1 e1
 exact rt [.tmp 4] (ms f e1)
theorem T1(a0 a1:ZT):Sa 279 [a0.row,a1.row] [rB (xk a0 a1)]:=by
 have f:=me (xk.eq_1 a0 a1);refine so func279 ntmps279 ?_;refine cGs (fun gg=>Ga a0.YM a1.YM) ?_;exact rt [.tmp 4] f
theorem Fa(a0:ZW)(a1:ZT):Sa 250 [a0.row,a1.row] [rI (qL a0 a1)]:=by
 have f:=me (qL.eq_1 a0 a1);refine so func250 ntmps250 ?_;refine lp1 (xi.eq_2 a0 a1) (fun J=>Yx 21 [eX 2 (a0.row.map .d),eX 3 (a1.row.map .d),eI 5 (J:Int)]) (fun n1 J=>a0.ZI.length<n1+J/\J<=a0.ZI.length) (a0.ZI.length+1) 0 (fun p1 J e1 j1=>?_);refine cF e1 ?_ ?_<;>intro k2 h1 e1
 ·have i1:=ix h1;have m2:=ml a0.ZI (k2 8 _ rfl);have w1:=wr J;refine dIo mixed ?_;simp[i1,ZD];refine rpS ?_;refine cRs (T1 (nth a0.ZI J) a1) ?_;refine cF e1 ?_ ?_<;>intro k4 h2 e1
  ·exact rt [.tmp 4] (ms f e1)
  exact ny1 w1 e1
 exact rt [.tmp 4] (ms f e1)
theorem Tm(a0:ZW):Sa 187 [a0.row] [rB (xa a0)]:=by
 have f:=me (xa.eq_1 a0);refine so func187 ntmps187 ?_;refine lp1 (qz.eq_2 a0) (fun J=>Yx 69 [eX 1 (a0.row.map .d),eI 3 (J:Int)]) (fun n1 J=>a0.ZI.length<n1+J/\J<=a0.ZI.length) (a0.ZI.length+1) 0 (fun p1 J e1 j1=>?_);refine cF e1 ?_ ?_<;>intro k2 h1 e1
 ·have i1:=ix h1;have m2:=ml a0.ZI (k2 7 _ rfl);have w1:=wr J;refine dIo mixed ?_;simp[i1,ZD];refine rpS ?_;refine cRs (Fa a0 (nth a0.ZI J)) ?_;refine cF e1 ?_ ?_<;>intro k4 h2 e1
  ·exact rt [.tmp 2] (ms f e1)
  exact ny1 w1 e1
 have f:=ms f e1;refine lp1 (qp.eq_2 a0) (fun iF=>Yx 69 [eX 1 (a0.row.map .d),eI 4 (iF:Int)]) (fun n2 iF=>a0.ZM.length<n2+iF/\iF<=a0.ZM.length) (a0.ZM.length+1) 0 (fun p2 iF e2 j2=>?_);refine cF e2 ?_ ?_<;>intro k6 h3 e2
 ·have i2:=ix h3;have m4:=ml a0.ZM (k6 23 _ rfl);have w2:=wr iF;refine dIo mixed ?_;simp[i2,ZD];refine rpS ?_;refine cRs (XC (nth a0.ZM iF).Count 1 (a0.ZI.length:Int)) ?_;refine gIf ?_ ?_<;>intro G
  ·have i3:=ik (iF-1) a0.ZM;have w3:IntKind.i64.wrap ((iF:Int)-1)=(iF:Int)-1:=YX zAA zAA;simp[i3,ZD,w3,G];refine rpG ?_;refine gK (fun _=>?_);simp[i2,ZD,G];refine rpG ?_;refine cKo e2 ?_ ?_<;>intro k8 h4 e2
   ·have q4:=h4;try simp[Ye]at q4
    have f:=ms f e2;simp;refine rpG ?_;exact rtg [.tmp 2] f
   ·have q4:=h4;try simp[Ye]at q4
    simp;refine rpG ?_;exact ny1 (an w2 (an w3 G)) e2
  ·refine sGg ?_;refine cKo e2 ?_ ?_<;>intro k9 h5 e2
   ·have q5:=h5;try simp[Ye]at q5
    have f:=ms f e2;simp;refine rpG ?_;exact rtg [.tmp 2] f
   ·have q5:=h5;try simp[Ye]at q5
    simp;refine rpG ?_;exact ny1 (an w2 G) e2
 have f:=ms f e2;refine cRs (XC (a0.ZI.length:Int) 1 12) ?_;exact rt [.tmp 2] f
theorem L8(a0:ZN):Sa 240 [a0.row] [rB (T3 a0)]:=by
 have f:=me (T3.eq_1 a0);refine so func240 ntmps240 ?_;refine dIs mixed ?_;refine cRs (XC a0.Id 1 999) ?_;refine cGs (fun gg=>Wy a0.XF) ?_;refine cGs (fun gg=>VK a0.Doc) ?_;refine cGs (fun gg=>Tm a0.ZG) ?_;refine gIf ?_ ?_<;>intro G
 ·have g1:=G;try simp[Ye]at g1
  have i1:0<a0.ZG.ZI.length:=by have:=Hn (a:=a0.ZG);simp_all
  simp[i1,ZD,G];refine rpG ?_;refine cGg (fun gg=>Yg.rd (R9 a0.Sig)) ?_;refine cGg (fun gg=>T1 (nth a0.ZG.ZI 0) (xC a0.Sig)) ?_;exact rtg [.tmp 2] f
 ·refine sGo ?_;simp;refine rpG ?_;refine sGo ?_;simp;refine rpG ?_;exact rtg [.tmp 2] f
theorem qU(a0:ZE):Sa 168 [a0.row] [rB (Jf a0)]:=by
 have f:=me (Jf.eq_1 a0);refine so func168 ntmps168 ?_;refine lp1 (jO.eq_2 a0) (fun J=>Yx 47 [eX 1 (a0.row.map .d),eI 3 (J:Int)]) (fun n1 J=>a0.ZB.length<n1+J/\J<=a0.ZB.length) (a0.ZB.length+1) 0 (fun p1 J e1 j1=>?_);refine cF e1 ?_ ?_<;>intro k2 h1 e1
 ·have i1:=ix h1;have m2:=ml a0.ZB (k2 6 _ rfl);have w1:=wr J;refine dIo mixed ?_;simp[i1,ZD];refine rpS ?_;refine cRs (L8 (nth a0.ZB J)) ?_;refine gIf ?_ ?_<;>intro G
  ·have i2:=ik (J-1) a0.ZB;have w2:IntKind.i64.wrap ((J:Int)-1)=(J:Int)-1:=YX zAA zAA;simp[i2,ZD,w2,G];refine rpG ?_;refine gK (fun _=>?_);simp[i1,ZD,G];refine rpG ?_;refine cK e1 ?_ ?_<;>intro k4 h2 e1
   ·exact rtg [.tmp 2] (ms f e1)
   ·exact ny1 (an w1 (an w2 G)) e1
  ·refine sGg ?_;refine cK e1 ?_ ?_<;>intro k5 h3 e1
   ·exact rtg [.tmp 2] (ms f e1)
   ·exact ny1 (an w1 G) e1
 have f:=ms f e1;refine cRs (XC a0.Id 0 99) ?_;exact rt [.tmp 2] f
theorem jK(a0:ZE)(a1:Int):Sa 169 [a0.row,rI a1] [rI (Yz a0 a1)]:=by
 have f:=me (Yz.eq_1 a0 a1);refine so func169 ntmps169 ?_;refine lp1 (qv.eq_2 a0 a1) (fun J=>Yx 22 [eI 1 a1,eX 2 (a0.row.map .d),eI 5 (J:Int)]) (fun n1 J=>a0.ZB.length<n1+J/\J<=a0.ZB.length) (a0.ZB.length+1) 0 (fun p1 J e1 j1=>?_);refine cFf e1 ?_ ?_<;>intro k2 h1 e1
 ·have i1:=ix h1;have m2:=ml a0.ZB (k2 8 _ rfl);have w1:=wr J;simp[i1,ZD];refine rpS ?_;refine cF e1 ?_ ?_<;>intro k3 h2 e1
  ·exact rt [.tmp 4] (ms f e1)
  exact ny1 w1 e1
 exact rt [.tmp 4] (ms f e1)
theorem Sr(a0:ZE)(a1:ZN)(u0:Sm 2318336 a0)(u1:Sm 2318336 a1):Sd 98 [a0.row,a1.row] [(JO a0 a1).1.row,rB (JO a0 a1).2]:=by
 have f:=me (JO.eq_1 a0 a1);refine soD func98 ntmps98 ?_;refine cRs (qU a0) ?_;refine cGs (fun gg=>jK a0 a1.Id) ?_;refine cF f ?_ ?_<;>intro k1 h1 f
 ·refine cDs [] (QZ a0 (sg u0)) ?_;exact rtD [.cell 4 55,.tmp 5] f
 refine lp3 (Qq.eq_2 a0 a1) (fun J U iD=>Yx 77 [eX 2 (a0.row.map .d),eX 3 (a1.row.map .d),(4,.one (.bptr 4 0),[.box [.d (.int .i64 0),.nil 16]]),(6,.one (.bptr 6 0),[.box [.d (.int .i64 a0.Id),.sref 6 2 0 iD.length],.none,.arr true 16 (iD.map ZN.row)]),eB 7 J,eI 8 (U:Int)]) (fun n1 J U iD=>a0.ZB.length<n1+U/\U<=a0.ZB.length/\iD.length<=0+2*U) (a0.ZB.length+1) false 0 ([]:List ZN) (fun p1 J U iD e1 j1=>?_) (h0:=wkS [((6,2),none)] []);refine cF e1 ?_ ?_<;>intro k3 h2 e1
 ·have i1:=ix h2;have m2:=ml a0.ZB (k3 26 _ rfl);have c1:=sl 2318336 a0.ZB (an u0 u1);have w1:=wr U;refine dIs mixed ?_;refine gIf ?_ ?_<;>intro G
  ·simp[i1,ZD,G];refine rpG ?_;refine cK e1 ?_ ?_<;>intro k5 h3 e1
   ·try(simp[G]at h3;done)
    all_goals
     refine drJ [49] mixed ?_;simp;refine cDg [true,true,true,false,false] (JT a1 (sg u1)) ?_;refine kI ?_;simp[G];refine rpG ?_;refine WV (iJ:=iD.map ZN.row) (news:=([a1]:List ZN).map ZN.row) (l1:=[(6,2)]) (l2:=[(47,3),(47,4),(47,14),(47,15)]) (size:=16) ?_;simp[G];refine rpG ?_;refine drJ [60] mixed ?_;simp[i1,ZD,G];refine rpG ?_;refine cDg [true,true,true,false,false] (JT (nth a0.ZB U) (sg (Zr (ZE.YO u0)))) ?_;refine kI ?_;simp[G];refine rpG ?_;refine WV (iJ:=(iD++([a1]:List ZN)).map ZN.row) (news:=([nth a0.ZB U]:List ZN).map ZN.row) (l1:=[(49,0)]) (l2:=[(58,3),(58,4),(58,14),(58,15)]) (size:=16) ?_;simp[G];refine rpG ?_;exact nx3 e1 (hw:=XO [((6,2),some (60,0))] [] rfl zB4)
   ·try(simp[G]at h3;done)
    all_goals
     refine drJ [60] mixed ?_;simp[i1,ZD,G];refine rpG ?_;refine cDg [true,true,true,false,false] (JT (nth a0.ZB U) (sg (Zr (ZE.YO u0)))) ?_;refine kI ?_;simp[G];refine rpG ?_;refine WV (iJ:=iD.map ZN.row) (news:=([nth a0.ZB U]:List ZN).map ZN.row) (l1:=[(6,2)]) (l2:=[(58,3),(58,4),(58,14),(58,15)]) (size:=16) ?_;simp[G];refine rpG ?_;exact nx3 e1 (hw:=XO [((6,2),some (60,0))] [] rfl zB4)
  ·refine cK e1 ?_ ?_<;>intro k9 h4 e1
   ·try(simp[G]at h4;done)
    all_goals
     refine drJ [49] mixed ?_;simp;refine cDg [true,true,true,false,false] (JT a1 (sg u1)) ?_;refine kI ?_;simp[G];refine rpG ?_;refine WV (iJ:=iD.map ZN.row) (news:=([a1]:List ZN).map ZN.row) (l1:=[(6,2)]) (l2:=[(47,3),(47,4),(47,14),(47,15)]) (size:=16) ?_;simp[G];refine rpG ?_;refine drJ [60] mixed ?_;simp[i1,ZD,G];refine rpG ?_;refine cDg [true,true,true,false,false] (JT (nth a0.ZB U) (sg (Zr (ZE.YO u0)))) ?_;refine kI ?_;simp[G];refine rpG ?_;refine WV (iJ:=(iD++([a1]:List ZN)).map ZN.row) (news:=([nth a0.ZB U]:List ZN).map ZN.row) (l1:=[(49,0)]) (l2:=[(58,3),(58,4),(58,14),(58,15)]) (size:=16) ?_;simp[G];refine rpG ?_;exact nx3 e1 (hw:=XO [((6,2),some (60,0))] [] rfl zB4)
   ·try(simp[G]at h4;done)
    all_goals
     refine drJ [60] mixed ?_;simp[i1,ZD,G];refine rpG ?_;refine cDg [true,true,true,false,false] (JT (nth a0.ZB U) (sg (Zr (ZE.YO u0)))) ?_;refine kI ?_;simp[G];refine rpG ?_;refine WV (iJ:=iD.map ZN.row) (news:=([nth a0.ZB U]:List ZN).map ZN.row) (l1:=[(6,2)]) (l2:=[(58,3),(58,4),(58,14),(58,15)]) (size:=16) ?_;simp[G];refine rpG ?_;exact nx3 e1 (hw:=XO [((6,2),some (60,0))] [] rfl zB4)
 have c2:=sl 2318336 a0.ZB (an u0 u1);have f:=ms f e1;refine cF f ?_ ?_<;>intro aY h5 f
 ·refine okD fun k14=>?_;refine drJ [69] mixed ?_;simp;refine cDs [true,true,true,false,false] (JT a1 (sg u1)) ?_;refine kI ?_;simp;refine WV (iJ:=iD.map ZN.row) (news:=([a1]:List ZN).map ZN.row) (l1:=[(6,2)]) (l2:=[(67,3),(67,4),(67,14),(67,15)]) (size:=16) ?_;simp;refine cRs (qU (ZE.mk a0.Id (iD++([a1]:List ZN)))) ?_;refine cF f ?_ ?_<;>intro k15 h6 f
  ·refine cDs [] (QZ a0 (sg u0)) ?_;exact rtD [.cell 4 55,.tmp 5] f
  exact rtD [.cell 4 55,.tmp 5] f
 refine cRs (qU (ZE.mk a0.Id iD)) ?_;refine cF f ?_ ?_<;>intro k16 h7 f
 ·refine cDs [] (QZ a0 (sg u0)) ?_;exact rtD [.cell 4 55,.tmp 5] f
 exact rtD [.cell 4 55,.tmp 5] f
theorem F0(a0:ZF)(a1 a2:Int)(a3:ZR)(a4 a5:Int)(u0:Sm 2314240 a0)(u1:Sm 2314240 a3):Sd 42 [a0.row,rI a1,rI a2,a3.row,rI a4,rI a5] [(jm a0 a1 a2 a3 a4 a5).1.row,rB (jm a0 a1 a2 a3 a4 a5).2]:=by
 have f:=me (jm.eq_1 a0 a1 a2 a3 a4 a5);refine soD func42 ntmps42 ?_;refine cDs [false,false,false,true,true,false,false,true,false,false,true,false] (JV a0 (sg u0)) ?_;refine cRs (KU a0.Frame.Zt a2) ?_;refine dIs mixed ?_;refine cRs (kF a0 a1) ?_;refine gIf ?_ ?_<;>intro G
 ·have c1:=sl 2314240 a0.ZA (an u0 u1);have w1:IntKind.i64.wrap ((a0.ZA.length:Int)-1)=(a0.ZA.length:Int)-1:=YX zAA zAA;have g1:=G;try simp[w1,JG,Ye]at g1
  have i1:(Yk a0.Frame.Zt a2).toNat<a0.Frame.Zt.length:=by have:=KO a0.Frame.Zt a2;exact il
  simp[i1,ZD,G];refine rpG ?_;refine cKo f ?_ ?_<;>intro k2 h1 f
  ·have q1:=h1;try simp[w1,JG,Ye]at q1
   simp[G];refine rpG ?_;exact yV [.cell 12 33,.tmp 13] f
  ·have q1:=h1;try simp[w1,JG,Ye]at q1
   simp[G];refine rpG ?_;refine cRg (MB a0 a2 a3 a4 a5 (sg u0) (sg u1)) ?_;refine cK f ?_ ?_<;>intro k3 h2 f
   ·exact yV [.cell 12 33,.tmp 13] f
   ·refine dIo mixed ?_;have i2:=ik a1.toNat a0.ZA
    simp[i2,ZD,G];refine rpG ?_;refine cDg [] (Sr (nth a0.ZA a1.toNat) (QI a0 a2 a3 a4 a5).1 zAf zAf) ?_;refine cKt f ?_ ?_<;>intro k5 h3 f
    ·exact yV [.cell 12 33,.tmp 13] f
    ·simp[i2,ZD,G];refine rpG ?_;refine MU (t:=21) (j:=7) (i:=a1.toNat) (size:=2) (rows:=a0.ZA.map ZE.row) (ds:=(JO (nth a0.ZA a1.toNat) (QI a0 a2 a3 a4 a5).1).1.row) (L:=[(68,1)]) ?_;simp[Kx (x:=(JO (nth a0.ZA a1.toNat) (QI a0 a2 a3 a4 a5).1).1) rfl,c1,i2,ZD,XX,G];refine rpG ?_;exact yV [.cell 12 33,.tmp 13] f
 ·have c2:=sl 2314240 a0.ZA (an u0 u1);have w2:IntKind.i64.wrap ((a0.ZA.length:Int)-1)=(a0.ZA.length:Int)-1:=YX zAA zAA;refine cKo f ?_ ?_<;>intro k6 h4 f
  ·have q4:=h4;try simp[w2,JG,Ye]at q4
   simp[G];refine rpG ?_;exact yV [.cell 12 33,.tmp 13] f
  ·simp[G]at h4
theorem Rh(a0:ZF)(a1:Int):Sa 99 [a0.row,rI a1] [rI (ZH a0 a1).1,rI (ZH a0 a1).2]:=by
 have f:=me (ZH.eq_1 a0 a1);refine so func99 ntmps99 ?_;refine lp1 (js.eq_2 a0 a1) (fun J=>Yx 26 [eI 1 a1,eX 2 (a0.row.map .d),eI 6 (J:Int)]) (fun n1 J=>a0.ZA.length<n1+J/\J<=a0.ZA.length) (a0.ZA.length+1) 0 (fun p1 J e1 j1=>?_);refine cFf e1 ?_ ?_<;>intro k2 h1 e1
 ·have i1:=ix h1;have m2:=ml a0.ZA (k2 10 _ rfl);have w1:=wr J;simp[i1,ZD];refine rpS ?_;refine cRs (jK (nth a0.ZA J) a1) ?_;refine cF e1 ?_ ?_<;>intro k3 h2 e1
  ·exact rt _ (ms f e1)
  exact ny1 w1 e1
 exact rt _ (ms f e1)
theorem Ll(a0:ZT):Sa 170 [a0.row] [rI (Qy a0)]:=by
 have f:=me (Qy.eq_1 a0);refine so func170 ntmps170 ?_;refine gIf ?_ ?_<;>intro G
 ·have i1:=ik 0 a0.YM;simp[i1,ZD,G];refine rpG ?_;refine cGg (fun gg=>XC (nth a0.YM 0) 101 105) ?_;refine cKo f ?_ ?_<;>intro k1 h1 f
  ·have q1:=h1;try simp[Ye]at q1
   simp;refine rpG ?_;exact rtg [.tmp 2] f
  ·have q1:=h1;try simp[Ye]at q1
   simp;refine rpG ?_;refine dIo mixed ?_;have i2:=ik (W (nth a0.YM 0-101)).toNat ([7,5,5,9,6]:List Int)
   have r1:=ZD (f:=iR) i2;try simp at r1
   simp[i1,ZD,r1];refine rpG ?_;refine cKt f ?_ ?_<;>intro k3 h2 f
   ·exact rtg [.tmp 2] f
   ·simp[i1,ZD];refine rpG ?_;exact rtg [.tmp 2] f
 ·refine sGo ?_;simp;refine rpG ?_;refine cKo f ?_ ?_<;>intro k4 h3 f
  ·have q3:=h3;try simp[Ye]at q3
   simp;refine rpG ?_;exact rtg [.tmp 2] f
  ·simp[G]at h3
theorem R4(a0:ZT):Sa 100 [a0.row] [(Zg a0).1.row,rB (Zg a0).2]:=by
 have f:=me (Zg.eq_1 a0);refine so func100 ntmps100 ?_;refine dIs mixed ?_;refine cRs (Ll a0) ?_;refine gIf ?_ ?_<;>intro G
 ·have fD:=G;have g1:=G;try simp at g1
  have i1:6<a0.YM.length:=zAp;simp[i1,ZD,G];refine rpG ?_;refine cK f ?_ ?_<;>intro k2 h1 f
  ·try(simp[G]at h1;done)
   all_goals
    exact rtg [.cell 2 124,.tmp 3] f
  ·try(simp[G]at h1;done)
   all_goals
    refine dIo mixed ?_;have i2:1<a0.YM.length:=zAp
    have i3:2<a0.YM.length:=zAp;have i4:3<a0.YM.length:=zAp;have i5:4<a0.YM.length:=zAp;have i6:5<a0.YM.length:=zAp;simp[i2,ZD,i3,i4,i5,i6,i1,G];refine rpG ?_;exact rtg [.cell 2 124,.tmp 3] f
 ·have fD:=G;refine cK f ?_ ?_<;>intro k4 h2 f
  ·try(simp[G]at h2;done)
   all_goals
    exact rtg [.cell 2 124,.tmp 3] f
  ·try(simp[G]at h2;done)
   all_goals
    refine dIo mixed ?_;have i8:1<a0.YM.length:=zAp
    have i9:2<a0.YM.length:=zAp;have i10:3<a0.YM.length:=zAp;have i11:4<a0.YM.length:=zAp;have i12:5<a0.YM.length:=zAp;have i13:6<a0.YM.length:=zAp;simp[i8,ZD,i9,i10,i11,i12,i13,G];refine rpG ?_;exact rtg [.cell 2 124,.tmp 3] f
theorem OY(a0:List YN)(a1:Int):Sa 101 [rL 7 YN.row a0,rI a1] [rI (YA a0 a1)]:=by
 have f:=me (YA.eq_1 a0 a1);refine so func101 ntmps101 ?_;refine lp1 (ql.eq_2 a0 a1) (fun J=>Yx 20 [eL 0 7 a0 YN.row,eI 1 a1,eI 5 (J:Int)]) (fun n1 J=>a0.length<n1+J/\J<=a0.length) (a0.length+1) 0 (fun p1 J e1 j1=>?_);refine cFf e1 ?_ ?_<;>intro k2 h1 e1
 ·have i1:=ix h1;have m2:=ml a0 (k2 0 _ rfl);have w1:=wr J;simp[i1,ZD];refine rpS ?_;refine cF e1 ?_ ?_<;>intro k3 h2 e1
  ·exact rt [.tmp 4] (ms f e1)
  exact ny1 w1 e1
 exact rt [.tmp 4] (ms f e1)
theorem EA(a0:Zp):Sa 171 [a0.row] [rB (Un a0)]:=by
 have f:=me (Un.eq_1 a0);refine so func171 ntmps171 ?_;refine cRs (XC a0.Za 1 999) ?_;refine cGs (fun gg=>Wy a0.xw) ?_;refine cGs (fun gg=>XC a0.Zw (-1) (W (a0.xw+1))) ?_;refine cGs (fun gg=>XC a0.Z4 1 99) ?_;exact rt [.tmp 2] f
theorem RH(a0:Zp):Sd 173 [a0.row] [rL 1 iR (KQ a0)]:=by
 have f:=me (KQ.eq_1 a0);refine soD func173 ntmps173 ?_;exact rtD [.tmp 2] f
theorem VF(a0:List Y4)(a1:Zp)(u0:Sm 2322432 a0):Sa 102 [rL 5 Y4.row a0,a1.row] [(Yv a0 a1).1.row,rB (Yv a0 a1).2]:=by
 have f:=me (Yv.eq_1 a0 a1);refine so func102 ntmps102 ?_;refine cRs (KU a0 a1.Z4) ?_;refine cRs (EA a1) ?_;refine cF f ?_ ?_<;>intro k1 h1 f
 ·exact rt [.cell 4 127,.tmp 5] f
 refine dIo mixed ?_;have i1:(Yk a0 a1.Z4).toNat<a0.length:=by have:=KO a0 a1.Z4;exact il
 simp[i1,ZD];refine rpS ?_;refine cRs (Yg.rd (RH a1)) ?_;refine cRs (Wc (nth a0 (Yk a0 a1.Z4).toNat) (KQ a1) (by simp(maxDischargeDepth:=12) [S4,ZQ (m:=2326528) zAD u0];try omega)) ?_;exact rt [.cell 4 127,.tmp 5] f
theorem WL(a0:Zp):Sd 104 [a0.row] [(XS a0).row]:=by
 have f:=me (XS.eq_1 a0);refine soD func104 ntmps104 ?_;refine dIs mixed ?_;refine cDs [false] (RH a0) ?_;exact rtD [.cell 2 154] f
theorem Ec(a0:ZW)(a1:ZT)(u0:Sm 2326528 a0)(u1:Sm 2326528 a1):Sd 174 [a0.row,a1.row] [(xH a0 a1).1.row,rB (xH a0 a1).2]:=by
 have f:=me (xH.eq_1 a0 a1);refine soD func174 ntmps174 ?_;refine cDs [] (xp a0 (sg u0)) ?_;refine drJ [14] mixed ?_;simp;refine cDs [true,false] (OL a1 (sg u1)) ?_;refine kI ?_;have c1:=sl 2326528 a0.ZI (an u0 u1);simp;refine WV (iJ:=a0.ZI.map ZT.row) (news:=([a1]:List ZT).map ZT.row) (l1:=[(8,0)]) (l2:=[(12,1)]) (size:=3) ?_;simp;refine cRs (Tm (ZW.mk (a0.ZI++([a1]:List ZT)) a0.ZM)) ?_;refine cF f ?_ ?_<;>intro k2 h1 f
 ·refine cDs [] (xp a0 (sg u0)) ?_;exact rtD [.cell 4 50,.tmp 5] f
 exact rtD [.cell 4 50,.tmp 5] f
theorem UD(a0:ZE)(a1:Int)(a2:ZT)(u0:Sm 2322432 a0)(u1:Sm 2322432 a2):Sd 103 [a0.row,rI a1,a2.row] [(QN a0 a1 a2).1.row,rB (QN a0 a1 a2).2]:=by
 have f:=me (QN.eq_1 a0 a1 a2);refine soD func103 ntmps103 ?_;refine cDs [] (QZ a0 (sg u0)) ?_;refine cRs (jK a0 a1) ?_;refine cF f ?_ ?_<;>intro k1 h1 f
 ·exact rtD [.cell 6 55,.tmp 7] f
 refine dIo mixed ?_;have i1:(Yz a0 a1).toNat<a0.ZB.length:=by have:=Ts a0 a1;exact il
 simp[i1,ZD];refine rpS ?_;refine cDf i1 [] (Ec (nth a0.ZB (Yz a0 a1).toNat).ZG a2 (sg (ZN.XY (Zr (ZE.YO u0)))) (sg u1)) ?_;refine pb (t:=13) (j:=1) (i:=(Yz a0 a1).toNat) (c:=14) (size:=16) (rows:=a0.ZB.map ZN.row) (ds:=(xH (nth a0.ZB (Yz a0 a1).toNat).ZG a2).1.row) (L:=[(28,0),(28,1)]) rfl rfl rfl rfl zAE zAE (by simp;try omega) zAE zAE zAE zAE zAE zAE ?_;simp[Kx (x:=ZN.mk (nth a0.ZB (Yz a0 a1).toNat).Id (nth a0.ZB (Yz a0 a1).toNat).XF (nth a0.ZB (Yz a0 a1).toNat).Doc (nth a0.ZB (Yz a0 a1).toNat).Sig (xH (nth a0.ZB (Yz a0 a1).toNat).ZG a2).1) rfl,i1,ZD,XX];refine rpS ?_;exact rtD [.cell 6 55,.tmp 7] f
theorem Z0(h:b)(k:a:=by(intros;first|omega|with_unfolding_all (first|first|omega|(have fi:=Xc a0 a1 zAY;omega)|(simp only[Bool.or_eq_false_iff,decide_eq_false_iff_not]at*;omega)|(have z:=Zf G;(try simp only[]at z);omega)|(have z:=Zf G.1;(try simp only[]at z);omega)|(have z:=Zf G.2;(try simp only[]at z);omega)|(have z:=Zf G.2.1;(try simp only[]at z);omega)|(have z:=Zf G.2.2;(try simp only[]at z);omega)|(have z:=Zf G.1.2;(try simp only[]at z);omega)|(have z:=Zf G.2.2.2;(try simp only[]at z);omega))|(simp_all;done)|(simp_all;omega)|grind|((try simp only[Y0,show ∀x,IntKind.i64.wrap x=W x from fun _=>rfl]at*);omega))):a/\b:=⟨k,h⟩
theorem Ie(a0:ZF)(a1:Int)(u0:Sm 2318336 a0):Sd 43 [a0.row,rI a1] [(xP a0 a1).1.row,rB (xP a0 a1).2]:=by
 have f:=me (xP.eq_1 a0 a1);refine soD func43 ntmps43 ?_;refine cDs [false,false,false,true,true,false,false,true,false,false,true,false] (JV a0 (sg u0)) ?_;refine cRs (Rh a0 a1) ?_;refine gIo ?_ ?_<;>intro G
 ·have fD:=G;have g1:=G;try simp at g1
  have i1:(ZH a0 a1).1.toNat<a0.ZA.length:=zAI;simp[i1,ZD,G];refine zCD ?_;refine gK (fun _=>?_);have i2:(ZH a0 a1).2.toNat<(nth a0.ZA (ZH a0 a1).1.toNat).ZB.length:=zAI;simp[i2,ZD,G];refine zCD ?_;refine cKo f ?_ ?_<;>intro k1 h1 f
  ·simp[G];refine zCD ?_;exact yV [.cell 4 33,.tmp 5] f
  ·have i3:1<(nth (nth a0.ZA (ZH a0 a1).1.toNat).ZB (ZH a0 a1).2.toNat).ZG.ZI.length:=zAI;simp[i1,ZD,i2,i3,G];refine zCD ?_;refine cR (R4 (nth (nth (nth a0.ZA (ZH a0 a1).1.toNat).ZB (ZH a0 a1).2.toNat).ZG.ZI 1)) ?_;simp[G];refine zCD ?_;refine cR (OY a0.Zd (Zg (nth (nth (nth a0.ZA (ZH a0 a1).1.toNat).ZB (ZH a0 a1).2.toNat).ZG.ZI 1)).1.Za) ?_;simp[G];refine zCD ?_;refine cKo f ?_ ?_<;>intro k2 h2 f
   ·simp[G];refine zCD ?_;exact yV [.cell 4 33,.tmp 5] f
   ·simp[G];refine zCD ?_;refine dIo mixed ?_;have i4:(YA a0.Zd (Zg (nth (nth (nth a0.ZA (ZH a0 a1).1.toNat).ZB (ZH a0 a1).2.toNat).ZG.ZI 1)).1.Za).toNat<a0.Zd.length:=zAN
    simp[i4,ZD,G];refine zCD ?_;refine cR (KU a0.Frame.Zt (nth a0.Zd (YA a0.Zd (Zg (nth (nth (nth a0.ZA (ZH a0 a1).1.toNat).ZB (ZH a0 a1).2.toNat).ZG.ZI 1)).1.Za).toNat).Z4) ?_;simp[G];refine zCD ?_;refine dIo mixed ?_;simp[i4,ZD,G];refine zCD ?_;refine dIo mixed ?_;have i5:(YA a0.Zd (Zg (nth (nth (nth a0.ZA (ZH a0 a1).1.toNat).ZB (ZH a0 a1).2.toNat).ZG.ZI 1)).1.Za).toNat<a0.Zw.length:=zAN
    simp[i5,ZD,G];refine zCD ?_;refine cKo f ?_ ?_<;>intro k6 h3 f
    ·simp[i5,ZD,G];refine zCD ?_;refine cR (VF a0.Frame.Zt (Zp.mk (Zg (nth (nth (nth a0.ZA (ZH a0 a1).1.toNat).ZB (ZH a0 a1).2.toNat).ZG.ZI 1)).1.Za a0.Frame.Now (nth a0.Zw (YA a0.Zd (Zg (nth (nth (nth a0.ZA (ZH a0 a1).1.toNat).ZB (ZH a0 a1).2.toNat).ZG.ZI 1)).1.Za).toNat) (nth a0.Zd (YA a0.Zd (Zg (nth (nth (nth a0.ZA (ZH a0 a1).1.toNat).ZB (ZH a0 a1).2.toNat).ZG.ZI 1)).1.Za).toNat).Z4 0) (sg (ZO.Xb (ZF.Xr u0)))) ?_;simp[G];refine zCD ?_;refine dIo mixed ?_;simp[G];refine zCD ?_;refine gJo G ?_ ?_<;>intro G
     ·have g2x:=G.2;try(simp at G;done)
      all_goals
       have g2:=G.2;try simp at g2
       all_goals
        have i6:(Yk a0.Frame.Zt (nth a0.Zd (YA a0.Zd (Zg (nth (nth (nth a0.ZA (ZH a0 a1).1.toNat).ZB (ZH a0 a1).2.toNat).ZG.ZI 1)).1.Za).toNat).Z4).toNat<a0.Frame.Zt.length:=zAJ;simp[i6,ZD,G];refine zCD ?_;refine cKo f ?_ ?_<;>intro k8 h4 f
        ·simp[G];refine zCD ?_;exact yV [.cell 4 33,.tmp 5] f
        ·simp[G];refine zCD ?_;refine dIo mixed ?_;simp[i1,ZD,G];refine zCD ?_;refine cR (Yg.rd (WL (Yv a0.Frame.Zt (Zp.mk (Zg (nth (nth (nth a0.ZA (ZH a0 a1).1.toNat).ZB (ZH a0 a1).2.toNat).ZG.ZI 1)).1.Za a0.Frame.Now (nth a0.Zw (YA a0.Zd (Zg (nth (nth (nth a0.ZA (ZH a0 a1).1.toNat).ZB (ZH a0 a1).2.toNat).ZG.ZI 1)).1.Za).toNat) (nth a0.Zd (YA a0.Zd (Zg (nth (nth (nth a0.ZA (ZH a0 a1).1.toNat).ZB (ZH a0 a1).2.toNat).ZG.ZI 1)).1.Za).toNat).Z4 0)).1)) ?_;simp[G];refine zCD ?_;refine cD [] (UD (nth a0.ZA (ZH a0 a1).1.toNat) a1 (XS (Yv a0.Frame.Zt (Zp.mk (Zg (nth (nth (nth a0.ZA (ZH a0 a1).1.toNat).ZB (ZH a0 a1).2.toNat).ZG.ZI 1)).1.Za a0.Frame.Now (nth a0.Zw (YA a0.Zd (Zg (nth (nth (nth a0.ZA (ZH a0 a1).1.toNat).ZB (ZH a0 a1).2.toNat).ZG.ZI 1)).1.Za).toNat) (nth a0.Zd (YA a0.Zd (Zg (nth (nth (nth a0.ZA (ZH a0 a1).1.toNat).ZB (ZH a0 a1).2.toNat).ZG.ZI 1)).1.Za).toNat).Z4 0)).1) (sg (Zr (ZF.YR u0))) zA9) ?_;simp[i1,ZD,G];refine zCD ?_;refine MU (t:=18) (j:=7) (i:=(ZH a0 a1).1.toNat) (size:=2) (rows:=a0.ZA.map ZE.row) (ds:=(QN (nth a0.ZA (ZH a0 a1).1.toNat) a1 (XS (Yv a0.Frame.Zt (Zp.mk (Zg (nth (nth (nth a0.ZA (ZH a0 a1).1.toNat).ZB (ZH a0 a1).2.toNat).ZG.ZI 1)).1.Za a0.Frame.Now (nth a0.Zw (YA a0.Zd (Zg (nth (nth (nth a0.ZA (ZH a0 a1).1.toNat).ZB (ZH a0 a1).2.toNat).ZG.ZI 1)).1.Za).toNat) (nth a0.Zd (YA a0.Zd (Zg (nth (nth (nth a0.ZA (ZH a0 a1).1.toNat).ZB (ZH a0 a1).2.toNat).ZG.ZI 1)).1.Za).toNat).Z4 0)).1)).1.row) (L:=[(150,1)]) ?_;simp[Kx (x:=(QN (nth a0.ZA (ZH a0 a1).1.toNat) a1 (XS (Yv a0.Frame.Zt (Zp.mk (Zg (nth (nth (nth a0.ZA (ZH a0 a1).1.toNat).ZB (ZH a0 a1).2.toNat).ZG.ZI 1)).1.Za a0.Frame.Now (nth a0.Zw (YA a0.Zd (Zg (nth (nth (nth a0.ZA (ZH a0 a1).1.toNat).ZB (ZH a0 a1).2.toNat).ZG.ZI 1)).1.Za).toNat) (nth a0.Zd (YA a0.Zd (Zg (nth (nth (nth a0.ZA (ZH a0 a1).1.toNat).ZB (ZH a0 a1).2.toNat).ZG.ZI 1)).1.Za).toNat).Z4 0)).1)).1) rfl,i1,ZD,XX,G];refine zCD ?_;exact yV [.cell 4 33,.tmp 5] f
     ·have g2x:=G.2;try(simp at G;done)
      all_goals
       simp[G];refine zCD ?_;refine cKo f ?_ ?_<;>intro aZ h5 f
       ·simp[G];refine zCD ?_;exact yV [.cell 4 33,.tmp 5] f
       ·simp[G]at h5
    ·simp[G];refine zCD ?_;refine cR (VF a0.Frame.Zt (Zp.mk (Zg (nth (nth (nth a0.ZA (ZH a0 a1).1.toNat).ZB (ZH a0 a1).2.toNat).ZG.ZI 1)).1.Za a0.Frame.Now (-1) (nth a0.Zd (YA a0.Zd (Zg (nth (nth (nth a0.ZA (ZH a0 a1).1.toNat).ZB (ZH a0 a1).2.toNat).ZG.ZI 1)).1.Za).toNat).Z4 0) (sg (ZO.Xb (ZF.Xr u0)))) ?_;simp[G];refine zCD ?_;refine dIo mixed ?_;simp[G];refine zCD ?_;refine gJo G ?_ ?_<;>intro G
     ·have g3x:=G.2;try(simp at G;done)
      all_goals
       have g3:=G.2;try simp at g3
       all_goals
        have i8:(Yk a0.Frame.Zt (nth a0.Zd (YA a0.Zd (Zg (nth (nth (nth a0.ZA (ZH a0 a1).1.toNat).ZB (ZH a0 a1).2.toNat).ZG.ZI 1)).1.Za).toNat).Z4).toNat<a0.Frame.Zt.length:=zAJ;simp[i8,ZD,G];refine zCD ?_;refine cKo f ?_ ?_<;>intro aY h6 f
        ·simp[G];refine zCD ?_;exact yV [.cell 4 33,.tmp 5] f
        ·simp[G];refine zCD ?_;refine dIo mixed ?_;simp[i1,ZD,G];refine zCD ?_;refine cR (Yg.rd (WL (Yv a0.Frame.Zt (Zp.mk (Zg (nth (nth (nth a0.ZA (ZH a0 a1).1.toNat).ZB (ZH a0 a1).2.toNat).ZG.ZI 1)).1.Za a0.Frame.Now (-1) (nth a0.Zd (YA a0.Zd (Zg (nth (nth (nth a0.ZA (ZH a0 a1).1.toNat).ZB (ZH a0 a1).2.toNat).ZG.ZI 1)).1.Za).toNat).Z4 0)).1)) ?_;simp[G];refine zCD ?_;refine cD [] (UD (nth a0.ZA (ZH a0 a1).1.toNat) a1 (XS (Yv a0.Frame.Zt (Zp.mk (Zg (nth (nth (nth a0.ZA (ZH a0 a1).1.toNat).ZB (ZH a0 a1).2.toNat).ZG.ZI 1)).1.Za a0.Frame.Now (-1) (nth a0.Zd (YA a0.Zd (Zg (nth (nth (nth a0.ZA (ZH a0 a1).1.toNat).ZB (ZH a0 a1).2.toNat).ZG.ZI 1)).1.Za).toNat).Z4 0)).1) (sg (Zr (ZF.YR u0))) zA9) ?_;simp[i1,ZD,G];refine zCD ?_;refine MU (t:=18) (j:=7) (i:=(ZH a0 a1).1.toNat) (size:=2) (rows:=a0.ZA.map ZE.row) (ds:=(QN (nth a0.ZA (ZH a0 a1).1.toNat) a1 (XS (Yv a0.Frame.Zt (Zp.mk (Zg (nth (nth (nth a0.ZA (ZH a0 a1).1.toNat).ZB (ZH a0 a1).2.toNat).ZG.ZI 1)).1.Za a0.Frame.Now (-1) (nth a0.Zd (YA a0.Zd (Zg (nth (nth (nth a0.ZA (ZH a0 a1).1.toNat).ZB (ZH a0 a1).2.toNat).ZG.ZI 1)).1.Za).toNat).Z4 0)).1)).1.row) (L:=[(150,1)]) ?_;simp[Kx (x:=(QN (nth a0.ZA (ZH a0 a1).1.toNat) a1 (XS (Yv a0.Frame.Zt (Zp.mk (Zg (nth (nth (nth a0.ZA (ZH a0 a1).1.toNat).ZB (ZH a0 a1).2.toNat).ZG.ZI 1)).1.Za a0.Frame.Now (-1) (nth a0.Zd (YA a0.Zd (Zg (nth (nth (nth a0.ZA (ZH a0 a1).1.toNat).ZB (ZH a0 a1).2.toNat).ZG.ZI 1)).1.Za).toNat).Z4 0)).1)).1) rfl,i1,ZD,XX,G];refine zCD ?_;exact yV [.cell 4 33,.tmp 5] f
     ·have g3x:=G.2;try(simp at G;done)
      all_goals
       simp[G];refine zCD ?_;refine cKo f ?_ ?_<;>intro k15 h7 f
       ·simp[G];refine zCD ?_;exact yV [.cell 4 33,.tmp 5] f
       ·simp[G]at h7
 ·have fD:=G;simp[G];refine zCD ?_;refine sGo ?_;simp[G];refine zCD ?_;refine cKo f ?_ ?_<;>intro k17 h8 f
  ·simp[G];refine zCD ?_;exact yV [.cell 4 33,.tmp 5] f
  ·simp[G]at h8
theorem Ix(a0:ZF)(a1:Int)(u0:Sm 2318336 a0):Sd 44 [a0.row,rI a1] [(xL a0 a1).1.row,rB (xL a0 a1).2]:=by
 have f:=me (xL.eq_1 a0 a1);refine soD func44 ntmps44 ?_;refine cDs [false,false,false,true,true,false,false,true,false,false,true,false] (JV a0 (sg u0)) ?_;refine cRs (XC a1 0 (W ((a0.Zw.length:Int)-1))) ?_;refine gIf ?_ ?_<;>intro G
 ·have c1:=sl 2318336 a0.Zw u0;have w1:IntKind.i64.wrap ((a0.Zw.length:Int)-1)=(a0.Zw.length:Int)-1:=YX zAA zAA;have g1:=G;try simp[Ye,w1]at g1
  have i1:=ik a1.toNat a0.Zw;simp[i1,ZD,G];refine rpG ?_;refine cKo f ?_ ?_<;>intro k1 h1 f
  ·have q1:=h1;try simp[Ye,w1]at q1
   simp;refine rpG ?_;exact yV _ f
  ·have q1:=h1;try simp[Ye,w1]at q1
   simp[i1,ZD];refine rpG ?_;refine Il (rv:=[.cell 4 33,.tmp 5]) rfl ?_;simp[f.h];all_goals(repeat' (first|exact G6 zAE zAE|refine And.intro ?_ ?_))
 ·have c2:=sl 2318336 a0.Zw u0;refine cKo f ?_ ?_<;>intro k2 h2 f
  ·have q2:=h2;try simp[Ye,w2]at q2
   simp;refine rpG ?_;exact yV _ f
  ·simp[G]at h2
theorem xZ(a0:List Zi)(a1:Int):Sa 108 [rL 3 Zi.row a0,rI a1] [rI (Zj a0 a1)]:=by
 have f:=me (Zj.eq_1 a0 a1);refine so func108 ntmps108 ?_;refine lp1 (Km.eq_2 a0 a1) (fun J=>Yx 20 [eL 0 3 a0 Zi.row,eI 1 a1,eI 5 (J:Int)]) (fun n1 J=>a0.length<n1+J/\J<=a0.length) (a0.length+1) 0 (fun p1 J e1 j1=>?_);refine cFf e1 ?_ ?_<;>intro k2 h1 e1
 ·have i1:=ix h1;have m2:=ml a0 (k2 0 _ rfl);have w1:=wr J;simp[i1,ZD];refine rpS ?_;refine cF e1 ?_ ?_<;>intro k3 h2 e1
  ·exact rt [.tmp 4] (ms f e1)
  exact ny1 w1 e1
 exact rt [.tmp 4] (ms f e1)
theorem BB(a0:ZF)(a1:List Int):Sa 106 [a0.row,rL 1 iR a1] [rB (yB a0 a1)]:=by
 have f:=me (yB.eq_1 a0 a1);refine so func106 ntmps106 ?_;refine lp1 (jo.eq_2 a0 a1) (fun J=>Yx 76 [eL 1 1 a1 iR,eX 2 (a0.row.map .d),eI 5 (J:Int)]) (fun n1 J=>a1.length<n1+J/\J<=a1.length) (a1.length+1) 0 (fun p1 J e1 j1=>?_);refine cF e1 ?_ ?_<;>intro k2 h1 e1
 ·have i1:=ix h1;have m2:=ml a1 (k2 1 _ rfl);have w1:=wr J;refine dIo mixed ?_;simp[i1,ZD];refine rpS ?_;refine cRs (xZ a0.Frame.ZC (nth a1 J)) ?_;refine dIs mixed ?_;refine gIf ?_ ?_<;>intro G
  ·have i2:=ik (J-1) a1;have w2:IntKind.i64.wrap ((J:Int)-1)=(J:Int)-1:=YX zAA zAA;simp[i2,ZD,w2,NH,G];refine rpG ?_;refine gK (fun _=>?_);simp[i1,ZD,G];refine rpG ?_;refine cK e1 ?_ ?_<;>intro k5 h2 e1
   ·exact rtg [.tmp 4] (ms f e1)
   ·refine dIo mixed ?_;have i3:(Zj a0.Frame.ZC (nth a1 J)).toNat<a0.Frame.ZC.length:=by have:=JZ a0.Frame.ZC (nth a1 J);exact il
    simp[i3,ZD,G];refine rpG ?_;refine cRg (KU a0.Frame.Zt (nth a0.Frame.ZC (Zj a0.Frame.ZC (nth a1 J)).toNat).Key) ?_;refine dIg mixed ?_;refine gJf G ?_ ?_<;>intro G
    ·try(simp at G;done)
     all_goals
      have i4:(Yk a0.Frame.Zt (nth a0.Frame.ZC (Zj a0.Frame.ZC (nth a1 J)).toNat).Key).toNat<a0.Frame.Zt.length:=zBP;simp[i4,ZD,G];refine rpG ?_;refine cK e1 ?_ ?_<;>intro k8 h3 e1
      ·exact rtg [.tmp 4] (ms f e1)
      ·exact ny1 (an w1 (an w2 G)) e1
    ·try(simp at G;done)
     all_goals
      refine cK e1 ?_ ?_<;>intro k9 h4 e1
      ·exact rtg [.tmp 4] (ms f e1)
      ·simp[G]at h4
  ·refine sGg ?_;refine cK e1 ?_ ?_<;>intro aZ h5 e1
   ·exact rtg [.tmp 4] (ms f e1)
   ·refine dIo mixed ?_;have i7:(Zj a0.Frame.ZC (nth a1 J)).toNat<a0.Frame.ZC.length:=by have:=JZ a0.Frame.ZC (nth a1 J);exact il
    simp[i7,ZD,G];refine rpG ?_;refine cRg (KU a0.Frame.Zt (nth a0.Frame.ZC (Zj a0.Frame.ZC (nth a1 J)).toNat).Key) ?_;refine dIg mixed ?_;refine gJf G ?_ ?_<;>intro G
    ·try(simp at G;done)
     all_goals
      have i8:(Yk a0.Frame.Zt (nth a0.Frame.ZC (Zj a0.Frame.ZC (nth a1 J)).toNat).Key).toNat<a0.Frame.Zt.length:=zBP;simp[i8,ZD,G];refine rpG ?_;refine cK e1 ?_ ?_<;>intro aY h6 e1
      ·exact rtg [.tmp 4] (ms f e1)
      ·exact ny1 (an w1 G) e1
    ·try(simp at G;done)
     all_goals
      refine cK e1 ?_ ?_<;>intro k14 h7 e1
      ·exact rtg [.tmp 4] (ms f e1)
      ·simp[G]at h7
 exact rt [.tmp 4] (ms f e1)
theorem IX(a0:ZW)(a1:ZR)(u0:Sm 2318336 a0)(u1:Sm 2318336 a1):Sd 185 [a0.row,a1.row] [rL 1 iR (JW a0 a1)]:=by
 have f:=me (JW.eq_1 a0 a1);refine soD func185 ntmps185 ?_;refine lp2 (Kh.eq_2 a0 a1) (fun J U=>Yx 27 [eX 2 (a0.row.map .d),eX 3 (a1.row.map .d),(5,.one (.sref 5 0 0 J.length),[.arr false 1 (J.map iR)]),eI 6 (U:Int)]) (fun n1 J U=>a0.ZM.length<n1+U/\U<=a0.ZM.length/\J.length<=0+1*U) (a0.ZM.length+1) ([]:List Int) 0 (fun p1 J U e1 j1=>?_) (h0:=wkS [((5,0),some (7,0))] []);refine cF e1 ?_ ?_<;>intro k2 h1 e1
 ·have i1:=ix h1;have m2:=ml a0.ZM (k2 10 _ rfl);have c1:=sl 2318336 a0.ZM (an u0 u1);have w1:=wr U;refine dIo mixed ?_;simp[i1,ZD];refine rpS ?_;refine cRs (UP (nth a0.ZM U).Method a1 (sg u1)) ?_;exact nx2 e1 (hw:=XO [((5,0),some (25,0))] [] rfl zAd)
 exact rtD [.tmp 4] (ms f e1)
theorem Rw(a0:Zm):Sd 177 [a0.row] [rL 1 iR (zH a0)]:=by
 have f:=me (zH.eq_1 a0);refine soD func177 ntmps177 ?_;exact rtD [.tmp 2] f
theorem Uj(a0:Int)(a1:Zb)(u0:Sm 2326528 a1):Sa 248 [rI a0,a1.row] [rI (Kq a0 a1)]:=by
 have f:=me (Kq.eq_1 a0 a1);refine so func248 ntmps248 ?_;refine lp2 (Kk.eq_2 a1) (fun J U=>Yx 75 [eI 0 a0,eX 3 (a1.row.map .d),(5,.one (.sref 5 0 0 J.length),[.arr false 1 (J.map iR)]),eI 6 (U:Int)]) (fun n1 J U=>a1.Path.length<n1+U/\U<=a1.Path.length/\J.length<=4+2*U) (a1.Path.length+1) ([4,a1.Count,a1.Method,a1.BQ]:List Int) 0 (fun p1 J U e1 j1=>?_) (h0:=wkS [((5,0),some (14,0))] []);refine cFo e1 ?_ ?_<;>intro k2 h1 e1
 ·have q1:=h1;try simp at q1
  have i1:=ix h1;have m2:=ml a1.Path (k2 17 _ rfl);have c1:=sl 2326528 a1.Path u0;have w1:=wr U;simp[i1,ZD];refine rpS ?_;refine cFo e1 ?_ ?_<;>intro k3 h2 e1
  ·have q2:=h2;try simp at q2
   simp;refine rpS ?_;exact nx2 e1 (hw:=XO [((5,0),some (39,0))] [] rfl zAd)
  have q2:=h2;try simp at q2
  simp;refine rpS ?_;exact nx2 e1 (hw:=XO [((5,0),some (42,0))] [] rfl zAd)
 have q1:=h1;try simp at q1
 have c2:=sl 2326528 a1.Path u0;have f:=ms f e1;simp;refine rpS ?_;refine lp2 (yC.eq_2 a1) (fun iF iI=>Yx 75 [eI 0 a0,eX 3 (a1.row.map .d),(5,.one (.sref 5 0 0 iF.length),[.arr false 1 (iF.map iR)]),eI 7 (iI:Int)]) (fun n2 iF iI=>a1.YW.length<n2+iI/\iI<=a1.YW.length/\iF.length<=5+2*2326528+6*iI) (a1.YW.length+1) (J++([(a1.YW.length:Int)]:List Int)) 0 (fun p2 iF iI e2 j2=>?_) (hI:=by(have o:a1.Path.length<=2326528:=YQ (xs u0);simp at*;omega)) (h0:=wkS [((5,0),some (48,0))] []);refine cFo e2 ?_ ?_<;>intro k5 h3 e2
 ·have q3:=h3;try simp at q3
  have i2:=ix h3;have m4:=ml a1.YW (k5 51 _ rfl);have c3:=sl 2326528 a1.YW u0;have w2:=wr iI;simp;refine dIo mixed ?_;simp[i2,ZD];refine rpS ?_;refine cRf i2 (Yg.rd (Rw (nth a1.YW iI))) ?_;exact nx2 e2 (hI:=by(simp;omega)) (hw:=XO [((5,0),some (71,0))] [] rfl (by simp[w2]))
 have q3:=h3;try simp at q3
 have c4:=sl 2326528 a1.YW u0;have f:=ms f e2;simp;refine cRs (zB a0 iF zAK) ?_;exact rt [.tmp 4] f
theorem Up(a0:Int)(a1:List ZT)(u0:Sm 2326528 a1):Sa 282 [rI a0,rL 3 ZT.row a1] [rI (Kg a0 a1)]:=by
 have f:=me (Kg.eq_1 a0 a1);refine so func282 ntmps282 ?_;refine lp2 (yu.eq_2 a0 a1) (fun J U=>Yx 39 [eI 0 a0,eL 1 3 a1 ZT.row,(5,.one (.sref 5 0 0 J.length),[.arr false 1 (J.map iR)]),eI 6 (U:Int)]) (fun n1 J U=>a1.length<n1+U/\U<=a1.length/\J.length<=1+1*U) (a1.length+1) ([2]:List Int) 0 (fun p1 J U e1 j1=>?_) (h0:=wkS [((5,0),some (7,0))] []);refine cF e1 ?_ ?_<;>intro k2 h1 e1
 ·have i1:=ix h1;have m2:=ml a1 (k2 1 _ rfl);have c1:=sl 2326528 a1 u0;have w1:=wr U;refine FI [2,3,4,5,6,7,8,9,10,11,12,13,14,15,16,17,18,0,1,19,20,21,22] mixed zAV zAV zAV ?_;have c2:=sl 2326528 (nth a1 U).YM u0;simp[i1,ZD];refine rpS ?_;refine cRs (zB a0 (([(nth a1 U).Key,(nth a1 U).Mark]:List Int)++(nth a1 U).YM) zAj) ?_;exact nx2 e1 (hw:=XO [((5,0),some (35,0))] [] rfl zAd)
 have c3:=sl 2326528 a1 u0;have f:=ms f e1;refine cRs (zB a0 J zAK) ?_;exact rt [.tmp 4] f
theorem IA(a0 a1:Int)(a2:List ZT)(a3:Int)(u0:Sm 2322432 a2):Sa 249 [rI a0,rI a1,rL 3 ZT.row a2,rI a3] [rI (SL a0 a1 a2 a3)]:=by
 have f:=me (SL.eq_1 a0 a1 a2 a3);refine so func249 ntmps249 ?_;refine cRs (Up a0 a2 (sg u0)) ?_;refine cRs (zB a0 ([3,a1,Kg a0 a2,a3]:List Int) zAj) ?_;exact rt [.tmp 8] f
theorem JL(h:b)(k:a:=by(intros;first|omega|with_unfolding_all (first|first|omega|(have cc:a0.ZM.length<=2318336:=YQ (xs u0);have z0:=fD;simp at z0;have z:=Uc zAA z0.1;have z2:=z0.2;(try have w3:IntKind.i64.wrap (a2-1)=a2-1:=YX zAA zAA);(try have w4:W (a2-1)=a2-1:=w3);first|omega|(refine⟨⟨z0.1,zAA⟩,zAA,zAA⟩)|(simp_all;omega)))|(simp_all;done)|(simp_all;omega)|grind|((try simp only[Y0,show ∀x,IntKind.i64.wrap x=W x from fun _=>rfl]at*);omega))):a/\b:=⟨k,h⟩
theorem Bu(a0:ZW)(a1:List Int)(a2:Int)(u0:Sm 2318336 a0)(u1:Sm 2318336 a1):Sa 184 [a0.row,rL 1 iR a1,rI a2] [rI (W0 a0 a1 a2)]:=by
 have f:=me (W0.eq_1 a0 a1 a2);refine so func184 ntmps184 ?_;refine dIs mixed ?_;refine cRs (XC a2 0 (W ((a0.ZM.length:Int)-1))) ?_;refine gIo ?_ ?_<;>intro G
 ·have fD:=G;have c1:=sl 2318336 a0.ZM (an u0 u1);have w1:IntKind.i64.wrap ((a0.ZM.length:Int)-1)=(a0.ZM.length:Int)-1:=YX zAA zAA;have g1:=G;try simp[Ye,w1]at g1
  have i1:a2.toNat<a0.ZM.length:=zAR;simp[i1,ZD,G];refine zCI ?_;refine cGo (fun gg=>XC (nth a0.ZM a2.toNat).Count 0 (a0.ZI.length:Int)) ?_;simp[G];refine zCI ?_;refine cKo f ?_ ?_<;>intro k2 h1 f
  ·have q1:=h1;try simp[Ye,w1]at q1
   simp[G];refine zCI ?_;exact rtg [.tmp 6] f
  ·have q1:=h1;try simp[Ye,w1]at q1
   simp[i1,ZD,G];refine zCI ?_;refine cKo f ?_ ?_<;>intro k3 h2 f
   ·have q2:=h2;try simp at q2
    have i2:(W (a2-1)).toNat<a0.ZM.length:=zAR;simp[i2,ZD,G];refine zCI ?_;refine cR (Uj (nth a0.ZM a2.toNat).Method (nth a0.ZM (W (a2-1)).toNat) (sg (Zr (ZW.zR u0)))) ?_ (ij:=by first|(simp;done)|(simp[W,w1];done));simp[G];refine zCI ?_;refine dIo mixed ?_;have i3:a2.toNat<a1.length:=zAR;simp[i3,ZD,i1,G];refine zCI ?_;refine cR (IA (nth a0.ZM a2.toNat).Method (nth a1 a2.toNat) (a0.ZI.take (nth a0.ZM a2.toNat).Count.toNat) (Kq (nth a0.ZM a2.toNat).Method (nth a0.ZM (W (a2-1)).toNat)) (ZQ (n:=2318336) zAD (xs (an u0 u1)))) ?_ (ij:=by first|(simp;done)|(simp[W,w1];done));simp[G];refine zCI ?_;exact rtg [.tmp 6] f
   ·have q2:=h2;try simp at q2
    simp[G];refine zCI ?_;refine dIo mixed ?_;have i4:a2.toNat<a1.length:=zAR
    simp[i4,ZD,i1,G];refine zCI ?_;refine cR (IA (nth a0.ZM a2.toNat).Method (nth a1 a2.toNat) (a0.ZI.take (nth a0.ZM a2.toNat).Count.toNat) 0 (ZQ (n:=2318336) zAD (xs (an u0 u1)))) ?_;simp[G];refine zCI ?_;exact rtg [.tmp 6] f
 ·have fD:=G;simp[G];refine zCI ?_;refine sGo ?_;simp[G];refine zCI ?_;have c2:=sl 2318336 a0.ZM (an u0 u1);have w2:IntKind.i64.wrap ((a0.ZM.length:Int)-1)=(a0.ZM.length:Int)-1:=YX zAA zAA;refine cKo f ?_ ?_<;>intro k6 h3 f
  ·have q3:=h3;try simp[Ye,w2]at q3
   simp[G];refine zCI ?_;exact rtg [.tmp 6] f
  ·simp[G]at h3
theorem Ul(a0:ZE)(a1:Int)(u0:Sm 2314240 a0):Sd 116 [a0.row,rI a1] [rL 1 iR (YS a0 a1)]:=by
 have f:=me (YS.eq_1 a0 a1);refine soD func116 ntmps116 ?_;refine lp2 (KR.eq_2 a0 a1) (fun J U=>Yx 51 [eI 1 a1,eX 2 (a0.row.map .d),(5,.one (.sref 5 0 0 J.length),[.arr false 1 (J.map iR)]),eI 6 (U:Int)]) (fun n1 J U=>a0.ZB.length<n1+U/\U<=a0.ZB.length/\J.length<=0+1*U) (a0.ZB.length+1) ([]:List Int) 0 (fun p1 J U e1 j1=>?_) (h0:=wkS [((5,0),some (8,0))] []);refine cFf e1 ?_ ?_<;>intro k2 h1 e1
 ·have i1:=ix h1;have m2:=ml a0.ZB (k2 11 _ rfl);have c1:=sl 2314240 a0.ZB u0;have w1:=wr U;simp[i1,ZD];refine rpS ?_;refine cOs (Yg.own (xp (nth a0.ZB U).ZG (sg (ZN.XY (Zr (ZE.YO u0)))))) ?_;refine eIs ?_;have c2:=sl 2314240 (nth a0.ZB U).ZG.ZM u0;refine eIs ?_;refine dIo mixed ?_;simp[i1,ZD];refine rpS ?_;refine cDs [false] (IX (ZW.mk (nth a0.ZB U).ZG.ZI ((nth a0.ZB U).ZG.ZM++([Zb.mk ((nth a0.ZB U).ZG.ZI.length:Int) a1 0 ([]:List X8) ([]:List Zm)]:List Zb))) (nth a0.ZB U).Doc zAO zAO) ?_;refine cRs (Bu (ZW.mk (nth a0.ZB U).ZG.ZI ((nth a0.ZB U).ZG.ZM++([Zb.mk ((nth a0.ZB U).ZG.ZI.length:Int) a1 0 ([]:List X8) ([]:List Zm)]:List Zb))) (JW (ZW.mk (nth a0.ZB U).ZG.ZI ((nth a0.ZB U).ZG.ZM++([Zb.mk ((nth a0.ZB U).ZG.ZI.length:Int) a1 0 ([]:List X8) ([]:List Zm)]:List Zb))) (nth a0.ZB U).Doc) (W ((((nth a0.ZB U).ZG.ZM++([Zb.mk ((nth a0.ZB U).ZG.ZI.length:Int) a1 0 ([]:List X8) ([]:List Zm)]:List Zb)).length:Int)-1)) zAO zAO) ?_ (ij:=by first|(simp;done)|(simp[W,w1];done));exact nx2 e1 (hw:=XO [((5,0),some (49,0))] [] rfl zAd)
 have c3:=sl 2314240 a0.ZB u0;exact rtD [.tmp 4] (ms f e1)
theorem Ih(a0 a1 a2:Int):Sa 280 [rI a0,rI a1,rI a2] [rI (ko a0 a1 a2)]:=by
 have f:=me (ko.eq_1 a0 a1 a2);refine so func280 ntmps280 ?_;refine cRs (zB a0 ([1,a1,a2]:List Int) (by simp(maxDischargeDepth:=12) [SA,XM];try omega)) ?_;exact rt [.tmp 6] f
theorem Sy(a0:Int)(a1:List Int)(u0:Sm 2322432 a1):Sd 243 [rI a0,rL 1 iR a1] [rL 1 iR (Wa a0 a1)]:=by
 have f:=me (Wa.eq_1 a0 a1);refine soD func243 ntmps243 ?_;refine lp2 (kG.eq_2 a0 a1) (fun J U=>Yx 41 [eI 0 a0,eL 1 1 a1 iR,(5,.one (.sref 5 0 0 J.length),[.arr false 1 (J.map iR)]),eI 6 (U:Int)]) (fun n1 J U=>a1.length<n1+U/\U<=a1.length+1/\J.length<=U) (a1.length+1) ([]:List Int) 0 (fun p1 J U e1 j1=>?_) (h0:=wkS [((5,0),some (7,0))] []);refine cF e1 ?_ ?_<;>intro k2 h1 e1
 ·have i1:=ix h1;have m2:=ml a1 (k2 1 _ rfl);have c1:=sl 2322432 a1 u0;have w1:=wr U;refine cFt e1 ?_ ?_<;>intro k3 h2 e1
  ·refine okD fun k4=>?_;refine dIo mixed ?_;have i2:=ik (W ((U:Int)+1)).toNat a1
   simp[i1,ZD,i2];refine rpS ?_;refine cRs (Ih a0 (nth a1 U) (nth a1 (W ((U:Int)+1)).toNat)) ?_ (ij:=by first|(simp;done)|(simp[W,w1];done));have w2:IntKind.i64.wrap ((U:Int)+2)=(U:Int)+2:=YX zAA zAA
   exact nx2 e1 (hI:=by first|omega|(simp at*;omega)) (hw:=XO [((5,0),some (32,0))] [] rfl zB1)
  simp[i1,ZD];refine rpS ?_;have w3:IntKind.i64.wrap ((U:Int)+2)=(U:Int)+2:=YX zAA zAA
  exact nx2 e1 (hI:=by first|omega|(simp at*;omega)) (hw:=XO [((5,0),some (39,0))] [] rfl (by simp[w1,w3]))
 exact rtD [.tmp 4] (ms f e1)
theorem TV(a0:Int)(a1:List Int)(u0:Sm 2318336 a1):Sa 175 [rI a0,rL 1 iR a1] [rI (Kt a0 a1)]:=by
 have f:=me (Kt.eq_1 a0 a1);refine so func175 ntmps175 ?_;refine cRs (XC (a1.length:Int) 1 16) ?_;refine cFo f ?_ ?_<;>intro k1 h1 f
 ·have q1:=h1;try simp[Ye]at q1
  simp;exact rt [.tmp 4] f
 have q1:=h1;try simp[Ye]at q1
 simp;refine rpS ?_;refine lp1 (kc.eq_2 a0) (fun J=>Yx 22 [eI 0 a0,(5,.one (.sref 5 0 0 J.length),[.arr false 1 (J.map iR)])]) (fun n1 J=>J.length<n1/\1<=J.length/\J.length<=16) (a1.length+1) a1 (fun p1 J e1 j1=>?_) (hI:=by first|omega|(simp at*;omega)) (h0:=wkS [((5,0),some (12,0))] []);refine cFt e1 ?_ ?_<;>intro k3 h2 e1
 ·refine cDs [false] (Sy a0 J zAP) ?_;exact nx1 e1 (hI:=by(have z:=U9 a0 J zAA;(try dsimp only);simp at*;omega)) (hw:=wkS [((5,0),some (18,0))] [])
 have f:=ms f e1;have i1:=ik 0 J;simp[i1,ZD];refine rpS ?_;exact rt [.tmp 4] f
theorem Cy(a0:ZE)(a1:Int)(u0:Sm 2310144 a0):Sa 107 [a0.row,rI a1] [rI (yx a0 a1)]:=by
 have f:=me (yx.eq_1 a0 a1);refine so func107 ntmps107 ?_;refine cRs (Yg.rd (Ul a0 a1 (sg u0))) ?_;refine cRs (TV a1 (YS a0 a1) (by simp(maxDischargeDepth:=12) [kO,ZQ (m:=2318336) zAD u0];try omega)) ?_;exact rt [.tmp 4] f
theorem O0(a0:List Int)(a1:Int):Sa 109 [rL 1 iR a0,rI a1] [rB (Pv a0 a1)]:=by
 have f:=me (Pv.eq_1 a0 a1);refine so func109 ntmps109 ?_;refine lp1 (Pd.eq_2 a0 a1) (fun J=>Yx 18 [eL 0 1 a0 iR,eI 1 a1,eI 5 (J:Int)]) (fun n1 J=>a0.length<n1+J/\J<=a0.length) (a0.length+1) 0 (fun p1 J e1 j1=>?_);refine cFf e1 ?_ ?_<;>intro k2 h1 e1
 ·have i1:=ix h1;have m2:=ml a0 (k2 0 _ rfl);have w1:=wr J;simp[i1,ZD];refine rpS ?_;refine cF e1 ?_ ?_<;>intro k3 h2 e1
  ·exact rt [.tmp 4] (ms f e1)
  exact ny1 w1 e1
 exact rt [.tmp 4] (ms f e1)
theorem UW(a0:List Y4)(a1:List Zi)(a2:Zm)(u0:Sm 2322432 a0)(u1:Sm 2322432 a1):Sa 110 [rL 5 Y4.row a0,rL 3 Zi.row a1,a2.row] [(Kd a0 a1 a2).1.row,rB (Kd a0 a1 a2).2]:=by
 have f:=me (Kd.eq_1 a0 a1 a2);refine so func110 ntmps110 ?_;refine cRs (xZ a1 a2.Authority) ?_;refine cGs (fun gg=>Wy a2.Time) ?_;refine cFt f ?_ ?_<;>intro k1 h1 f
 ·exact rt [.cell 6 135,.tmp 7] f
 have i1:(Zj a1 a2.Authority).toNat<a1.length:=by have:=JZ a1 a2.Authority;exact il
 simp[i1,ZD];refine rpS ?_;refine cRs (KU a0 (nth a1 (Zj a1 a2.Authority).toNat).Key) ?_;refine cF f ?_ ?_<;>intro k2 h2 f
 ·exact rt [.cell 6 135,.tmp 7] f
 refine dIo mixed ?_;have i2:(Yk a0 (nth a1 (Zj a1 a2.Authority).toNat).Key).toNat<a0.length:=by have:=KO a0 (nth a1 (Zj a1 a2.Authority).toNat).Key;exact il
 simp[i2,ZD];refine rpS ?_;refine cRs (Yg.rd (Rw a2)) ?_;refine cRs (Wc (nth a0 (Yk a0 (nth a1 (Zj a1 a2.Authority).toNat).Key).toNat) (zH a2) (by simp(maxDischargeDepth:=12) [H9,ZQ (m:=2326528) zAD u0,ZQ (m:=2326528) zAD u1];try omega)) ?_;exact rt [.cell 6 135,.tmp 7] f
theorem Th(h:b)(k:a:=by(intros;first|omega|with_unfolding_all (first|first|omega|(have tm:=Int.tmod_eq_emod_of_nonneg (b:=2) (show 0<=J by omega);(try simp only[Y0,show ∀x,IntKind.i64.wrap x=W x from fun _=>rfl]at*);(try simp at*);omega))|((try simp only[Y0,show ∀x,IntKind.i64.wrap x=W x from fun _=>rfl]at*);omega))):a/\b:=⟨k,h⟩
theorem Fz(a0:Int)(a1:List Int)(a2:Int)(u0:Sm 2318336 a1):Sd 178 [rI a0,rL 1 iR a1,rI a2] [rL 2 X8.row (za a0 a1 a2)]:=by
 have f:=me (za.eq_1 a0 a1 a2);refine soD func178 ntmps178 ?_;refine cGs (fun gg=>XC a2 0 (W ((a1.length:Int)-1))) ?_;have c1:=sl 2318336 a1 u0;have w1:IntKind.i64.wrap ((a1.length:Int)-1)=(a1.length:Int)-1:=YX zAA zAA;refine cFo f ?_ ?_<;>intro k1 h1 f
 ·have q1:=h1;try simp[Ye,w1]at q1
  simp;exact rtD [.tmp 6] f
 have q1:=h1;try simp[Ye,w1]at q1
 simp;repeat with_reducible refine Th ?_
 refine lp3 (Ky.eq_2 a0) (fun J U iD=>Yx 60 [eI 0 a0,eI 2 J,(7,.one (.sref 7 0 0 U.length),[.arr false 2 (U.map X8.row)]),(8,.one (.sref 8 0 0 iD.length),[.arr false 1 (iD.map iR)])]) (fun n1 J U iD=>iD.length<n1/\0<=J/\J<(iD.length:Int)/\iD.length<=16/\U.length+n1<=17) (a1.length+1) a2 ([]:List X8) a1 (fun p1 J U iD e1 j1=>?_) (hI:=by first|omega|(simp at*;omega)) (h0:=wkS [((7,0),some (9,0)),((8,0),some (24,0))] []);try dsimp only at j1
 refine cF e1 ?_ ?_<;>intro k3 h2 e1
 ·refine cFf e1 ?_ ?_<;>intro k4 h3 e1
  ·have i1:(W (J-1)).toNat<iD.length:=zAs;simp[i1,ZD];repeat with_reducible refine Th ?_
   refine cDs [false] (Sy a0 iD zAP) ?_;exact nx3 e1 (hI:=by(have z:=U9 a0 iD zAA;have td:=Int.tdiv_eq_ediv_of_nonneg (b:=2) (show 0<=J by omega);have w2:W (Int.tdiv J 2)=Int.tdiv J 2:=YX zAA zAA;(try dsimp only);rw[w2];simp at*;omega)) (hw:=XO [((7,0),some (39,0)),((8,0),some (56,0))] [] rfl zAd)
  refine cFo e1 ?_ ?_<;>intro k5 h4 e1
  ·have q4:=h4;try simp[w1]at q4
   have i2:(W (J+1)).toNat<iD.length:=zAs;simp[i2,ZD];repeat with_reducible refine Th ?_
   refine cDs [false] (Sy a0 iD zAP) ?_;exact nx3 e1 (hI:=by(have z:=U9 a0 iD zAA;have td:=Int.tdiv_eq_ediv_of_nonneg (b:=2) (show 0<=J by omega);have w2:W (Int.tdiv J 2)=Int.tdiv J 2:=YX zAA zAA;(try dsimp only);rw[w2];simp at*;omega)) (hw:=XO [((7,0),some (53,0)),((8,0),some (56,0))] [] rfl zAd)
  have q4:=h4;try simp[w1]at q4
  simp;refine cDs [false] (Sy a0 iD zAP) ?_;exact nx3 e1 (hI:=by(have z:=U9 a0 iD zAA;have td:=Int.tdiv_eq_ediv_of_nonneg (b:=2) (show 0<=J by omega);have w2:W (Int.tdiv J 2)=Int.tdiv J 2:=YX zAA zAA;(try dsimp only);rw[w2];simp at*;omega)) (hw:=XO [((8,0),some (56,0))] [] rfl zAd)
 exact rtD [.tmp 6] (ms f e1)
theorem RD(a0:ZW)(a1:Zb)(u0:Sm 2326528 a0)(u1:Sm 2326528 a1):Sd 117 [a0.row,a1.row] [(JD a0 a1).1.row,rB (JD a0 a1).2]:=by
 have f:=me (JD.eq_1 a0 a1);refine soD func117 ntmps117 ?_;refine cDs [] (xp a0 (sg u0)) ?_;refine drJ [14] mixed ?_;simp;refine cDs [true,true,true,false,false] (OD a1 (sg u1)) ?_;refine kI ?_;have c1:=sl 2326528 a0.ZM (an u0 u1);simp;refine WV (iJ:=a0.ZM.map Zb.row) (news:=([a1]:List Zb).map Zb.row) (l1:=[(8,1)]) (l2:=[(12,3),(12,4)]) (size:=5) ?_;simp;refine cRs (Tm (ZW.mk a0.ZI (a0.ZM++([a1]:List Zb)))) ?_;refine cF f ?_ ?_<;>intro k2 h1 f
 ·refine cDs [] (xp a0 (sg u0)) ?_;exact rtD [.cell 4 50,.tmp 5] f
 exact rtD [.cell 4 50,.tmp 5] f
theorem Mp(a0:ZE)(a1:Int)(a2:List Zm)(u0:Sm 2310144 a0)(u1:Sm 2310144 a2):Sd 111 [a0.row,rI a1,rL 5 Zm.row a2] [(Qv a0 a1 a2).1.row,rB (Qv a0 a1 a2).2]:=by
 have f:=me (Qv.eq_1 a0 a1 a2);refine soD func111 ntmps111 ?_;refine cDs [] (QZ a0 (sg u0)) ?_;refine cRs (Yg.rd (Ul a0 a1 (sg u0))) ?_;refine cRs (TV a1 (YS a0 a1) zBD) ?_;refine cRs (qU a0) ?_;refine lp3 (J7.eq_2 a0 a1 a2) (fun J U iD=>Yx 84 [eI 1 a1,eL 2 5 a2 Zm.row,eX 3 (a0.row.map .d),(6,.one (.bptr 6 0),[.box [.d (.int .i64 0),.nil 16]]),(8,.one (.bptr 8 0),[.box [.d (.int .i64 a0.Id),.sref 16 1 0 iD.length]]),eL 9 1 (YS a0 a1) iR,eI 10 (Kt a1 (YS a0 a1)),eB 11 J,eI 12 (U:Int),(16,.any,[.none,.arr true 16 (iD.map ZN.row)])]) (fun n1 J U iD=>a0.ZB.length<n1+U/\U<=a0.ZB.length/\iD.length=a0.ZB.length) (a0.ZB.length+1) (Jf a0&&(decide ((a0.ZB.length:Int)>0))) 0 a0.ZB (fun p1 J U iD e1 j1=>?_);refine cF e1 ?_ ?_<;>intro k2 h1 e1
 ·have i1:U<a0.ZB.length:=zBw;have m2:=ml a0.ZB (k2 33 _ rfl);have c1:=sl 2310144 a0.ZB (an u0 u1);have w1:=wr U;refine dIo mixed ?_;simp[i1,ZD];refine rpS ?_;refine cRs (Yg.rd (Fz a1 (YS a0 a1) (U:Int) zBD)) ?_;have i2:=ik U iD;refine cDf i2 [] (RD (nth a0.ZB U).ZG (Zb.mk ((nth a0.ZB U).ZG.ZI.length:Int) a1 (Kt a1 (YS a0 a1)) (za a1 (YS a0 a1) (U:Int)) a2) (sg (ZN.XY (Zr (ZE.YO u0)))) (by simp(maxDischargeDepth:=12) [EZ,kO,ZQ (m:=2326528) zAD u0,ZQ (m:=2326528) zAD u1];try omega)) ?_;refine pb (t:=16) (j:=1) (i:=U) (c:=14) (size:=16) (rows:=iD.map ZN.row) (ds:=(JD (nth a0.ZB U).ZG (Zb.mk ((nth a0.ZB U).ZG.ZI.length:Int) a1 (Kt a1 (YS a0 a1)) (za a1 (YS a0 a1) (U:Int)) a2)).1.row) (L:=[(64,0),(64,1)]) rfl rfl rfl rfl zAE zAE (by simp;try omega) zAE zAE zAE zAE zAE zAE ?_;simp[Kx (x:=ZN.mk (nth iD U).Id (nth iD U).XF (nth iD U).Doc (nth iD U).Sig (JD (nth a0.ZB U).ZG (Zb.mk ((nth a0.ZB U).ZG.ZI.length:Int) a1 (Kt a1 (YS a0 a1)) (za a1 (YS a0 a1) (U:Int)) a2)).1) rfl,i2,ZD,XX];refine rpS ?_;exact ny3 w1 e1
 have c2:=sl 2310144 a0.ZB (an u0 u1);have f:=ms f e1;refine cGs (fun gg=>qU (ZE.mk a0.Id iD)) ?_;refine cF f ?_ ?_<;>intro k4 h2 f
 ·refine cDs [] (QZ a0 (sg u0)) ?_;exact rtD [.cell 6 55,.tmp 7] f
 exact rtD [.cell 6 55,.tmp 7] f
theorem QV(h:b)(k:a:=by(intros;first|omega|with_unfolding_all (first|first|omega|(have z:=J6 (a0:=a0) (a1:=a2) (j:=U) zAn zAA;omega)|(have z:=J6 (a0:=a0) (a1:=a2) (j:=iF) zAn zAA;omega))|((try simp only[Y0,show ∀x,IntKind.i64.wrap x=W x from fun _=>rfl]at*);omega))):a/\b:=⟨k,h⟩
theorem Hl(a0:ZF)(a1:Int)(a2:List Int)(a3:Int)(u0:Sm 2306048 a0)(u1:Sm 2306048 a2):Sd 45 [a0.row,rI a1,rL 1 iR a2,rI a3] [(qY a0 a1 a2 a3).1.row,rB (qY a0 a1 a2 a3).2]:=by
 have f:=me (qY.eq_1 a0 a1 a2 a3);refine soD func45 ntmps45 ?_;refine cDs [false,false,false,true,true,false,false,true,false,false,true,false] (JV a0 (sg u0)) ?_;refine cRs (ja a0.Frame.Methods a0.Frame.Now) ?_;refine cRs (kF a0 a1) ?_;refine cGs (fun gg=>BB a0 a2) ?_;refine cGs (fun gg=>XC a3 (-10000) 10000) ?_;have c1:=sl 2306048 a0.ZA (an u0 u1);have w1:IntKind.i64.wrap ((a0.ZA.length:Int)-1)=(a0.ZA.length:Int)-1:=YX zAA zAA;refine cFo f ?_ ?_<;>intro k1 h1 f
 ·have q1:=h1;try simp[Ye,w1,JG]at q1
  simp;exact rtD [.cell 8 33,.tmp 9] f
 have q1:=h1;try simp[Ye,w1,JG]at q1
 have i1:a1.toNat<a0.ZA.length:=by first|omega|(have z:=J6 (a0:=a0) (a1:=a2) (j:=U) zAn zAA;omega)|(have z:=J6 (a0:=a0) (a1:=a2) (j:=iF) zAn zAA;omega)
 simp[i1,ZD];refine zCJ ?_;refine cRs (Cy (nth a0.ZA a1.toNat) (Zo a0.Frame.Methods a0.Frame.Now) (sg (Zr (ZF.YR u0)))) ?_;refine lp2 (yS.eq_2 a0 a1 a2 a3) (fun J U=>Yx 162 [eI 1 a1,eL 2 1 a2 iR,eI 3 a3,eX 4 (a0.row.map .d),(8,.one (.bptr 8 0),[.box [.nil 5,.nil 3,.nil 4,.d (.int .i64 0),.d (.int .i64 0),.nil 7,.nil 1,.nil 2,.nil 1,.nil 1,.d (.int .i64 0),.nil 1]]),(10,.one (.bptr 10 0),[.box [.sref 24 0 0 a0.Frame.Zt.length,.sref 24 1 0 a0.Frame.ZC.length,.sref 24 2 0 a0.Frame.Methods.length,.d (.int .i64 a0.Frame.XJ),.d (.int .i64 a0.Frame.Now),.sref 24 5 0 a0.Zd.length,.sref 24 6 0 a0.Zw.length,.sref 24 7 0 a0.ZA.length,.sref 24 8 0 a0.Y2.length,.sref 24 9 0 a0.Yc.length,.d (.int .i64 a0.Next),.sref 24 11 0 a0.YL.length]]),eI 11 (Zo a0.Frame.Methods a0.Frame.Now),eI 12 (yx (nth a0.ZA a1.toNat) (Zo a0.Frame.Methods a0.Frame.Now)),(13,.one (.sref 13 0 0 J.length),[.arr false 5 (J.map Zm.row)]),eI 14 (U:Int),(24,.any,[.arr false 5 (a0.Frame.Zt.map Y4.row),.arr false 3 (a0.Frame.ZC.map Zi.row),.arr false 4 (a0.Frame.Methods.map YH.row),.none,.none,.arr false 7 (a0.Zd.map YN.row),.arr false 1 (a0.Zw.map iR),.arr true 2 (a0.ZA.map ZE.row),.arr false 1 (a0.Y2.map iR),.arr false 1 (a0.Yc.map iR),.none,.arr false 1 (a0.YL.map iR)])]) (fun n1 J U=>a2.length<n1+U/\U<=a2.length/\J.length<=0+1*U) (a2.length+1) ([]:List Zm) 0 (fun p1 J U e1 j1=>?_) (h0:=wkS [((13,0),some (59,0))] []);try dsimp only at j1
 refine cFt e1 ?_ ?_<;>intro k3 h2 e1
 ·have i2:=ix h2;have m2:=ml a2 (k3 2 _ rfl);have c2:=sl 2306048 a2 (an u0 u1);have w2:=wr U;refine dIo mixed ?_;simp[i2,ZD];refine zCJ ?_;refine cRs (xZ a0.Frame.ZC (nth a2 U)) ?_;refine dIo mixed ?_;simp[i2,ZD];refine zCJ ?_;refine cRs (O0 a0.Yc (nth a2 U)) ?_;refine cF e1 ?_ ?_<;>intro k6 h3 e1
  ·refine cRs (FN 0 (W (a0.Frame.Now+a3))) ?_ (ij:=by first|(simp;done)|(simp[W,w1,w2];done));refine cRs (B4 10000 (qB 0 (W (a0.Frame.Now+a3)))) ?_ (ij:=by first|(simp;done)|(simp[W,w1,w2];done));refine dIo mixed ?_;have i3:(Zj a0.Frame.ZC (nth a2 U)).toNat<a0.Y2.length:=zAh
   simp[i2,ZD,i3];refine zCJ ?_;refine cRs (UW a0.Frame.Zt a0.Frame.ZC (Zm.mk (nth a2 U) (nth a0.Y2 (Zj a0.Frame.ZC (nth a2 U)).toNat) (W3 10000 (qB 0 (W (a0.Frame.Now+a3)))) (yx (nth a0.ZA a1.toNat) (Zo a0.Frame.Methods a0.Frame.Now)) 0) (sg (ZO.Xb (ZF.Xr u0))) (sg (ZO.XW (ZF.Xr u0)))) ?_ (ij:=by first|(simp;done)|(simp[W,w1,w2];done));refine cFo e1 ?_ ?_<;>intro k8 h4 e1
   ·have q4:=h4;try simp[w1]at q4
    have f:=ms f e1;simp;exact rtD [.cell 8 33,.tmp 9] f
   have q4:=h4;try simp[w1]at q4
   simp;refine zCJ ?_;exact nx2 e1 (hw:=XO [((13,0),some (117,0))] [] rfl zB1)
  refine dIo mixed ?_;have i4:(Zj a0.Frame.ZC (nth a2 U)).toNat<a0.Y2.length:=zAh
  simp[i2,ZD,i4];refine zCJ ?_;refine cRs (UW a0.Frame.Zt a0.Frame.ZC (Zm.mk (nth a2 U) (nth a0.Y2 (Zj a0.Frame.ZC (nth a2 U)).toNat) a0.Frame.Now (yx (nth a0.ZA a1.toNat) (Zo a0.Frame.Methods a0.Frame.Now)) 0) (sg (ZO.Xb (ZF.Xr u0))) (sg (ZO.XW (ZF.Xr u0)))) ?_;refine cFt e1 ?_ ?_<;>intro aZ h5 e1
  ·exact rtD [.cell 8 33,.tmp 9] (ms f e1)
  simp;refine zCJ ?_;exact nx2 e1 (hw:=XO [((13,0),some (117,0))] [] rfl zB1)
 have c3:=sl 2306048 a2 (an u0 u1);have f:=ms f e1;simp[i1,ZD];refine zCJ ?_;refine cDs [] (Mp (nth a0.ZA a1.toNat) (Zo a0.Frame.Methods a0.Frame.Now) J (sg (Zr (ZF.YR u0))) (by first|(simp(maxDischargeDepth:=12) [XM];omega)|(simp(maxDischargeDepth:=12) [ZQ (m:=2310144) zAD u0,ZQ (m:=2310144) zAD u1];done))) ?_;refine cF f ?_ ?_<;>intro k11 h6 f
 ·exact rtD [.cell 8 33,.tmp 9] f
 refine lp2 (jN.eq_2 a0 a2) (fun iF iI=>Yx 162 [eI 1 a1,eL 2 1 a2 iR,eX 4 (a0.row.map .d),(8,.one (.bptr 8 0),[.box [.nil 5,.nil 3,.nil 4,.d (.int .i64 0),.d (.int .i64 0),.nil 7,.nil 1,.nil 2,.nil 1,.nil 1,.d (.int .i64 0),.nil 1]]),(10,.one (.bptr 10 0),[.box [.sref 24 0 0 a0.Frame.Zt.length,.sref 24 1 0 a0.Frame.ZC.length,.sref 24 2 0 a0.Frame.Methods.length,.d (.int .i64 a0.Frame.XJ),.d (.int .i64 a0.Frame.Now),.sref 24 5 0 a0.Zd.length,.sref 24 6 0 a0.Zw.length,.sref 24 7 0 a0.ZA.length,.sref 24 8 0 iI.length,.sref 24 9 0 a0.Yc.length,.d (.int .i64 a0.Next),.sref 24 11 0 a0.YL.length]]),(19,.one (.bptr 19 0),[.box [.d (.int .i64 (Qv (nth a0.ZA a1.toNat) (Zo a0.Frame.Methods a0.Frame.Now) J).1.Id),.sref 126 1 0 (Qv (nth a0.ZA a1.toNat) (Zo a0.Frame.Methods a0.Frame.Now) J).1.ZB.length]]),eI 21 (iF:Int),(24,.any,[.arr false 5 (a0.Frame.Zt.map Y4.row),.arr false 3 (a0.Frame.ZC.map Zi.row),.arr false 4 (a0.Frame.Methods.map YH.row),.none,.none,.arr false 7 (a0.Zd.map YN.row),.arr false 1 (a0.Zw.map iR),.arr true 2 (a0.ZA.map ZE.row),.arr false 1 (iI.map iR),.arr false 1 (a0.Yc.map iR),.none,.arr false 1 (a0.YL.map iR)]),(126,.any,[.none,.arr true 16 ((Qv (nth a0.ZA a1.toNat) (Zo a0.Frame.Methods a0.Frame.Now) J).1.ZB.map ZN.row)])]) (fun n2 iF iI=>a2.length<n2+iF/\iF<=a2.length/\iI.length=a0.Y2.length) (a2.length+1) 0 a0.Y2 (fun p2 iF iI e2 j2=>?_);try dsimp only at j2
 refine cFt e2 ?_ ?_<;>intro aY h7 e2
 ·have i5:=ix h7;have m4:=ml a2 (aY 2 _ rfl);have w3:=wr iF;refine dIo mixed ?_;simp[i5,ZD];refine zCJ ?_;refine cRs (xZ a0.Frame.ZC (nth a2 iF)) ?_;refine dIo mixed ?_;have i6:(Zj a0.Frame.ZC (nth a2 iF)).toNat<a0.Y2.length:=zAg;have i7:(Zj a0.Frame.ZC (nth a2 iF)).toNat<iI.length:=zAg;simp[i6,ZD,i7,Kx (x:=W (nth a0.Y2 (Zj a0.Frame.ZC (nth a2 iF)).toNat+1)) rfl];refine zCJ ?_;exact ny2 (an w1 w3) e2
 have f:=ms f e2;simp[i1,ZD];refine zCJ ?_;refine MU (t:=24) (j:=7) (i:=a1.toNat) (size:=2) (rows:=a0.ZA.map ZE.row) (ds:=(Qv (nth a0.ZA a1.toNat) (Zo a0.Frame.Methods a0.Frame.Now) J).1.row) (L:=[(126,1)]) ?_;simp[Kx (x:=(Qv (nth a0.ZA a1.toNat) (Zo a0.Frame.Methods a0.Frame.Now) J).1) rfl,c1,i1,ZD,XX];refine zCJ ?_;exact rtD [.cell 8 33,.tmp 9] f
theorem I4(a0:Int)(a1:ZN)(u0:Sm 2318336 a1):Sa 281 [rI a0,a1.row] [rI (kQ a0 a1)]:=by
 have f:=me (kQ.eq_1 a0 a1);refine so func281 ntmps281 ?_;refine dIs mixed ?_;refine cRs (UP a0 a1.Doc (sg (ZN.xx u0))) ?_;refine cRs (Up a0 a1.ZG.ZI (sg (ZW.QE (ZN.XY u0)))) ?_;refine lp2 (qI.eq_2 a0 a1) (fun J U=>Yx 43 [eI 0 a0,eX 3 (a1.row.map .d),(5,.one (.sref 5 0 0 J.length),[.arr false 1 (J.map iR)]),eI 6 (U:Int)]) (fun n1 J U=>a1.ZG.ZM.length<n1+U/\U<=a1.ZG.ZM.length/\J.length<=5+1*U) (a1.ZG.ZM.length+1) ([5,a1.Id,a1.XF,JN a0 a1.Doc,Kg a0 a1.ZG.ZI]:List Int) 0 (fun p1 J U e1 j1=>?_) (h0:=wkS [((5,0),some (20,0))] []);refine cFf e1 ?_ ?_<;>intro k3 h1 e1
 ·have i1:=ix h1;have m2:=ml a1.ZG.ZM (k3 24 _ rfl);have c1:=sl 2318336 a1.ZG.ZM u0;have w1:=wr U;simp[i1,ZD];refine rpS ?_;refine cRs (Uj a0 (nth a1.ZG.ZM U) (sg (Zr (ZW.zR (ZN.XY u0))))) ?_;exact nx2 e1 (hw:=XO [((5,0),some (39,0))] [] rfl zAd)
 have c2:=sl 2318336 a1.ZG.ZM u0;have f:=ms f e1;refine cRs (zB a0 J zAK) ?_;exact rt [.tmp 4] f
theorem Nz(a0:Int)(a1:List ZN)(u0:Sm 2314240 a1):Sa 244 [rI a0,rL 16 ZN.row a1] [rI (Vx a0 a1)]:=by
 have f:=me (Vx.eq_1 a0 a1);refine so func244 ntmps244 ?_;refine lp2 (Wr.eq_2 a0 a1) (fun J U=>Yx 26 [eI 0 a0,eL 1 16 a1 ZN.row,(5,.one (.sref 5 0 0 J.length),[.arr false 1 (J.map iR)]),eI 6 (U:Int)]) (fun n1 J U=>a1.length<n1+U/\U<=a1.length/\J.length<=0+1*U) (a1.length+1) ([]:List Int) 0 (fun p1 J U e1 j1=>?_) (h0:=wkS [((5,0),some (7,0))] []);refine cFf e1 ?_ ?_<;>intro k2 h1 e1
 ·have i1:=ix h1;have m2:=ml a1 (k2 1 _ rfl);have c1:=sl 2314240 a1 u0;have w1:=wr U;simp[i1,ZD];refine rpS ?_;refine cRs (I4 a0 (nth a1 U) (sg (Zr u0))) ?_;exact nx2 e1 (hw:=XO [((5,0),some (22,0))] [] rfl zAd)
 have c2:=sl 2314240 a1 u0;have f:=ms f e1;refine cRs (TV a0 J zA4) ?_;exact rt [.tmp 4] f
theorem HR(a0:ZE)(a1:Int)(a2:List Int)(a3:Int)(u0:Sm 2310144 a0)(u1:Sm 2310144 a2):So 179 [a0.row,rI a1,rL 1 iR a2,rI a3] [(X3 a0 a1 a2 a3).1.row,rB (X3 a0 a1 a2 a3).2]:=by
 have f:=me (X3.eq_1 a0 a1 a2 a3);refine so func179 ntmps179 ?_;refine lp2 (J2.eq_2 a0 a2) (fun J U=>Yx 53 [eL 2 1 a2 iR,eI 3 a3,eX 4 (a0.row.map .d),(8,.one (.bptr 8 0),[.box [.d (.int .i64 0),.d (.int .i64 0),.nil 16,.d (.int .i64 0)]]),(10,.one (.bptr 10 0),[.box [.d (.int .i64 a0.Id),.d (.int .i64 a1),.sref 10 3 0 U.length,.d (.int .i64 0)],.none,.none,.arr false 16 (U.map ZN.row)]),eI 11 (J:Int)]) (fun n1 J U=>a2.length<n1+J/\J<=a2.length/\U.length<=J/\(∀x∈U,Sm 2310144 x)) (a2.length+1) 0 ([]:List ZN) (fun p1 J U e1 j1=>?_) (hI:=by exact⟨zAA,zAA,Nat.zero_le _,Nat.zero_le _,fun x h=>by cases h⟩) (h0:=wkS [((10,3),none)] []);try dsimp only at j1
 refine cF e1 ?_ ?_<;>intro k2 h1 e1
 ·have i1:=ix h1;have m2:=ml a2 (k2 2 _ rfl);have c1:=sl 2310144 a2 (an u0 u1);have w1:=wr J;refine dIo mixed ?_;simp[i1,ZD];refine rpS ?_;refine cRs (jK a0 (nth a2 J)) ?_;refine cF e1 ?_ ?_<;>intro k4 h2 e1
  ·exact rtO [.cell 8 197,.tmp 9] (ms f e1)
  refine dIo mixed ?_;have i2:(Yz a0 (nth a2 J)).toNat<a0.ZB.length:=by have:=Ts a0 (nth a2 J);exact il
  simp[i2,ZD];refine rpS ?_;refine cRs (Yg.rd (JT (nth a0.ZB (Yz a0 (nth a2 J)).toNat) (sg (Zr (ZE.YO u0))))) ?_;refine eIs ?_;refine eIs ?_;exact nx2 e1 (hI:=by((try dsimp only);refine⟨zAA,zAA,zAA,by simp;omega,fun x hx=>?_⟩;rcases List.mem_append.1 hx with hx|hx;exact j1.2.2.2.2 x hx;have e:=List.mem_singleton.1 hx;subst e;exact Zr (ZE.YO u0))) (hw:=XO [((10,3),some (41,0))] [] rfl zAd)
 have c2:=sl 2310144 a2 (an u0 u1);have f:=ms f e1;refine cF f ?_ ?_<;>intro k6 h3 f
 ·exact rtO [.cell 8 197,.tmp 9] f
 refine cRs (Nz a3 U zBF) ?_;exact rtO [.cell 8 197,.tmp 9] f
theorem LP(a0:Yl)(a1:Int)(u0:Sm 2310144 a0):Sa 245 [a0.row,rI a1] [rB (zG a0 a1)]:=by
 have f:=me (zG.eq_1 a0 a1);refine so func245 ntmps245 ?_;refine lp1 (KC.eq_2 a0) (fun J=>Yx 33 [eI 1 a1,eX 2 (a0.row.map .d),eI 5 (J:Int)]) (fun n1 J=>a0.ZB.length<n1+J/\J<=a0.ZB.length) (a0.ZB.length+1) 0 (fun p1 J e1 j1=>?_);refine cFf e1 ?_ ?_<;>intro k2 h1 e1
 ·have i1:=ix h1;have m2:=ml a0.ZB (k2 8 _ rfl);have c1:=sl 2310144 a0.ZB u0;have w1:=wr J;simp[i1,ZD];refine rpS ?_;refine cRs (L8 (nth a0.ZB J)) ?_;refine cF e1 ?_ ?_<;>intro k3 h2 e1
  ·exact rt [.tmp 4] (ms f e1)
  exact ny1 w1 e1
 have f:=ms f e1;refine dIs mixed ?_;refine cRs (XC (a0.ZB.length:Int) 1 8) ?_;refine cGs (fun gg=>Nz a1 a0.ZB (sg (Yl.YO u0))) ?_;exact rt [.tmp 4] f
theorem NU(a0:ZE)(a1:Yl)(a2:Int)(u0:Sm 2306048 a0)(u1:Sm 2306048 a1):Sd 180 [a0.row,a1.row,rI a2] [(Qo a0 a1 a2).1.row,rB (Qo a0 a1 a2).2]:=by
 have f:=me (Qo.eq_1 a0 a1 a2);refine soD func180 ntmps180 ?_;refine cDs [] (QZ a0 (sg u0)) ?_;refine cRs (LP a1 a2 (sg u1)) ?_;refine lp4 (Jk.eq_2 a1) (fun J U iD iG=>Yx 52 [eX 3 (a0.row.map .d),eX 4 (a1.row.map .d),(6,.one (.bptr 6 0),[.box [.d (.int .i64 0),.nil 16]]),(8,.one (.bptr 8 0),[.box [.d (.int .i64 iD),.sref 8 2 0 iG.length],.none,.arr true 16 (iG.map ZN.row)]),eB 9 J,eI 10 (U:Int)]) (fun n1 J U iD iG=>a1.ZB.length<n1+U/\U<=a1.ZB.length/\(J=true->a1.ZB.length<=8)/\Sm (2306048+U) (ZE.mk iD iG)) (a1.ZB.length+1) (zG a1 a2&&(a1.To==a0.Id)) 0 a0.Id a0.ZB (fun p1 J U iD iG e1 j1=>?_) (hI:=by exact⟨zAA,zAA,Nat.zero_le _,fun h=>MJ a1 a2 (by simp at h;exact h.1),u0⟩) (h0:=wkS [((8,2),some (14,1))] []);try dsimp only at j1
 refine cF e1 ?_ ?_<;>intro k2 h1 e1
 ·have i1:U<a1.ZB.length:=zBw;have m2:=ml a1.ZB (k2 27 _ rfl);have c1:=sl 2306048 a1.ZB (an u0 u1);have w1:=wr U;refine dIo mixed ?_;simp[i1,ZD];refine rpS ?_;refine cDs [] (Sr (ZE.mk iD iG) (nth a1.ZB U) zA2 zA2) ?_;exact nx4 e1 (hI:=by(have hc:=h1;simp at hc;(try dsimp only);refine⟨zAA,zAA,zAA,fun _=>j1.2.2.2.1 hc.2,?_⟩;exact CG (n:=2306048+U) j1.2.2.2.2 (ZQ (n:=2306048) zAA (Zr (Yl.YO u1))))) (hw:=XO [((8,2),some (42,1))] [] rfl zAd)
 have c2:=sl 2306048 a1.ZB (an u0 u1);have f:=ms f e1;refine cF f ?_ ?_<;>intro k4 h2 f
 ·refine cDs [] (QZ a0 (sg u0)) ?_;exact rtD [.cell 6 55,.tmp 7] f
 exact rtD [.cell 6 55,.tmp 7] f
theorem EX(a0:ZE)(a1:Int)(u0:Sm 2322432 a0):Sd 181 [a0.row,rI a1] [(yK a0 a1).1.row,rB (yK a0 a1).2]:=by
 have f:=me (yK.eq_1 a0 a1);refine soD func181 ntmps181 ?_;refine cRs (jK a0 a1) ?_;refine cF f ?_ ?_<;>intro k1 h1 f
 ·refine cDs [] (QZ a0 (sg u0)) ?_;exact rtD [.cell 4 55,.tmp 5] f
 refine lp2 (Kw.eq_2 a0 a1) (fun J U=>Yx 41 [eX 2 (a0.row.map .d),(4,.one (.bptr 4 0),[.box [.d (.int .i64 0),.nil 16]]),eI 6 (Yz a0 a1),(7,.one (.bptr 7 0),[.box [.d (.int .i64 a0.Id),.sref 7 2 0 U.length],.none,.arr true 16 (U.map ZN.row)]),eI 8 (J:Int)]) (fun n1 J U=>a0.ZB.length<n1+J/\J<=a0.ZB.length/\U.length<=0+1*J) (a0.ZB.length+1) 0 ([]:List ZN) (fun p1 J U e1 j1=>?_) (h0:=wkS [((7,2),none)] []);refine cF e1 ?_ ?_<;>intro k3 h2 e1
 ·have i1:=ix h2;have m2:=ml a0.ZB (k3 21 _ rfl);have c1:=sl 2322432 a0.ZB u0;have w1:=wr J;refine cF e1 ?_ ?_<;>intro k4 h3 e1
  ·refine okD fun k5=>?_;refine drJ [38] mixed ?_;simp[i1,ZD];refine rpS ?_;refine cDs [true,true,true,false,false] (JT (nth a0.ZB J) (sg (Zr (ZE.YO u0)))) ?_;refine kI ?_;simp;refine WV (iJ:=U.map ZN.row) (news:=([nth a0.ZB J]:List ZN).map ZN.row) (l1:=[(7,2)]) (l2:=[(36,3),(36,4),(36,14),(36,15)]) (size:=16) ?_;simp;exact nx2 e1 (hw:=XO [((7,2),some (38,0))] [] rfl zAd)
  exact ny2 w1 e1
 have c2:=sl 2322432 a0.ZB u0;exact rtD [.cell 4 55,.tmp 5] (ms f e1)
theorem Gc(a0 a1:ZE)(a2:List Int)(a3:Int)(u0:Sm 2301952 a0)(u1:Sm 2301952 a1)(u2:Sm 2301952 a2):Sd 112 [a0.row,a1.row,rL 1 iR a2,rI a3] [(KA a0 a1 a2 a3).1.row,(KA a0 a1 a2 a3).2.1.row,rB (KA a0 a1 a2 a3).2.2]:=by
 have f:=me (KA.eq_1 a0 a1 a2 a3);refine soD func112 ntmps112 ?_;refine cRs (HR a0 a1.Id a2 a3 zBe zBe) ?_;refine cDs [] (NU a1 (X3 a0 a1.Id a2 a3).1 a3 zBg zBg) ?_;refine cDs [] (QZ a0 (sg u0)) ?_;refine lp4 (zC.eq_2 a0 a1 a2 a3) (fun J U iD iG=>Yx 72 [eL 2 1 a2 iR,eX 4 (a0.row.map .d),eX 5 (a1.row.map .d),(8,.one (.bptr 8 0),[.box [.d (.int .i64 0),.nil 16]]),(9,.one (.bptr 9 0),[.box [.d (.int .i64 0),.nil 16]]),eB 12 (X3 a0 a1.Id a2 a3).2,(13,.one (.bptr 13 0),[.box [.d (.int .i64 (Qo a1 (X3 a0 a1.Id a2 a3).1 a3).1.Id),.sref 32 1 0 (Qo a1 (X3 a0 a1.Id a2 a3).1 a3).1.ZB.length]]),eB 14 J,(15,.one (.bptr 15 0),[.box [.d (.int .i64 iD),.sref 15 2 0 iG.length],.none,.arr true 16 (iG.map ZN.row)]),eI 16 (U:Int),(32,.any,[.none,.arr true 16 ((Qo a1 (X3 a0 a1.Id a2 a3).1 a3).1.ZB.map ZN.row)])]) (fun n1 J U iD iG=>a2.length<n1+U/\U<=a2.length/\Sm 2301952 (ZE.mk iD iG)) (a2.length+1) (Qo a1 (X3 a0 a1.Id a2 a3).1 a3).2 0 a0.Id a0.ZB (fun p1 J U iD iG e1 j1=>?_) (hI:=by exact⟨zAA,zAA,Nat.zero_le _,u0⟩) (h0:=wkS [((15,2),some (36,1))] []);try dsimp only at j1
 refine cF e1 ?_ ?_<;>intro k2 h1 e1
 ·have i1:U<a2.length:=zBw;have m2:=ml a2 (k2 2 _ rfl);have c1:=sl 2301952 a2 (an u0 (an u1 u2));have w1:=wr U;refine dIo mixed ?_;simp[i1,ZD];refine rpS ?_;refine cDs [] (EX (ZE.mk iD iG) (nth a2 U) (by exact ZQ (n:=2301952) zAD j1.2.2.2)) ?_;exact nx4 e1 (hI:=by((try dsimp only);refine⟨zAA,zAA,zAA,?_⟩;exact F9 j1.2.2.2)) (hw:=XO [((15,2),some (55,1))] [] rfl zAd)
 have c2:=sl 2301952 a2 (an u0 (an u1 u2));have f:=ms f e1;refine cF f ?_ ?_<;>intro k4 h2 f
 ·refine okD fun k5=>?_;refine dIs mixed ?_;refine cDs [] (QZ a0 (sg u0)) ?_;refine cDs [] (QZ a1 (sg u1)) ?_;exact rtD [.cell 8 55,.cell 9 55,.tmp 10] f
 refine sY [(8,8),(9,9),(13,13),(15,15)] mixed zAV zAV zAV zAV ?_;simp;exact rtD [.cell 8 55,.cell 9 55,.tmp 10] f
theorem Fh(a0:ZF)(a1 a2 a3:Int)(u0:Sm 2297856 a0):Sd 46 [a0.row,rI a1,rI a2,rI a3] [(jg a0 a1 a2 a3).1.row,rB (jg a0 a1 a2 a3).2]:=by
 have f:=me (jg.eq_1 a0 a1 a2 a3);refine soD func46 ntmps46 ?_;refine cDs [false,false,false,true,true,false,false,true,false,false,true,false] (JV a0 (sg u0)) ?_;refine cRs (ja a0.Frame.Methods a0.Frame.Now) ?_;refine cRs (kF a0 a1) ?_;refine cGs (fun gg=>kF a0 a2) ?_;have c1:=sl 2297856 a0.ZA u0;have w1:IntKind.i64.wrap ((a0.ZA.length:Int)-1)=(a0.ZA.length:Int)-1:=YX zAA zAA;refine cFo f ?_ ?_<;>intro k1 h1 f
 ·have q1:=h1;try simp[w1,JG,Ye]at q1
  simp;exact rtD [.cell 8 33,.tmp 9] f
 have q1:=h1;try simp[w1,JG,Ye]at q1
 simp;refine dIo mixed ?_;have i1:=ik a1.toNat a0.ZA
 have i2:=ik a2.toNat a0.ZA;simp[i1,ZD,i2];refine rpS ?_;refine cDf i1 [] (Gc (nth a0.ZA a1.toNat) (nth a0.ZA a2.toNat) ([a3]:List Int) (Zo a0.Frame.Methods a0.Frame.Now) (sg (Zr (ZF.YR u0))) (sg (Zr (ZF.YR u0))) zAj) ?_;refine MU (t:=16) (j:=7) (i:=a1.toNat) (size:=2) (rows:=a0.ZA.map ZE.row) (ds:=(KA (nth a0.ZA a1.toNat) (nth a0.ZA a2.toNat) ([a3]:List Int) (Zo a0.Frame.Methods a0.Frame.Now)).1.row) (L:=[(58,1)]) ?_;simp;refine rpS ?_;refine MU (t:=16) (j:=7) (i:=a2.toNat) (size:=2) (rows:=(a0.ZA.set a1.toNat (KA (nth a0.ZA a1.toNat) (nth a0.ZA a2.toNat) ([a3]:List Int) (Zo a0.Frame.Methods a0.Frame.Now)).1).map ZE.row) (ds:=(KA (nth a0.ZA a1.toNat) (nth a0.ZA a2.toNat) ([a3]:List Int) (Zo a0.Frame.Methods a0.Frame.Now)).2.1.row) (L:=[(58,3)]) ?_;simp;refine rpS ?_;exact rtD [.cell 8 33,.tmp 9] f
theorem HH(a0:ZE)(a1:Int)(u0:Sm 2326528 a0):So 113 [a0.row,rI a1] [(qx a0 a1).1.row,rI (qx a0 a1).2]:=by
 have f:=me (qx.eq_1 a0 a1);refine so func113 ntmps113 ?_;refine lp3 (yp.eq_2 a0 a1) (fun J U iD=>Yx 42 [eI 1 a1,eX 2 (a0.row.map .d),(4,.one (.bptr 4 0),[.box [.d (.int .i64 0),.nil 16]]),(6,.one (.bptr 6 0),[.box [.d (.int .i64 a0.Id),.sref 6 2 0 iD.length],.none,.arr false 16 (iD.map ZN.row)]),eI 7 J,eI 8 (U:Int)]) (fun n1 J U iD=>a0.ZB.length<n1+U/\U<=a0.ZB.length/\iD.length<=0+1*U) (a0.ZB.length+1) 0 0 ([]:List ZN) (fun p1 J U iD e1 j1=>?_) (h0:=wkS [((6,2),none)] []);refine cFf e1 ?_ ?_<;>intro k2 h1 e1
 ·have i1:=ix h1;have m2:=ml a0.ZB (k2 14 _ rfl);have c1:=sl 2326528 a0.ZB u0;have w1:=wr U;simp[i1,ZD];refine rpS ?_;refine cF e1 ?_ ?_<;>intro k3 h2 e1
  ·exact ny3 w1 e1
  refine dIo mixed ?_;simp[i1,ZD];refine rpS ?_;refine cRs (Yg.rd (JT (nth a0.ZB U) (sg (Zr (ZE.YO u0))))) ?_;refine eIs ?_;refine eIs ?_;exact nx3 e1 (hw:=XO [((6,2),some (38,0))] [] rfl zAd)
 have c2:=sl 2326528 a0.ZB u0;exact rtO [.cell 4 55,.tmp 5] (ms f e1)
theorem HI(a0:ZF)(a1:Int)(u0:Sm 2318336 a0):So 47 [a0.row,rI a1] [(xO a0 a1).1.row,rB (xO a0 a1).2]:=by
 have f:=me (xO.eq_1 a0 a1);refine so func47 ntmps47 ?_;refine cOs (Yg.own (JV a0 (sg u0))) ?_;refine cRs (kF a0 a1) ?_;have c1:=sl 2318336 a0.ZA u0;have w1:IntKind.i64.wrap ((a0.ZA.length:Int)-1)=(a0.ZA.length:Int)-1:=YX zAA zAA;refine cFo f ?_ ?_<;>intro k1 h1 f
 ·have q1:=h1;try simp[w1,JG,Ye]at q1
  simp;exact rtO _ f
 have q1:=h1;try simp[w1,JG,Ye]at q1
 simp;refine dIo mixed ?_;have i1:=ik a1.toNat a0.ZA
 simp[i1,ZD];refine rpS ?_;refine cR (HH (nth a0.ZA a1.toNat) a0.Frame.Now (sg (Zr (ZF.YR u0)))) ?_;simp[i1,ZD];refine rpS ?_;exact rtO _ f
theorem HB(a0:List YH)(a1:Int):Sa 246 [rL 4 YH.row a0,rI a1] [rI (z6 a0 a1)]:=by
 have f:=me (z6.eq_1 a0 a1);refine so func246 ntmps246 ?_;refine lp1 (yl.eq_2 a0 a1) (fun J=>Yx 20 [eL 0 4 a0 YH.row,eI 1 a1,eI 5 (J:Int)]) (fun n1 J=>a0.length<n1+J/\J<=a0.length) (a0.length+1) 0 (fun p1 J e1 j1=>?_);refine cFf e1 ?_ ?_<;>intro k2 h1 e1
 ·have i1:=ix h1;have m2:=ml a0 (k2 0 _ rfl);have w1:=wr J;simp[i1,ZD];refine rpS ?_;refine cF e1 ?_ ?_<;>intro k3 h2 e1
  ·exact rt [.tmp 4] (ms f e1)
  exact ny1 w1 e1
 exact rt [.tmp 4] (ms f e1)
theorem Dn(a0:List YH)(a1:Int):Sa 182 [rL 4 YH.row a0,rI a1] [rI (SG a0 a1)]:=by
 have f:=me (SG.eq_1 a0 a1);refine so func182 ntmps182 ?_;refine cRs (HB a0 a1) ?_;refine cFt f ?_ ?_<;>intro k1 h1 f
 ·exact rt [.tmp 4] f
 have i1:(z6 a0 a1).toNat<a0.length:=by have:=IV a0 a1;exact il
 simp[i1,ZD];refine rpS ?_;exact rt [.tmp 4] f
theorem Tl(a0:ZO)(a1:Int):Sa 114 [a0.row,rI a1] [rB (jk a0 a1)]:=by
 have f:=me (jk.eq_1 a0 a1);refine so func114 ntmps114 ?_;refine cRs (KU a0.Zt a1) ?_;refine dIs mixed ?_;refine gIf ?_ ?_<;>intro G
 ·have i1:(Yk a0.Zt a1).toNat<a0.Zt.length:=by have:=KO a0.Zt a1;exact il
  simp[i1,ZD,G];refine rpG ?_;refine cGg (fun gg=>Dn a0.Methods (nth a0.Zt (Yk a0.Zt a1).toNat).Method) ?_;exact rtg [.tmp 4] f
 ·refine sGo ?_;simp;refine rpG ?_;exact rtg [.tmp 4] f
theorem FX(a0:ZF)(a1 a2:Int)(a3:ZR)(u0:Sm 2314240 a0)(u1:Sm 2314240 a3):Sd 48 [a0.row,rI a1,rI a2,a3.row] [(qK a0 a1 a2 a3).1.row,rB (qK a0 a1 a2 a3).2]:=by
 have f:=me (qK.eq_1 a0 a1 a2 a3);refine soD func48 ntmps48 ?_;refine cDs [false,false,false,true,true,false,false,true,false,false,true,false] (JV a0 (sg u0)) ?_;refine cRs (kF a0 a1) ?_;refine cGs (fun gg=>Tl a0.Frame a2) ?_;have c1:=sl 2314240 a0.ZA (an u0 u1);have w1:IntKind.i64.wrap ((a0.ZA.length:Int)-1)=(a0.ZA.length:Int)-1:=YX zAA zAA;refine cFo f ?_ ?_<;>intro k1 h1 f
 ·have q1:=h1;try simp[w1,JG,Ye]at q1
  simp;refine Il (rv:=[.cell 8 33,.tmp 9]) rfl ?_;simp[f.h];all_goals((try simp only[q3,true_and]);(try(rintro r (⟨a,_,rfl⟩|rfl) x hx<;>simp at hx<;>subst hx<;>rfl)))
 have q1:=h1;try simp[w1,JG,Ye]at q1
 simp;refine cRs (MB a0 a2 a3 0 10000 (sg u0) (sg u1)) ?_;refine cFo f ?_ ?_<;>intro k2 h2 f
 ·have q2:=h2;try simp at q2
  simp;refine Il (rv:=[.cell 8 33,.tmp 9]) rfl ?_;simp[f.h];all_goals((try simp only[q3,true_and]);(try(rintro r (⟨a,_,rfl⟩|rfl) x hx<;>simp at hx<;>subst hx<;>rfl)))
 have q2:=h2;try simp at q2
 simp;refine dIo mixed ?_;have i1:=ik a1.toNat a0.ZA
 simp[i1,ZD];refine rpS ?_;refine cDs [] (Sr (nth a0.ZA a1.toNat) (QI a0 a2 a3 0 10000).1 zAf zAf) ?_;refine cFo f ?_ ?_<;>intro k4 h3 f
 ·have q3:=h3;try simp at q3
  simp;refine Il (rv:=[.cell 8 33,.tmp 9]) rfl ?_;simp[f.h];all_goals((try simp only[q3,true_and]);(try(rintro r (⟨a,_,rfl⟩|rfl) x hx<;>simp at hx<;>subst hx<;>rfl)))
 have q3:=h3;try simp at q3
 simp[i1,ZD];refine rpS ?_;refine MU (t:=16) (j:=7) (i:=a1.toNat) (size:=2) (rows:=a0.ZA.map ZE.row) (ds:=(JO (nth a0.ZA a1.toNat) (QI a0 a2 a3 0 10000).1).1.row) (L:=[(46,1)]) ?_;have c2:=sl 2314240 a0.YL (an u0 u1)
 simp[Kx (x:=(JO (nth a0.ZA a1.toNat) (QI a0 a2 a3 0 10000).1).1) rfl,c1,i1,ZD,XX];refine rpS ?_;refine Il (rv:=[.cell 8 33,.tmp 9]) rfl ?_;simp[f.h];all_goals((try simp only[q3,true_and]);(try(rintro r (⟨a,_,rfl⟩|rfl) x hx<;>simp at hx<;>subst hx<;>rfl)))
theorem RQ(a0:ZF)(u0:Sm 2330624 a0):Sd 115 [a0.row] [rL 1 iR (Yw a0)]:=by
 have f:=me (Yw.eq_1 a0);refine soD func115 ntmps115 ?_;refine lp2 (Qn.eq_2 a0) (fun J U=>Yx 39 [eX 1 (a0.row.map .d),(3,.one (.sref 3 0 0 J.length),[.arr false 1 (J.map iR)]),eI 4 (U:Int)]) (fun n1 J U=>a0.Frame.ZC.length<n1+U/\U<=a0.Frame.ZC.length/\J.length<=0+1*U) (a0.Frame.ZC.length+1) ([]:List Int) 0 (fun p1 J U e1 j1=>?_) (h0:=wkS [((3,0),some (6,0))] []);refine cFf e1 ?_ ?_<;>intro k2 h1 e1
 ·have i1:=ix h1;have m2:=ml a0.Frame.ZC (k2 10 _ rfl);have c1:=sl 2330624 a0.Frame.ZC u0;have w1:=wr U;simp[i1,ZD];refine rpS ?_;refine cRs (O0 a0.Yc (nth a0.Frame.ZC U).Id) ?_;refine cGs (fun gg=>Tl a0.Frame (nth a0.Frame.ZC U).Key) ?_;refine cF e1 ?_ ?_<;>intro k3 h2 e1
  ·exact nx2 e1 (hw:=XO [((3,0),some (37,0))] [] rfl zAd)
  exact ny2 w1 e1
 exact rtD [.tmp 2] (ms f e1)
theorem Jy(h:b)(k:a:=by(intros;first|omega|with_unfolding_all (first|first|omega|(have f0:0<=(ZH a0 a1).1:=(by first|omega|(simp at*;omega));have fi:=Xc a0 a1 f0;omega)|(have f0:0<=(ZH a0 a1).1:=(by first|omega|(simp at*;omega));have fi:=Xc a0 a1 f0;have ll:=jb (nth a0.ZA (ZH a0 a1).1.toNat) (Zo a0.Frame.Methods a0.Frame.Now);omega)|(have fl:=xS a0;have fm:=YQ (ZO.XW (ZF.Xr u0));(try dsimp only at*);omega))|((try simp only[Y0,show ∀x,IntKind.i64.wrap x=W x from fun _=>rfl]at*);omega))):a/\b:=⟨k,h⟩
theorem N4(a0:ZF)(a1 a2:Int)(u0:Sm 2310144 a0):Sd 49 [a0.row,rI a1,rI a2] [(zW a0 a1 a2).1.row,rB (zW a0 a1 a2).2]:=by
 have f:=me (zW.eq_1 a0 a1 a2);refine soD func49 ntmps49 ?_;refine cDs [false,false,false,true,true,false,false,true,false,false,true,false] (JV a0 (sg u0)) ?_;refine cRs (Rh a0 a1) ?_;refine cRs (ja a0.Frame.Methods a0.Frame.Now) ?_;refine cRs (Yg.rd (RQ a0 (sg u0))) ?_;refine cGs (fun gg=>O0 a0.YL a1) ?_;refine cFt f ?_ ?_<;>intro k1 h1 f
 ·exact rtD [.cell 6 33,.tmp 7] f
 have i1:(ZH a0 a1).1.toNat<a0.ZA.length:=zAT;simp[i1,ZD];repeat with_reducible refine Jy ?_
 refine cR (Yg.rd (Ul (nth a0.ZA (ZH a0 a1).1.toNat) (Zo a0.Frame.Methods a0.Frame.Now) (sg (Zr (ZF.YR u0))))) ?_;have i2:(ZH a0 a1).2.toNat<(YS (nth a0.ZA (ZH a0 a1).1.toNat) (Zo a0.Frame.Methods a0.Frame.Now)).length:=zAT
 have i3:(ZH a0 a1).2.toNat<(nth a0.ZA (ZH a0 a1).1.toNat).ZB.length:=zAT;simp[i2,ZD,i1,i3];repeat with_reducible refine Jy ?_
 refine lp2 (yz.eq_2 a0 a1 a2) (fun J U=>Yx 140 [eI 2 a2,eX 3 (a0.row.map .d),(6,.one (.bptr 6 0),[.box [.nil 5,.nil 3,.nil 4,.d (.int .i64 0),.d (.int .i64 0),.nil 7,.nil 1,.nil 2,.nil 1,.nil 1,.d (.int .i64 0),.nil 1]]),(8,.one (.bptr 8 0),[.box [.sref 21 0 0 a0.Frame.Zt.length,.sref 21 1 0 a0.Frame.ZC.length,.sref 21 2 0 a0.Frame.Methods.length,.d (.int .i64 a0.Frame.XJ),.d (.int .i64 a0.Frame.Now),.sref 21 5 0 a0.Zd.length,.sref 21 6 0 a0.Zw.length,.sref 21 7 0 a0.ZA.length,.sref 21 8 0 a0.Y2.length,.sref 21 9 0 a0.Yc.length,.d (.int .i64 a0.Next),.sref 21 11 0 a0.YL.length]]),eI 9 (ZH a0 a1).1,eI 10 (ZH a0 a1).2,eL 12 1 (Yw a0) iR,eI 13 (nth (YS (nth a0.ZA (ZH a0 a1).1.toNat) (Zo a0.Frame.Methods a0.Frame.Now)) (ZH a0 a1).2.toNat),(14,.one (.bptr 14 0),[.box [.d (.int .i64 ((nth (nth a0.ZA (ZH a0 a1).1.toNat).ZB (ZH a0 a1).2.toNat).ZG.ZI.length:Int)),.d (.int .i64 (Zo a0.Frame.Methods a0.Frame.Now)),.d (.int .i64 (nth (YS (nth a0.ZA (ZH a0 a1).1.toNat) (Zo a0.Frame.Methods a0.Frame.Now)) (ZH a0 a1).2.toNat)),.nil 2,.sref 14 5 0 U.length],.none,.none,.none,.none,.arr false 5 (U.map Zm.row)]),eI 15 (J:Int),(21,.any,[.arr false 5 (a0.Frame.Zt.map Y4.row),.arr false 3 (a0.Frame.ZC.map Zi.row),.arr false 4 (a0.Frame.Methods.map YH.row),.none,.none,.arr false 7 (a0.Zd.map YN.row),.arr false 1 (a0.Zw.map iR),.arr true 2 (a0.ZA.map ZE.row),.arr false 1 (a0.Y2.map iR),.arr false 1 (a0.Yc.map iR),.none,.arr false 1 (a0.YL.map iR)])]) (fun n1 J U=>(Yw a0).length<n1+J/\J<=(Yw a0).length/\U.length<=0+1*J) ((Yw a0).length+1) 0 ([]:List Zm) (fun p1 J U e1 j1=>?_) (h0:=wkS [((14,5),none)] []);try dsimp only at j1
 refine cF e1 ?_ ?_<;>intro k3 h2 e1
 ·have i4:=ix h2;have m2:=ml (Yw a0) (k3 12 _ rfl);have w1:=wr J;refine dIo mixed ?_;simp[i4,ZD];repeat with_reducible refine Jy ?_
  refine cRs (UW a0.Frame.Zt a0.Frame.ZC (Zm.mk (nth (Yw a0) J) 0 a2 (nth (YS (nth a0.ZA (ZH a0 a1).1.toNat) (Zo a0.Frame.Methods a0.Frame.Now)) (ZH a0 a1).2.toNat) 0) (sg (ZO.Xb (ZF.Xr u0))) (sg (ZO.XW (ZF.Xr u0)))) ?_;refine cFt e1 ?_ ?_<;>intro k5 h3 e1
  ·exact rtD [.cell 6 33,.tmp 7] (ms f e1)
  simp;repeat with_reducible refine Jy ?_
  exact nx2 e1 (hw:=XO [((14,5),some (111,0))] [] rfl zAd)
 have f:=ms f e1;refine dIo mixed ?_;simp[i1,ZD,i3];repeat with_reducible refine Jy ?_
 refine cDs [] (RD (nth (nth a0.ZA (ZH a0 a1).1.toNat).ZB (ZH a0 a1).2.toNat).ZG (Zb.mk ((nth (nth a0.ZA (ZH a0 a1).1.toNat).ZB (ZH a0 a1).2.toNat).ZG.ZI.length:Int) (Zo a0.Frame.Methods a0.Frame.Now) (nth (YS (nth a0.ZA (ZH a0 a1).1.toNat) (Zo a0.Frame.Methods a0.Frame.Now)) (ZH a0 a1).2.toNat) ([]:List X8) U) zA0 zA0) ?_;refine drJ [] mixed ?_;simp[i1,ZD,i3];repeat with_reducible refine Jy ?_
 refine mI (t:=21) (j:=7) (i:=(ZH a0 a1).1.toNat) (c:=1) (k':=(ZH a0 a1).2.toNat) (q:=14) (n:=16) (size:=2) (s:=(nth a0.ZA (ZH a0 a1).1.toNat).ZB.map ZN.row) (rows:=a0.ZA.map ZE.row) (ds:=(JD (nth (nth a0.ZA (ZH a0 a1).1.toNat).ZB (ZH a0 a1).2.toNat).ZG (Zb.mk ((nth (nth a0.ZA (ZH a0 a1).1.toNat).ZB (ZH a0 a1).2.toNat).ZG.ZI.length:Int) (Zo a0.Frame.Methods a0.Frame.Now) (nth (YS (nth a0.ZA (ZH a0 a1).1.toNat) (Zo a0.Frame.Methods a0.Frame.Now)) (ZH a0 a1).2.toNat) ([]:List X8) U)).1.row) (L:=[(125,0),(125,1)]) rfl rfl rfl rfl (by simp;rfl) zAE zAE (by simp[i1,i3]) (by simp[ZD,XX,i1,i3]) (by simp[i1,i3]) zAE zAE zAE zAE zAE zAE ?_;simp[Kx (x:=ZE.mk (nth a0.ZA (ZH a0 a1).1.toNat).Id ((nth a0.ZA (ZH a0 a1).1.toNat).ZB.set (ZH a0 a1).2.toNat (ZN.mk (nth (nth a0.ZA (ZH a0 a1).1.toNat).ZB (ZH a0 a1).2.toNat).Id (nth (nth a0.ZA (ZH a0 a1).1.toNat).ZB (ZH a0 a1).2.toNat).XF (nth (nth a0.ZA (ZH a0 a1).1.toNat).ZB (ZH a0 a1).2.toNat).Doc (nth (nth a0.ZA (ZH a0 a1).1.toNat).ZB (ZH a0 a1).2.toNat).Sig (JD (nth (nth a0.ZA (ZH a0 a1).1.toNat).ZB (ZH a0 a1).2.toNat).ZG (Zb.mk ((nth (nth a0.ZA (ZH a0 a1).1.toNat).ZB (ZH a0 a1).2.toNat).ZG.ZI.length:Int) (Zo a0.Frame.Methods a0.Frame.Now) (nth (YS (nth a0.ZA (ZH a0 a1).1.toNat) (Zo a0.Frame.Methods a0.Frame.Now)) (ZH a0 a1).2.toNat) ([]:List X8) U)).1))) rfl,ZD,XX,i1,i3];repeat with_reducible refine Jy ?_
 exact rtD [.cell 6 33,.tmp 7] f
end Go.Proofs.YthecodaabaaaoaaGreat
