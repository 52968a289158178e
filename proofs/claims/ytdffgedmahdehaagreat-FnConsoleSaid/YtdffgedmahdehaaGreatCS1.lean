/- Contracts of the functions Gi the abstract machine, part S1. No condition. -/
import Derived.Test.YtdffgedmahdehaaGreatL
import Derived.Test.YtdffgedmahdehaaGreatTy
namespace Go.Proofs.YtdffgedmahdehaaGreat
open Tryz
open Go.Vm Go.Mo
set_option maxHeartbeats 1000000
set_option maxRecDepth 100000
set_option linter.unusedSimpArgs false
set_option linter.unusedVariables false
variable{a b:Prop}
theorem Eo(a0:List UInt8):H0 prog 20 [rL 1 bR a0] (WT a0).row:=by
 have f:=me (WT.eq_1 a0);refine sw func20 rfl zAZ ?_;simp[ntmps20];refine lp2 (GB.eq_2 a0) (fun J U=>YM 32 [eL 0 1 a0 bR,eI 3 J,eI 4 (U:Int)]) (fun n1 J U=>4000<n1+U) 4001 (W (193017+(a0.length:Int))) 0 (fun p1 J U e1 j1=>?_);refine cFf e1 ?_ ?_<;>intro k2 h1 e1
 ·have i1:U<a0.length:=zBq;have m2:=ml a0 (k2 0 _ rfl);have w1:=wr U;simp[i1,ZB];refine rpS ?_;exact ny2 w1 e1
 have f:=ms f e1;refine lB 31 (rv:=[.tmp 2]) rfl ?_;simp[f.h]
theorem S8(a0:Z3):z8 prog 70 false a0.row [] (Yi a0).1.row [rI (Yi a0).2]:=by
 have f:=me (Yi.eq_1 a0);refine KN func70 rfl zAZ (fun v=>?_);simp[ntmps70];refine dIs mixed ?_;refine dIs mixed ?_;refine cF f ?_ ?_<;>intro k3 h1 f
 ·refine okD fun k4=>?_;refine dIo mixed ?_;have i1:=ik a0.i a0.b
  simp[i1,ZB];refine rpS ?_;refine xH (rv:=[.tmp 2]) rfl ?_;first|(have w0:=wr a0.i (by have z:=ml a0.b (k3 32 _ rfl);simp at h1;omega);simp[f.h,w0];done)|simp[f.h]
 refine xH (rv:=[.tmp 2]) rfl ?_;first|(have w0:=wr a0.i (by have z:=ml a0.b (k3 32 _ rfl);simp at h1;omega);simp[f.h,w0];done)|simp[f.h]
theorem Y4(a0:Z3)(a1:Int):z8 prog 33 false a0.row [rI a1] (ZI a0 a1).1.row [rI (ZI a0 a1).2]:=by
 have f:=me (ZI.eq_1 a0 a1);refine KN func33 rfl zAZ (fun v=>?_);simp[ntmps33];refine cF f ?_ ?_<;>intro k1 h1 f
 ·refine xH (rv:=[.tmp 4]) rfl ?_;simp[f.h]
 refine cF f ?_ ?_<;>intro k2 h2 f
 ·refine cBs [] (S8 a0) ?_;refine xH (rv:=[.tmp 4]) rfl ?_;simp[f.h]
 refine cBs [] (S8 a0) ?_;refine cBs [] (S8 (Yi a0).1) ?_;refine cBs [] (S8 (Yi (Yi a0).1).1) ?_;refine xH (rv:=[.tmp 4]) rfl ?_;simp[f.h]
theorem DO(a0 a1:Int):Sa 92 [rI a0,rI a1] [rI (O1 a0 a1)]:=by
 have f:=me (O1.eq_1 a0 a1);refine so func92 ntmps92 ?_;refine cF f ?_ ?_<;>intro k1 h1 f
 ·exact rt [.tmp 4] f
 exact rt [.tmp 4] f
theorem vW(a0 a1:Int):Sa 91 [rI a0,rI a1] [rI (G3 a0 a1)]:=by
 have f:=me (G3.eq_1 a0 a1);refine so func91 ntmps91 ?_;refine cF f ?_ ?_<;>intro k1 h1 f
 ·exact rt [.tmp 4] f
 exact rt [.tmp 4] f
theorem Sy:Sd 35 [] [rL 5 Yg.row xQ]:=by have f:=me (xQ.eq_1);refine soD func35 ntmps35 ?_;exact rtD [.tmp 0] f
theorem Mx:Sd 36 [] [rL 3 Za.row K3]:=by have f:=me (K3.eq_1);refine soD func36 ntmps36 ?_;exact rtD [.tmp 0] f
theorem wL:Sd 93 [] [rL 4 Z9.row TX]:=by have f:=me (TX.eq_1);refine soD func93 ntmps93 ?_;exact rtD [.tmp 0] f
theorem Jq(a0:List Yg)(a1:Int):Sa 123 [rL 5 Yg.row a0,rI a1] [rI (Yt a0 a1)]:=by
 have f:=me (Yt.eq_1 a0 a1);refine so func123 ntmps123 ?_;refine lp1 (Sx.eq_2 a0 a1) (fun J=>YM 20 [eL 0 5 a0 Yg.row,eI 1 a1,eI 5 (J:Int)]) (fun n1 J=>a0.length<n1+J/\J<=a0.length) (a0.length+1) 0 (fun p1 J e1 j1=>?_);refine cFf e1 ?_ ?_<;>intro k2 h1 e1
 ·have i1:=ix h1;have m2:=ml a0 (k2 0 _ rfl);have w1:=wr J;simp[i1,ZB];refine rpS ?_;refine cF e1 ?_ ?_<;>intro k3 h2 e1
  ·exact rt [.tmp 4] (ms f e1)
  exact ny1 w1 e1
 exact rt [.tmp 4] (ms f e1)
theorem Y8(a0 a1 a2:Int):Sa 84 [rI a0,rI a1,rI a2] [rB (Ye a0 a1 a2)]:=by have f:=me (Ye.eq_1 a0 a1 a2);refine so func84 ntmps84 ?_;exact rt [.tmp 6] f
theorem Bt(a0:YL):Sa 278 [a0.row] [(P2 a0).row]:=by have f:=me (P2.eq_1 a0);refine so func278 ntmps278 ?_;exact rt [.cell 2 159] f
theorem UJ(a0:Int):Sa 122 [rI a0] [rB (SO a0)]:=by have f:=me (SO.eq_1 a0);refine so func122 ntmps122 ?_;refine cRs (Y8 a0 0 10000) ?_;exact rt [.tmp 2] f
theorem vf(a0:Zn):Sa 277 [a0.row] [rB (CF a0)]:=by have f:=me (CF.eq_1 a0);refine so func277 ntmps277 ?_;refine cRs (UJ a0.Xv) ?_;refine cGs (fun gg=>UJ a0.To) ?_;exact rt [.tmp 2] f
theorem vZ(a0:YL):Sa 230 [a0.row] [rB (Dd a0)]:=by have f:=me (Dd.eq_1 a0);refine so func230 ntmps230 ?_;refine cRs (Y8 a0.Zk 1 999) ?_;refine cGs (fun gg=>Y8 a0.Key 1 99) ?_;refine cGs (fun gg=>Y8 a0.YG 1 99) ?_;refine cGs (fun gg=>Y8 a0.z9 0 99) ?_;refine cGs (fun gg=>Bt a0) ?_;refine cGs (fun gg=>vf (P2 a0)) ?_;exact rt [.tmp 2] f
theorem LW(a0:YL):Sd 231 [a0.row] [rL 1 iR (qY a0)]:=by have f:=me (qY.eq_1 a0);refine soD func231 ntmps231 ?_;exact rtD [.tmp 2] f
theorem pY(a0 a1:Int):Sa 308 [rI a0,rI a1] [rI (rk a0 a1)]:=by
 have f:=me (rk.eq_1 a0 a1);refine so func308 ntmps308 ?_;refine cRs (Y8 a1 1 1000000000000) ?_;refine cFo f ?_ ?_<;>intro k1 h1 f
 ·have q1:=h1;try simp[Ye]at q1
  simp;exact rt [.tmp 4] f
 have q1:=h1;try simp[Ye]at q1
 simp;refine rpS ?_;exact rt [.tmp 4] f
theorem AW(a0:List Int):Sa 264 [rL 1 iR a0] [rI (wM a0)]:=by
 have f:=me (wM.eq_1 a0);refine so func264 ntmps264 ?_;refine lp2 (CB.eq_2 a0) (fun J U=>YM 22 [eL 0 1 a0 iR,eI 3 J,eI 4 (U:Int)]) (fun n1 J U=>a0.length<n1+U/\U<=a0.length) (a0.length+1) 11 0 (fun p1 J U e1 j1=>?_);refine cFf e1 ?_ ?_<;>intro k2 h1 e1
 ·have i1:=ix h1;have m2:=ml a0 (k2 0 _ rfl);have w1:=wr U;simp[i1,ZB];refine rpS ?_;refine cRs (pY (nth a0 U) 2147483647) ?_;exact ny2 w1 e1
 exact rt [.tmp 2] (ms f e1)
theorem NZ(a0:Int)(a1:List Int)(u0:Sm 2330624 a1):Sa 202 [rI a0,rL 1 iR a1] [rI (WB a0 a1)]:=by have f:=me (WB.eq_1 a0 a1);have c1:=sl 2330624 a1 u0;refine so func202 ntmps202 ?_;refine cRs (AW ((([a0]:List Int)++a1)++([a0]:List Int))) ?_;exact rt [.tmp 4] f
theorem V0(a0:Yg)(a1:List Int)(u0:Sm 2326528 a1):Sa 124 [a0.row,rL 1 iR a1] [rI (VY a0 a1)]:=by have f:=me (VY.eq_1 a0 a1);refine so func124 ntmps124 ?_;refine DB [2,3,4,5,6,0,1,7,8] mixed zAZ zAZ zAZ ?_;have c1:=sl 2326528 a1 u0;simp;refine rpS ?_;refine cRs (NZ a0.Um (([a0.Method]:List Int)++a1) zAr) ?_;exact rt [.tmp 4] f
theorem T3(a0:List Yg)(a1:YL)(u0:Sm 2322432 a0):Sa 159 [rL 5 Yg.row a0,a1.row] [(WH a0 a1).1.row,rB (WH a0 a1).2]:=by
 have f:=me (WH.eq_1 a0 a1);refine so func159 ntmps159 ?_;refine cRs (Jq a0 a1.YG) ?_;refine cRs (vZ a1) ?_;refine cGs (fun gg=>Jq a0 a1.Key) ?_;refine cF f ?_ ?_<;>intro k1 h1 f
 ·exact rt [.cell 4 72,.tmp 5] f
 refine dIo mixed ?_;have i1:(Yt a0 a1.YG).toNat<a0.length:=by have:=Jw a0 a1.YG;exact il
 simp[i1,ZB];refine rpS ?_;refine cRs (YN.rd (LW a1)) ?_;refine cRs (V0 (nth a0 (Yt a0 a1.YG).toNat) (qY a1) (by simp(maxDischargeDepth:=12) [Lb,ZK (m:=2326528) zAF u0];try omega)) ?_;exact rt [.cell 4 72,.tmp 5] f
theorem w6:Sd 94 [] [rL 7 YL.row Ta]:=by have f:=me (Ta.eq_1);refine soD func94 ntmps94 ?_;refine cRs (YN.rd (Sy)) ?_;refine cRs (T3 xQ (YL.mk 1 11 1 0 60 1 0) zB6) ?_;refine cRs (YN.rd (Sy)) ?_;refine cRs (T3 xQ (YL.mk 2 12 1 20 100 1 0) zB6) ?_;refine cRs (YN.rd (Sy)) ?_;refine cRs (T3 xQ (YL.mk 3 13 2 40 150 2 0) zB6) ?_;exact rtD [.tmp 0] f
theorem Cz(a0:Int):Sd 53 [rI a0] [(kV a0).row]:=by
 have f:=me (kV.eq_1 a0);refine soD func53 ntmps53 ?_;refine cRs (DO 0 a0) ?_;refine cRs (vW 1 (O1 0 a0)) ?_;refine cDs [false] (Sy) ?_;refine cDs [false] (Mx) ?_;refine cDs [false] (wL) ?_;refine cDs [false] (w6) ?_;refine sI (news:=([ZD.mk 0 ([]:List ZO),ZD.mk 1 ([]:List ZO)]:List ZD).map ZD.row) (L:=[]) rfl rfl rfl rfl zAE zAE zAE zAE zAE zAE ?_;simp;refine cF f ?_ ?_<;>intro k1 h1 f
 ·exact rtD _ f
 exact rtD _ f
theorem NJ(a0:Z3)(a1:Int):z8 prog 28 false a0.row [rI a1] (Zv a0 a1).1.row [rB (Zv a0 a1).2]:=by have f:=me (Zv.eq_1 a0 a1);refine KN func28 rfl zAZ (fun v=>?_);simp[ntmps28];refine cBs [] (Y4 a0 a1) ?_;refine xH (rv:=[.tmp 4]) rfl ?_;simp[f.h]
theorem tS(h:b)(k:a:=by(intros;first|omega|with_unfolding_all (first|first|omega|(have z:=Xp a0 (a1.length:Int);omega))|((try simp only[Yd,show ∀x,IntKind.i64.wrap x=W x from fun _=>rfl]at*);omega))):a/\b:=⟨k,h⟩
theorem Ji(a0:Z3)(a1:List Int)(u0:0<a1.length):z8 prog 160 false a0.row [rL 1 iR a1] (YF a0 a1).1.row [rI (YF a0 a1).2]:=by
 have f:=me (YF.eq_1 a0 a1);refine KN func160 rfl zAZ (fun v=>?_);simp[ntmps160];refine cBo [] (Y4 a0 (a1.length:Int)) ?_;have i1:(ZI a0 (a1.length:Int)).2.toNat<a1.length:=by(have z:=Xp a0 (a1.length:Int);omega)
 simp[i1,ZB];repeat with_reducible refine tS ?_
 refine xH (rv:=[.tmp 4]) rfl ?_;simp[f.h]
theorem tN(h:b)(k:a:=by(intros;first|omega|with_unfolding_all (first|first|omega|(have z:=Xp a0 (a1.length:Int);omega))|((try simp only[Yd,show ∀x,IntKind.i64.wrap x=W x from fun _=>rfl]at*);omega))):a/\b:=⟨k,h⟩
theorem Cj(a0:Z3)(a1:List ByteArray)(u0:0<a1.length):z8 prog 55 false a0.row [rL 1 sR a1] (U3 a0 a1).1.row [rS (U3 a0 a1).2]:=by
 have f:=me (U3.eq_1 a0 a1);refine KN func55 rfl zAZ (fun v=>?_);simp[ntmps55];refine cBo [] (Y4 a0 (a1.length:Int)) ?_;have i1:(ZI a0 (a1.length:Int)).2.toNat<a1.length:=by(have z:=Xp a0 (a1.length:Int);omega)
 simp[i1,ZB];repeat with_reducible refine tN ?_
 refine xH (rv:=[.tmp 4]) rfl ?_;simp[f.h]
theorem vJ(a0:Z3):z8 prog 232 false a0.row [] (yJ a0).1.row [rS (yJ a0).2]:=by have f:=me (yJ.eq_1 a0);refine KN func232 rfl zAZ (fun v=>?_);simp[ntmps232];refine Tx [(4,0)] rfl zAE ?_;refine cBs [] (Cj a0 ([(⟨#[]⟩:ByteArray),(⟨#[97]⟩:ByteArray),(⟨#[98]⟩:ByteArray),(⟨#[97,98]⟩:ByteArray),(⟨#[121,101,115]⟩:ByteArray),(⟨#[110,111]⟩:ByteArray),(⟨#[111,110,101,32,104,117,110,100,114,101,100]⟩:ByteArray)]:List ByteArray) zAY) ?_;refine xH (rv:=[.tmp 2]) rfl ?_;simp[f.h]
theorem UX(a0:ZL):Sa 144 [a0.row] [rB (yr a0)]:=by
 have f:=me (yr.eq_1 a0);refine so func144 ntmps144 ?_;refine lp1 (qH.eq_2 a0) (fun J=>YM 51 [eX 1 (a0.row.map .d),eI 3 (J:Int)]) (fun n1 J=>a0.Yf.length<n1+J/\J<=a0.Yf.length) (a0.Yf.length+1) 0 (fun p1 J e1 j1=>?_);refine cFf e1 ?_ ?_<;>intro k2 h1 e1
 ·have i1:=ix h1;have m2:=ml a0.Yf (k2 7 _ rfl);have w1:=wr J;simp[i1,ZB];refine rpS ?_;refine cF e1 ?_ ?_<;>intro k3 h2 e1
  ·exact rt [.tmp 2] (ms f e1)
  exact ny1 w1 e1
 have f:=ms f e1;refine lp1 (qh.eq_2 a0) (fun ia=>YM 51 [eX 1 (a0.row.map .d),eI 4 (ia:Int)]) (fun n2 ia=>a0.Xl.length<n2+ia/\ia<=a0.Xl.length) (a0.Xl.length+1) 0 (fun p2 ia e2 j2=>?_);refine cFf e2 ?_ ?_<;>intro k5 h3 e2
 ·have i2:=ix h3;have m4:=ml a0.Xl (k5 21 _ rfl);have w2:=wr ia;simp[i2,ZB];refine rpS ?_;refine cRs (Y8 (nth a0.Xl ia) 1 1000000000000) ?_;refine cFo e2 ?_ ?_<;>intro k6 h4 e2
  ·have q4:=h4;try simp[Ye]at q4
   have f:=ms f e2;simp;exact rt [.tmp 2] f
  have q4:=h4;try simp[Ye]at q4
  simp;exact ny1 w2 e2
 have f:=ms f e2;refine cRs (Y8 a0.KK 0 999) ?_;refine cGs (fun gg=>Y8 (a0.Yf.length:Int) 1 6) ?_;exact rt [.tmp 2] f
theorem F1(a0:Int):Sa 279 [rI a0] [rB (OW a0)]:=by have f:=me (OW.eq_1 a0);refine so func279 ntmps279 ?_;refine cRs (Y8 a0 1 2147483646) ?_;exact rt [.tmp 2] f
theorem HX(a0:Int)(a1:List ByteArray)(a2:Int)(u0:Sm 2326528 a1):Sd 233 [rI a0,rL 1 sR a1,rI a2] [(yW a0 a1 a2).1.row,rB (yW a0 a1 a2).2]:=by
 have f:=me (yW.eq_1 a0 a1 a2);have c1:=sl 2326528 a1 u0;refine soD func233 ntmps233 ?_;refine lp2 (yb.eq_2 a0 a1 a2) (fun J U=>YM 42 [eI 0 a0,eL 1 1 a1 sR,eI 2 a2,(6,.one (.bptr 6 0),[.box [.d (.int .i64 0),.nil 1,.nil 1]]),(8,.one (.bptr 8 0),[.box [.d (.int .i64 a0),.sref 13 0 0 a1.length,.sref 8 3 0 U.length],.none,.none,.arr false 1 (U.map iR)]),eI 9 (J:Int),(13,.any,[.arr false 1 (a1.map sR)])]) (fun n1 J U=>a1.length<n1+J/\J<=a1.length/\U.length<=0+1*J) (a1.length+1) 0 ([]:List Int) (fun p1 J U e1 j1=>?_) (h0:=wkS [((8,3),none)] []);refine cF e1 ?_ ?_<;>intro k2 h1 e1
 ·have i1:=ix h1;have m2:=ml a1 (k2 1 _ rfl);have w1:=wr J;refine dIs mixed ?_;refine cRs (NZ a2 ([a0,(J:Int)]:List Int) zBp) ?_;refine cRs (DO 1 (WB a2 ([a0,(J:Int)]:List Int))) ?_;exact nx2 e1 (hw:=Yk [((8,3),some (30,0))] [] rfl zAe)
 have f:=ms f e1;refine cRs (UX (ZL.mk a0 a1 U)) ?_;refine cGs (fun gg=>F1 a2) ?_;refine cF f ?_ ?_<;>intro k4 h2 f
 ·exact rtD [.cell 6 53,.tmp 7] f
 exact rtD [.cell 6 53,.tmp 7] f
theorem Ss(a0:Z3):z8 prog 161 true a0.row [] (Xn a0).1.row [(Xn a0).2.row]:=by
 have f:=me (Xn.eq_1 a0);refine KN func161 rfl zAZ (fun v=>?_);simp[ntmps161];refine cBs [] (Y4 a0 3) ?_;refine lp5 (VP.eq_2) (fun J U ib iq hE=>YM 28 [(0,.fix v (.one (.bptr 0 0)),[.box [.d (.sl 1 (ib.map bR)),.d (.int .i64 (iq:Int)),.d (.int .i64 hE)]]),(2,.one (.bptr 2 0),[.box [.d (.int .i64 0),.nil 1,.nil 1]]),(3,.one (.sref 3 0 0 J.length),[.arr false 1 (J.map sR)]),eI 4 U]) (fun n1 J U ib iq hE=>U+1<=(n1:Int)/\0<=U/\(J.length:Int)+U<=3/\(∀x∈J,x.size<=11)) 5 ([]:List ByteArray) (W (1+(ZI a0 3).2)) (ZI a0 3).1.b (ZI a0 3).1.i (ZI a0 3).1.h (fun p1 J U ib iq hE e1 j1=>?_) (hI:=by(have z:=Xp a0 3;(try dsimp only);simp only[Yd,List.length_nil];refine⟨zAC,zAC,zAC,zAC,fun x h=>by cases h⟩)) (h0:=wkS [((3,0),some (7,0))] []);try dsimp only at j1
 refine cF e1 ?_ ?_<;>intro k2 h1 e1
 ·refine cBs [] (vJ (Z3.mk ib iq hE)) ?_;exact nx5 e1 (hI:=by(have hh:=h1;simp at hh;(try dsimp only);simp only[Yd,List.length_append,List.length_singleton];refine⟨zAC,zAC,zAC,zAC,fun x hx=>?_⟩;rcases List.mem_append.1 hx with hx|hx;exact j1.2.2.2.2 x hx;simp at hx;rw[hx];exact M4 _)) (hw:=wkS [((3,0),some (19,0))] [])
 have f:=ms f e1;refine cBs [] (Y4 (Z3.mk ib iq hE) 5) ?_;refine cDs [true,false,false] (HX (ZI (Z3.mk ib iq hE) 5).2 J 11 (by(exact⟨zAC,fun x hx=>Nat.le_trans (j1.2.2.2.2 x hx) zAF⟩))) ?_;refine xH (rv:=[.cell 2 53]) rfl ?_;simp[f.h]
theorem R1(a0:Z3)(a1:Int):z8 prog 162 true a0.row [rI a1] (XI a0 a1).1.row [(XI a0 a1).2.row]:=by
 have f:=me (XI.eq_1 a0 a1);refine KN func162 rfl zAZ (fun v=>?_);simp[ntmps162];refine Tx [(7,0)] rfl zAE ?_;refine cBs [] (Ji a0 ([0,-10,40]:List Int) zAY) ?_;refine cF f ?_ ?_<;>intro k1 h1 f
 ·refine cF f ?_ ?_<;>intro k2 h2 f
  ·refine cF f ?_ ?_<;>intro k3 h3 f
   ·refine xH (rv:=[.cell 4 114]) rfl ?_;simp[f.h]
   refine xH (rv:=[.cell 4 114]) rfl ?_;simp[f.h]
  refine cF f ?_ ?_<;>intro k4 h4 f
  ·refine xH (rv:=[.cell 4 114]) rfl ?_;simp[f.h]
  refine xH (rv:=[.cell 4 114]) rfl ?_;simp[f.h]
 refine cF f ?_ ?_<;>intro k5 h5 f
 ·refine cF f ?_ ?_<;>intro k6 h6 f
  ·refine xH (rv:=[.cell 4 114]) rfl ?_;simp[f.h]
  refine xH (rv:=[.cell 4 114]) rfl ?_;simp[f.h]
 refine cF f ?_ ?_<;>intro k7 h7 f
 ·refine xH (rv:=[.cell 4 114]) rfl ?_;simp[f.h]
 refine xH (rv:=[.cell 4 114]) rfl ?_;simp[f.h]
theorem F2(a0:Z3):z8 prog 95 true a0.row [] (Z5 a0).1.row [rL 9 Zo.row (Z5 a0).2]:=by have f:=me (Z5.eq_1 a0);refine KN func95 rfl zAZ (fun v=>?_);simp[ntmps95];refine Tx [(6,0)] rfl zAE ?_;refine cBs [] (Ji a0 ([11,12]:List Int) zAY) ?_;refine cBs [] (Ss (YF a0 ([11,12]:List Int)).1) ?_;refine sI (news:=([Zo.mk 1 22 0 0 0 (ZL.mk 0 ([]:List ByteArray) ([]:List Int)) ([]:List Int),Zo.mk 2 0 (YF a0 ([11,12]:List Int)).2 0 10000 (Xn (YF a0 ([11,12]:List Int)).1).2 ([]:List Int),Zo.mk 1 3 0 0 0 (ZL.mk 0 ([]:List ByteArray) ([]:List Int)) ([]:List Int),Zo.mk 3 1 0 0 0 (ZL.mk 0 ([]:List ByteArray) ([]:List Int)) ([]:List Int)]:List Zo).map Zo.row) (L:=[(9,1),(9,2)]) rfl rfl rfl rfl zAE zAE zAE zAE zAE zAE ?_;simp;refine cBs [] (R1 (Xn (YF a0 ([11,12]:List Int)).1).1 25) ?_;refine qv ?_;simp;refine W9 (im:=([Zo.mk 1 22 0 0 0 (ZL.mk 0 ([]:List ByteArray) ([]:List Int)) ([]:List Int),Zo.mk 2 0 (YF a0 ([11,12]:List Int)).2 0 10000 (Xn (YF a0 ([11,12]:List Int)).1).2 ([]:List Int),Zo.mk 1 3 0 0 0 (ZL.mk 0 ([]:List ByteArray) ([]:List Int)) ([]:List Int),Zo.mk 3 1 0 0 0 (ZL.mk 0 ([]:List ByteArray) ([]:List Int)) ([]:List Int)]:List Zo).map Zo.row) (news:=([(XI (Xn (YF a0 ([11,12]:List Int)).1).1 25).2,Zo.mk 1 18 0 0 0 (ZL.mk 0 ([]:List ByteArray) ([]:List Int)) ([]:List Int)]:List Zo).map Zo.row) (l1:=[(13,0)]) (l2:=[(16,6),(16,7),(16,8)]) (size:=9) ?_;simp;refine cBs [] (R1 (XI (Xn (YF a0 ([11,12]:List Int)).1).1 25).1 43) ?_;refine qv ?_;simp;refine W9 (im:=(([Zo.mk 1 22 0 0 0 (ZL.mk 0 ([]:List ByteArray) ([]:List Int)) ([]:List Int),Zo.mk 2 0 (YF a0 ([11,12]:List Int)).2 0 10000 (Xn (YF a0 ([11,12]:List Int)).1).2 ([]:List Int),Zo.mk 1 3 0 0 0 (ZL.mk 0 ([]:List ByteArray) ([]:List Int)) ([]:List Int),Zo.mk 3 1 0 0 0 (ZL.mk 0 ([]:List ByteArray) ([]:List Int)) ([]:List Int)]:List Zo)++([(XI (Xn (YF a0 ([11,12]:List Int)).1).1 25).2,Zo.mk 1 18 0 0 0 (ZL.mk 0 ([]:List ByteArray) ([]:List Int)) ([]:List Int)]:List Zo)).map Zo.row) (news:=([(XI (XI (Xn (YF a0 ([11,12]:List Int)).1).1 25).1 43).2,Zo.mk 1 22 0 0 0 (ZL.mk 0 ([]:List ByteArray) ([]:List Int)) ([]:List Int)]:List Zo).map Zo.row) (l1:=[(19,0)]) (l2:=[(22,6),(22,7),(22,8)]) (size:=9) ?_;simp;refine cBs [] (R1 (XI (XI (Xn (YF a0 ([11,12]:List Int)).1).1 25).1 43).1 65) ?_;refine qv ?_;simp;refine W9 (im:=((([Zo.mk 1 22 0 0 0 (ZL.mk 0 ([]:List ByteArray) ([]:List Int)) ([]:List Int),Zo.mk 2 0 (YF a0 ([11,12]:List Int)).2 0 10000 (Xn (YF a0 ([11,12]:List Int)).1).2 ([]:List Int),Zo.mk 1 3 0 0 0 (ZL.mk 0 ([]:List ByteArray) ([]:List Int)) ([]:List Int),Zo.mk 3 1 0 0 0 (ZL.mk 0 ([]:List ByteArray) ([]:List Int)) ([]:List Int)]:List Zo)++([(XI (Xn (YF a0 ([11,12]:List Int)).1).1 25).2,Zo.mk 1 18 0 0 0 (ZL.mk 0 ([]:List ByteArray) ([]:List Int)) ([]:List Int)]:List Zo))++([(XI (XI (Xn (YF a0 ([11,12]:List Int)).1).1 25).1 43).2,Zo.mk 1 22 0 0 0 (ZL.mk 0 ([]:List ByteArray) ([]:List Int)) ([]:List Int)]:List Zo)).map Zo.row) (news:=([(XI (XI (XI (Xn (YF a0 ([11,12]:List Int)).1).1 25).1 43).1 65).2,Zo.mk 1 20 0 0 0 (ZL.mk 0 ([]:List ByteArray) ([]:List Int)) ([]:List Int)]:List Zo).map Zo.row) (l1:=[(25,0)]) (l2:=[(28,6),(28,7),(28,8)]) (size:=9) ?_;simp;refine xH (rv:=[.tmp 2]) rfl ?_;simp[f.h]
theorem BL(h:b)(k:a:=by(intros;first|omega|with_unfolding_all (first|first|omega|(have z:=Xp (YF (ZI (ZI a0 16).1 2).1 ([0,(-10),40]:List Int)).1 3;omega))|((try simp only[Yd,show ∀x,IntKind.i64.wrap x=W x from fun _=>rfl]at*);omega))):a/\b:=⟨k,h⟩
theorem Le(a0:Z3):z8 prog 96 false a0.row [] (Xd a0).1.row [(Xd a0).2.row]:=by
 have f:=me (Xd.eq_1 a0);refine KN func96 rfl zAZ (fun v=>?_);simp[ntmps96];refine cBs [] (Y4 a0 16) ?_;refine cF f ?_ ?_<;>intro k1 h1 f
 ·refine cY h1 ?_;refine Tx [(10,0)] rfl zAE ?_;refine cBs [] (Ji (ZI a0 16).1 ([1,5,10,20,30]:List Int) zAY) ?_;refine xH (rv:=[.cell 2 114]) rfl ?_;simp[f.h]
 refine cF f ?_ ?_<;>intro k2 h2 f
 ·refine cY h2 ?_;refine Tx [(10,0)] rfl zAE ?_;refine cBs [] (Ji (ZI a0 16).1 ([1,5,10,20,30]:List Int) zAY) ?_;refine xH (rv:=[.cell 2 114]) rfl ?_;simp[f.h]
 refine cF f ?_ ?_<;>intro k3 h3 f
 ·refine Tx [(10,0)] rfl zAE ?_;refine cBs [] (Ji (ZI a0 16).1 ([1,5,10,20,30]:List Int) zAY) ?_;refine xH (rv:=[.cell 2 114]) rfl ?_;simp[f.h]
 refine cF f ?_ ?_<;>intro k4 h4 f
 ·refine cY h4 ?_;refine cBs [] (Y4 (ZI a0 16).1 2) ?_;refine Tx [(19,0)] rfl zAE ?_;refine cBs [] (Ji (ZI (ZI a0 16).1 2).1 ([11,12,13]:List Int) zAY) ?_;refine Tx [(22,0)] rfl zAE ?_;refine cBs [] (Ji (YF (ZI (ZI a0 16).1 2).1 ([11,12,13]:List Int)).1 ([30,10000]:List Int) zAY) ?_;refine cBs [] (Ss (YF (YF (ZI (ZI a0 16).1 2).1 ([11,12,13]:List Int)).1 ([30,10000]:List Int)).1) ?_;refine xH (rv:=[.cell 2 114]) rfl ?_;simp[f.h]
 refine cF f ?_ ?_<;>intro k5 h5 f
 ·refine cBs [] (Y4 (ZI a0 16).1 2) ?_;refine Tx [(19,0)] rfl zAE ?_;refine cBs [] (Ji (ZI (ZI a0 16).1 2).1 ([11,12,13]:List Int) zAY) ?_;refine Tx [(22,0)] rfl zAE ?_;refine cBs [] (Ji (YF (ZI (ZI a0 16).1 2).1 ([11,12,13]:List Int)).1 ([30,10000]:List Int) zAY) ?_;refine cBs [] (Ss (YF (YF (ZI (ZI a0 16).1 2).1 ([11,12,13]:List Int)).1 ([30,10000]:List Int)).1) ?_;refine xH (rv:=[.cell 2 114]) rfl ?_;simp[f.h]
 refine cF f ?_ ?_<;>intro k6 h6 f
 ·refine cY h6 ?_;refine cBs [] (Y4 (ZI a0 16).1 3) ?_;refine xH (rv:=[.cell 2 114]) rfl ?_;simp[f.h]
 refine cF f ?_ ?_<;>intro k7 h7 f
 ·refine cBs [] (Y4 (ZI a0 16).1 3) ?_;refine xH (rv:=[.cell 2 114]) rfl ?_;simp[f.h]
 refine cF f ?_ ?_<;>intro k8 h8 f
 ·refine cBs [] (Y4 (ZI a0 16).1 3) ?_;refine xH (rv:=[.cell 2 114]) rfl ?_;simp[f.h]
 refine cF f ?_ ?_<;>intro k9 h9 f
 ·refine cBs [] (Y4 (ZI a0 16).1 2) ?_;refine cBs [] (Y4 (ZI (ZI a0 16).1 2).1 2) ?_;refine cBs [] (Y4 (ZI (ZI (ZI a0 16).1 2).1 2).1 3) ?_;refine xH (rv:=[.cell 2 114]) rfl ?_;simp[f.h]
 refine cF f ?_ ?_<;>intro cv dT f
 ·refine cBs [] (Y4 (ZI a0 16).1 2) ?_;refine xH (rv:=[.cell 2 114]) rfl ?_;simp[f.h]
 refine cF f ?_ ?_<;>intro aK h11 f
 ·refine cBs [] (Y4 (ZI a0 16).1 2) ?_;refine Tx [(59,0)] rfl zAE ?_;refine cBs [] (Ji (ZI (ZI a0 16).1 2).1 ([11,12]:List Int) zAY) ?_;refine cBs [] (Ss (YF (ZI (ZI a0 16).1 2).1 ([11,12]:List Int)).1) ?_;refine xH (rv:=[.cell 2 114]) rfl ?_;simp[f.h]
 refine cF f ?_ ?_<;>intro k12 h12 f
 ·refine cBs [] (Y4 (ZI a0 16).1 4) ?_;refine Tx [(70,0)] rfl zAE ?_;refine cBs [] (Ji (ZI (ZI a0 16).1 4).1 ([5,25,60]:List Int) zAY) ?_;refine xH (rv:=[.cell 2 114]) rfl ?_;simp[f.h]
 refine cF f ?_ ?_<;>intro aL h13 f
 ·refine cBs [] (Y4 (ZI a0 16).1 3) ?_;refine Tx [(79,0)] rfl zAE ?_;refine cBs [] (Ji (ZI (ZI a0 16).1 3).1 ([10,40,60]:List Int) zAY) ?_;refine xH (rv:=[.cell 2 114]) rfl ?_;simp[f.h]
 refine cBs [] (Y4 (ZI a0 16).1 2) ?_;refine Tx [(85,0)] rfl zAE ?_;refine cBs [] (Ji (ZI (ZI a0 16).1 2).1 ([0,-10,40]:List Int) zAY) ?_;refine cBo [] (Y4 (YF (ZI (ZI a0 16).1 2).1 ([0,-10,40]:List Int)).1 3) ?_;simp;repeat with_reducible refine BL ?_
 refine xH (rv:=[.cell 2 114]) rfl ?_;simp[f.h]
theorem Tn(h:b)(k:a:=by(intros;first|omega|with_unfolding_all (first|first|omega|(have z:=Xp (Z5 (Zv a0 2).1).1 (W (((Z5 (Zv a0 2).1).2.length:Int)+1));have z3:=Kz (Zv a0 2).1;simp only[Yd]at*;omega))|((try simp only[Yd,show ∀x,IntKind.i64.wrap x=W x from fun _=>rfl]at*);omega))):a/\b:=⟨k,h⟩
theorem Dk(a0:Z3)(a1:Int):z8 prog 54 false a0.row [rI a1] (zk a0 a1).1.row [rL 9 Zo.row (zk a0 a1).2]:=by
 have f:=me (zk.eq_1 a0 a1);refine KN func54 rfl zAZ (fun v=>?_);simp[ntmps54];refine eIs ?_;refine cBs [] (NJ a0 2) ?_;refine cF f ?_ ?_<;>intro k1 h1 f
 ·refine cBs [] (F2 (Zv a0 2).1) ?_;refine cBo [] (Y4 (Z5 (Zv a0 2).1).1 (W (((Z5 (Zv a0 2).1).2.length:Int)+1))) ?_;simp;repeat with_reducible refine Tn ?_
  refine cBs [] (Y4 (ZI (Z5 (Zv a0 2).1).1 (W (((Z5 (Zv a0 2).1).2.length:Int)+1))).1 a1) ?_;refine lp5 (Kr.eq_2) (fun J U ib iq hE=>YM 32 [(0,.fix v (.one (.bptr 0 0)),[.box [.d (.sl 1 (ib.map bR)),.d (.int .i64 (iq:Int)),.d (.int .i64 hE)]]),(5,.one (.sref 5 0 0 J.length),[.arr false 9 (J.map Zo.row)]),eI 6 U]) (fun n1 J U ib iq hE=>U+1<=(n1:Int)/\0<=U/\(J.length:Int)+U<=16777300) ((ZI (ZI (Z5 (Zv a0 2).1).1 (W (((Z5 (Zv a0 2).1).2.length:Int)+1))).1 a1).2.toNat+2) ((Z5 (Zv a0 2).1).2.take (ZI (Z5 (Zv a0 2).1).1 (W (((Z5 (Zv a0 2).1).2.length:Int)+1))).2.toNat) (ZI (ZI (Z5 (Zv a0 2).1).1 (W (((Z5 (Zv a0 2).1).2.length:Int)+1))).1 a1).2 (ZI (ZI (Z5 (Zv a0 2).1).1 (W (((Z5 (Zv a0 2).1).2.length:Int)+1))).1 a1).1.b (ZI (ZI (Z5 (Zv a0 2).1).1 (W (((Z5 (Zv a0 2).1).2.length:Int)+1))).1 a1).1.i (ZI (ZI (Z5 (Zv a0 2).1).1 (W (((Z5 (Zv a0 2).1).2.length:Int)+1))).1 a1).1.h (fun p1 J U ib iq hE e1 j1=>?_) (hI:=by(have z:=Xp (ZI (Z5 (Zv a0 2).1).1 (W (((Z5 (Zv a0 2).1).2.length:Int)+1))).1 a1;have z2:=IN (ZI (Z5 (Zv a0 2).1).1 (W (((Z5 (Zv a0 2).1).2.length:Int)+1))).1 a1;(try dsimp only);first|(simp only[List.length_nil];omega)|(have z3:=Kz (Zv a0 2).1;simp only[List.length_take];omega))) (h0:=mg (qq:=true) prog false (d:=5) (u:=11) (j:=0) (n:=(ZI (Z5 (Zv a0 2).1).1 (W (((Z5 (Zv a0 2).1).2.length:Int)+1))).2.toNat) (size:=9) (rows:=(Z5 (Zv a0 2).1).2.map Zo.row) zAE zAE (by simp;first|omega|(have z:=Xp (Z5 (Zv a0 2).1).1 (W (((Z5 (Zv a0 2).1).2.length:Int)+1));have z3:=Kz (Zv a0 2).1;simp only[Yd]at*;omega)) zAE zAE (Qs zAE));try dsimp only at j1
  refine cF e1 ?_ ?_<;>intro k3 h2 e1
  ·refine cBs [] (Le (Z3.mk ib iq hE)) ?_;refine eIs ?_;refine evI rfl rfl rfl ?_;simp;repeat with_reducible refine Tn ?_
   exact nx5 e1 (hI:=by(have hh:=h2;simp at hh;simp only[Yd];(try dsimp only);simp only[List.length_append,List.length_cons,List.length_nil];omega)) (hw:=wkS [((5,0),some (30,0))] [])
  have f:=ms f e1;refine xH (rv:=[.tmp 4]) rfl ?_;simp[f.h]
 refine cBs [] (Y4 (Zv a0 2).1 a1) ?_;refine lp5 (Kv.eq_2) (fun ia iZ gI gJ gZ=>YM 32 [(0,.fix v (.one (.bptr 0 0)),[.box [.d (.sl 1 (gI.map bR)),.d (.int .i64 (gJ:Int)),.d (.int .i64 gZ)]]),(5,.one (.sref 5 0 0 ia.length),[.arr false 9 (ia.map Zo.row)]),eI 6 iZ]) (fun n2 ia iZ gI gJ gZ=>iZ+1<=(n2:Int)/\0<=iZ/\(ia.length:Int)+iZ<=16777300) ((ZI (Zv a0 2).1 a1).2.toNat+2) ([]:List Zo) (ZI (Zv a0 2).1 a1).2 (ZI (Zv a0 2).1 a1).1.b (ZI (Zv a0 2).1 a1).1.i (ZI (Zv a0 2).1 a1).1.h (fun p2 ia iZ gI gJ gZ e2 j2=>?_) (hI:=by(have z:=Xp (Zv a0 2).1 a1;have z2:=IN (Zv a0 2).1 a1;(try dsimp only);first|(simp only[List.length_nil];omega)|(have z3:=Kz (Zv a0 2).1;simp only[List.length_take];omega))) (h0:=wkS [((5,0),some (7,0))] []);try dsimp only at j2
 refine cF e2 ?_ ?_<;>intro k5 h3 e2
 ·refine cBs [] (Le (Z3.mk gI gJ gZ)) ?_;refine eIs ?_;refine evI rfl rfl rfl ?_;simp;repeat with_reducible refine Tn ?_
  exact nx5 e2 (hI:=by(have hh:=h3;simp at hh;simp only[Yd];(try dsimp only);simp only[List.length_append,List.length_cons,List.length_nil];omega)) (hw:=wkS [((5,0),some (30,0))] [])
 have f:=ms f e2;refine xH (rv:=[.tmp 4]) rfl ?_;simp[f.h]
theorem BU(a0:ZT)(u0:Sm 2342912 a0):Sd 148 [a0.row] [(Li a0).row]:=by have f:=me (Li.eq_1 a0);have c1:=sl 2342912 a0.Zz u0;have c2:=sl 2342912 a0.ZC u0;have c3:=sl 2342912 a0.Methods u0;refine soD func148 ntmps148 ?_;exact rtD _ f
theorem Dv(a0:ZT)(u0:Sm 2342912 a0):Sd 148 [a0.row] [a0.row]:=by have h:=BU a0 u0;rwa[Bn]at h
theorem ua(a0:ZL)(u0:Sm 2342912 a0):Sd 138 [a0.row] [(E1 a0).row]:=by have f:=me (E1.eq_1 a0);refine soD func138 ntmps138 ?_;refine DB [2,3,4,5,6,7,8,9,0,1,10,11] mixed zAZ zAZ zAZ ?_;have c1:=sl 2342912 a0.Yf u0;have c2:=sl 2342912 a0.Xl u0;simp;refine rpS ?_;exact rtD [.cell 2 53] f
theorem Il(a0:ZL)(u0:Sm 2342912 a0):Sd 138 [a0.row] [a0.row]:=by have h:=ua a0 u0;rwa[uH]at h
theorem w9(a0:ZV)(u0:Sm 2342912 a0):Sd 209 [a0.row] [(GV a0).row]:=by have f:=me (GV.eq_1 a0);refine soD func209 ntmps209 ?_;refine DB [2,3,4,5,0,1,6,7,8,9] mixed zAZ zAZ zAZ ?_;have c1:=sl 2342912 a0.YS u0;simp;refine rpS ?_;exact rtD [.cell 2 98] f
theorem LD(a0:ZV)(u0:Sm 2342912 a0):Sd 209 [a0.row] [a0.row]:=by have h:=w9 a0 u0;rwa[Aj]at h
theorem vN(a0:List ZV)(u0:Sm 2338816 a0):Sd 139 [rL 3 ZV.row a0] [rL 3 ZV.row (IM a0)]:=by
 have f:=me (IM.eq_1 a0);refine soD func139 ntmps139 ?_;refine sI (news:=([]:List ZV).map ZV.row) (L:=[]) rfl rfl rfl rfl zAE zAE zAE zAE zAE zAE ?_;simp;refine lp2 (P9.eq_2 a0) (fun J U=>YM 21 [eL 0 3 a0 ZV.row,(3,.one (.sref 3 0 0 J.length),[.arr true 3 (J.map ZV.row)]),eI 4 (U:Int)]) (fun n1 J U=>a0.length<n1+U/\U<=a0.length/\J.length<=0+1*U) (a0.length+1) ([]:List ZV) 0 (fun p1 J U e1 j1=>?_) (h0:=wkS [((3,0),some (5,0))] []);refine cFf e1 ?_ ?_<;>intro k2 h1 e1
 ·have i1:=ix h1;have m2:=ml a0 (k2 0 _ rfl);have c1:=sl 2338816 a0 u0;have w1:=wr U;simp[i1,ZB];refine rpS ?_;refine cDs [true,false] (LD (nth a0 U) (sg (Zi u0))) ?_;refine qv ?_;simp;refine W9 (im:=J.map ZV.row) (news:=([nth a0 U]:List ZV).map ZV.row) (l1:=[(3,0)]) (l2:=[(17,1)]) (size:=3) ?_;simp;exact nx2 e1 (hw:=Yk [((3,0),some (19,0))] [] rfl zAe)
 exact rtD [.tmp 2] (ms f e1)
theorem wI(a0:List ZV)(u0:Sm 2338816 a0):Sd 139 [rL 3 ZV.row a0] [rL 3 ZV.row a0]:=by have h:=vN a0 u0;rwa[v8]at h
theorem Aq(a0:ZZ)(u0:Sm 2342912 a0):Sd 87 [a0.row] [(GN a0).row]:=by have f:=me (GN.eq_1 a0);have c1:=sl 2342912 a0.Path u0;have c2:=sl 2342912 a0.YK u0;refine soD func87 ntmps87 ?_;exact rtD [.cell 2 87] f
theorem LP(a0:ZZ)(u0:Sm 2342912 a0):Sd 87 [a0.row] [a0.row]:=by have h:=Aq a0 u0;rwa[w7]at h
theorem wC(a0:ZU)(u0:Sm 2334720 a0):Sd 81 [a0.row] [(Mb a0).row]:=by
 have f:=me (Mb.eq_1 a0);refine soD func81 ntmps81 ?_;refine cDs [] (wI a0.ZM (sg (ZU.XV u0))) ?_;refine lp2 (RO.eq_2 a0) (fun J U=>YM 28 [eX 1 (a0.row.map .d),(2,.one (.bptr 2 0),[.box [.nil 3,.nil 5]]),(3,.one (.bptr 3 0),[.box [.sref 7 0 0 a0.ZM.length,.sref 3 2 0 U.length],.none,.arr true 5 (U.map ZZ.row)]),eI 4 (J:Int),(7,.any,[.arr true 3 (a0.ZM.map ZV.row)])]) (fun n1 J U=>a0.ZR.length<n1+J/\J<=a0.ZR.length/\U.length<=0+1*J) (a0.ZR.length+1) 0 ([]:List ZZ) (fun p1 J U e1 j1=>?_) (h0:=wkS [((3,2),none)] []);refine cF e1 ?_ ?_<;>intro k2 h1 e1
 ·have i1:=ix h1;have m2:=ml a0.ZR (k2 11 _ rfl);have c1:=sl 2334720 a0.ZR u0;have w1:=wr J;refine drJ [25] mixed ?_;simp[i1,ZB];refine rpS ?_;refine cDs [true,true,true,false,false] (LP (nth a0.ZR J) (sg (Zi (ZU.KE u0)))) ?_;refine qv ?_;simp;refine W9 (im:=U.map ZZ.row) (news:=([nth a0.ZR J]:List ZZ).map ZZ.row) (l1:=[(3,2)]) (l2:=[(23,3),(23,4)]) (size:=5) ?_;simp;exact nx2 e1 (hw:=Yk [((3,2),some (25,0))] [] rfl zAe)
 have c2:=sl 2334720 a0.ZR u0;exact rtD [.cell 2 59] (ms f e1)
theorem xg(a0:ZU)(u0:Sm 2334720 a0):Sd 81 [a0.row] [a0.row]:=by have h:=wC a0 u0;rwa[Ae]at h
theorem wb(a0:ZO)(u0:Sm 2330624 a0):Sd 80 [a0.row] [(Gl a0).row]:=by have f:=me (Gl.eq_1 a0);refine soD func80 ntmps80 ?_;refine cDs [true,false,false] (Il a0.Doc (sg (ZO.KU u0))) ?_;refine cDs [] (xg a0.ZN (sg (ZO.Yz u0))) ?_;exact rtD [.cell 2 61] f
theorem Qm(a0:ZO)(u0:Sm 2330624 a0):Sd 80 [a0.row] [a0.row]:=by have h:=wb a0 u0;rwa[Ao]at h
theorem wZ(a0:ZD)(u0:Sm 2326528 a0):Sd 44 [a0.row] [(MV a0).row]:=by
 have f:=me (MV.eq_1 a0);refine soD func44 ntmps44 ?_;refine lp2 (S9.eq_2 a0) (fun J U=>YM 27 [eX 1 (a0.row.map .d),(2,.one (.bptr 2 0),[.box [.d (.int .i64 0),.nil 16]]),(3,.one (.bptr 3 0),[.box [.d (.int .i64 a0.Id),.sref 3 2 0 U.length],.none,.arr true 16 (U.map ZO.row)]),eI 4 (J:Int)]) (fun n1 J U=>a0.ZE.length<n1+J/\J<=a0.ZE.length/\U.length<=0+1*J) (a0.ZE.length+1) 0 ([]:List ZO) (fun p1 J U e1 j1=>?_) (h0:=wkS [((3,2),none)] []);refine cF e1 ?_ ?_<;>intro k2 h1 e1
 ·have i1:=ix h1;have m2:=ml a0.ZE (k2 10 _ rfl);have c1:=sl 2326528 a0.ZE u0;have w1:=wr J;refine drJ [24] mixed ?_;simp[i1,ZB];refine rpS ?_;refine cDs [true,true,true,false,false] (Qm (nth a0.ZE J) (sg (Zi (ZD.YD u0)))) ?_;refine qv ?_;simp;refine W9 (im:=U.map ZO.row) (news:=([nth a0.ZE J]:List ZO).map ZO.row) (l1:=[(3,2)]) (l2:=[(22,3),(22,4),(22,14),(22,15)]) (size:=16) ?_;simp;exact nx2 e1 (hw:=Yk [((3,2),some (24,0))] [] rfl zAe)
 have c2:=sl 2326528 a0.ZE u0;exact rtD [.cell 2 44] (ms f e1)
theorem QA(a0:ZD)(u0:Sm 2326528 a0):Sd 44 [a0.row] [a0.row]:=by have h:=wZ a0 u0;rwa[Aw]at h
theorem Ay(a0:ZF)(u0:Sm 2322432 a0):Sd 89 [a0.row] [(MZ a0).row]:=by
 have f:=me (MZ.eq_1 a0);refine soD func89 ntmps89 ?_;refine DB [0,1,2,3,4,5,6,7,8,9,10,11,12,13,14,15,16,17,18,21,22,23,24,19,20,25,26,27] mixed zAZ zAZ zAZ ?_;simp;have c1:=sl 2322432 a0.Zd u0;have c2:=sl 2322432 a0.YW u0;have c3:=sl 2322432 a0.XW u0;have c4:=sl 2322432 a0.XA u0;have c5:=sl 2322432 a0.Ym u0;refine cDs [false,false,false] (Dv a0.Frame (sg (ZF.Yx u0))) ?_;refine lp2 (S0.eq_2 a0) (fun J U=>YM 50 [eX 1 (a0.row.map .d),(2,.one (.bptr 2 0),[.box [.nil 5,.nil 3,.nil 4,.d (.int .i64 0),.d (.int .i64 0),.nil 7,.nil 1,.nil 2,.nil 1,.nil 1,.d (.int .i64 0),.nil 1]]),(3,.one (.bptr 3 0),[.box [.sref 7 0 0 a0.Frame.Zz.length,.sref 7 1 0 a0.Frame.ZC.length,.sref 7 2 0 a0.Frame.Methods.length,.d (.int .i64 a0.Frame.Jb),.d (.int .i64 a0.Frame.Now),.sref 11 0 0 a0.Zd.length,.sref 15 0 0 a0.YW.length,.sref 3 8 0 U.length,.sref 19 0 0 a0.XW.length,.sref 23 0 0 a0.XA.length,.d (.int .i64 a0.Next),.sref 29 0 0 a0.Ym.length],.none,.none,.none,.none,.none,.none,.none,.arr true 2 (U.map ZD.row)]),eI 4 (J:Int),(7,.any,[.arr false 5 (a0.Frame.Zz.map Yg.row),.arr false 3 (a0.Frame.ZC.map Za.row),.arr false 4 (a0.Frame.Methods.map Z9.row)]),(11,.any,[.arr false 7 (a0.Zd.map YL.row)]),(15,.any,[.arr false 1 (a0.YW.map iR)]),(19,.any,[.arr false 1 (a0.XW.map iR)]),(23,.any,[.arr false 1 (a0.XA.map iR)]),(29,.any,[.arr false 1 (a0.Ym.map iR)])]) (fun n1 J U=>a0.ZA.length<n1+J/\J<=a0.ZA.length/\U.length<=0+1*J) (a0.ZA.length+1) 0 ([]:List ZD) (fun p1 J U e1 j1=>?_) (h0:=wkS [((3,8),none)] []);refine cF e1 ?_ ?_<;>intro k3 h1 e1
 ·have i1:=ix h1;have m2:=ml a0.ZA (k3 33 _ rfl);have c6:=sl 2322432 a0.ZA u0;have w1:=wr J;refine drJ [47] mixed ?_;simp[i1,ZB];refine rpS ?_;refine cDs [] (QA (nth a0.ZA J) (sg (Zi (ZF.Z6 u0)))) ?_;refine qv ?_;simp;refine W9 (im:=U.map ZD.row) (news:=([nth a0.ZA J]:List ZD).map ZD.row) (l1:=[(3,8)]) (l2:=[(45,1)]) (size:=2) ?_;simp;exact nx2 e1 (hw:=Yk [((3,8),some (47,0))] [] rfl zAe)
 exact rtD [.cell 2 33] (ms f e1)
theorem QT(a0:ZF)(u0:Sm 2322432 a0):Sd 89 [a0.row] [a0.row]:=by have h:=Ay a0 u0;rwa[As]at h
theorem Bq(a0:ZF)(a1:Int)(u0:Sm 2318336 a0):Sd 149 [a0.row,rI a1] [(VR a0 a1).1.row,rB (VR a0 a1).2]:=by
 have f:=me (VR.eq_1 a0 a1);refine soD func149 ntmps149 ?_;refine cDs [false,false,false,true,true,false,false,true,false,false,true,false] (QT a0 (sg u0)) ?_;refine cRs (Y8 a1 0 100) ?_;refine cFo f ?_ ?_<;>intro k1 h1 f
 ·have q1:=h1;try simp[Ye]at q1
  simp;exact rtD _ f
 have q1:=h1;try simp[Ye]at q1
 simp;exact rtD _ f
theorem WJ(a0:ZF)(a1:Int):Sa 215 [a0.row,rI a1] [rB (Q7 a0 a1)]:=by have f:=me (Q7.eq_1 a0 a1);refine so func215 ntmps215 ?_;refine cRs (Y8 a1 0 (W ((a0.ZA.length:Int)-1))) ?_;exact rt [.tmp 4] f
theorem kC(a0:List Z9)(a1:Int):Sa 223 [rL 4 Z9.row a0,rI a1] [rI (Zp a0 a1)]:=by
 have f:=me (Zp.eq_1 a0 a1);refine so func223 ntmps223 ?_;refine lp2 (Ws.eq_2 a0 a1) (fun J U=>YM 54 [eL 0 4 a0 Z9.row,eI 1 a1,eI 5 J,eI 6 (U:Int)]) (fun n1 J U=>a0.length<n1+U/\U<=a0.length/\-1<=J/\J<(a0.length:Int)) (a0.length+1) (-1) 0 (fun p1 J U e1 j1=>?_);refine cF e1 ?_ ?_<;>intro k2 h1 e1
 ·have i1:=ix h1;have m2:=ml a0 (k2 0 _ rfl);have w1:=wr U;refine dIo mixed ?_;simp[i1,ZB];refine rpS ?_;refine gIf ?_ ?_<;>intro G
  ·simp[i1,ZB,G];refine rpG ?_;refine gJf G ?_ ?_<;>intro G
   ·all_goals
     simp[i1,ZB,G];refine rpG ?_;refine gK (fun _=>?_);have i2:=ik J.toNat a0
     simp[i2,ZB,G];refine rpG ?_;refine cK e1 ?_ ?_<;>intro k4 h2 e1
     ·exact ny2 (an w1 G) e1
     ·exact ny2 (an w1 G) e1
   ·all_goals
     refine sGg ?_;refine cK e1 ?_ ?_<;>intro k5 h3 e1
     ·exact ny2 (an w1 G) e1
     ·exact ny2 (an w1 G) e1
  ·refine gJf G ?_ ?_<;>intro G
   ·try(simp at G;done)
    all_goals
     simp[i1,ZB,G];refine rpG ?_;refine gK (fun _=>?_);have i4:=ik J.toNat a0
     simp[i4,ZB,G];refine rpG ?_;refine cK e1 ?_ ?_<;>intro k6 h4 e1
     ·simp[G]at h4
     ·simp[G]at h4
   ·all_goals
     refine sGg ?_;refine cK e1 ?_ ?_<;>intro k7 h5 e1
     ·simp[G]at h5
     ·exact ny2 (an w1 G) e1
 have f:=ms f e1;refine cFt f ?_ ?_<;>intro k8 h6 f
 ·exact rt [.tmp 4] f
 have i6:=ik J.toNat a0;simp[i6,ZB];refine rpS ?_;exact rt [.tmp 4] f
theorem Ci(a0:ZF)(a1:Int):Sa 266 [a0.row,rI a1] [rI (JE a0 a1)]:=by
 have f:=me (JE.eq_1 a0 a1);refine so func266 ntmps266 ?_;refine lp1 (V2.eq_2 a0 a1) (fun J=>YM 22 [eI 1 a1,eX 2 (a0.row.map .d),eI 5 (J:Int)]) (fun n1 J=>a0.Zd.length<n1+J/\J<=a0.Zd.length) (a0.Zd.length+1) 0 (fun p1 J e1 j1=>?_);refine cFf e1 ?_ ?_<;>intro k2 h1 e1
 ·have i1:=ix h1;have m2:=ml a0.Zd (k2 8 _ rfl);have w1:=wr J;simp[i1,ZB];refine rpS ?_;refine cF e1 ?_ ?_<;>intro k3 h2 e1
  ·exact rt [.tmp 4] (ms f e1)
  exact ny1 w1 e1
 exact rt [.tmp 4] (ms f e1)
theorem Kt(a0:Int)(a1:List Int)(u0:Sm 68719476736 a1):Sa 210 [rI a0,rL 1 iR a1] [rI (zq a0 a1)]:=by have f:=me (zq.eq_1 a0 a1);have c1:=sl 68719476736 a1 u0;refine so func210 ntmps210 ?_;refine cRs (AW (([7,a0]:List Int)++a1)) ?_;exact rt [.tmp 4] f
theorem EF(a0:Int)(a1:ByteArray)(a2:Int)(u0:Sm 2326528 a1):Sa 212 [rI a0,rS a1,rI a2] [rI (Om a0 a1 a2)]:=by
 have f:=me (Om.eq_1 a0 a1 a2);refine so func212 ntmps212 ?_;refine lp2 (Tu.eq_2 a1) (fun J U=>YM 27 [eI 0 a0,(1,.one (.d (.str a1)),[]),(7,.one (.sref 7 0 0 J.length),[.arr false 1 (J.map iR)]),eI 8 (U:Int)]) (fun n1 J U=>a1.size<n1+U/\U<=a1.size/\J.length<=1+1*U) (a1.size+1) ([a2]:List Int) 0 (fun p1 J U e1 j1=>?_) (h0:=wkS [((7,0),some (10,0))] []);refine cFo e1 ?_ ?_<;>intro k2 h1 e1
 ·have q1:=h1;try simp at q1
  have c1:a1.size<=2326528:=Qh (xs u0);have w1:=wr U;simp;refine rpS ?_;exact nx2 e1 (hw:=Yk [((7,0),some (23,0))] [] rfl zAe)
 have q1:=h1;try simp at q1
 have c2:a1.size<=2326528:=Qh (xs u0);have f:=ms f e1;simp;refine cRs (Kt a0 J zAN) ?_;exact rt [.tmp 6] f
theorem Tw(a0:Int)(a1:ZL)(u0:Sm 2322432 a1):Sa 142 [rI a0,a1.row] [rI (Ks a0 a1)]:=by
 have f:=me (Ks.eq_1 a0 a1);refine so func142 ntmps142 ?_;refine cRs (UX a1) ?_;refine cF f ?_ ?_<;>intro k1 h1 f
 ·exact rt [.tmp 4] f
 refine lp2 (R5.eq_2 a0 a1) (fun J U=>YM 38 [eI 0 a0,eX 3 (a1.row.map .d),(5,.one (.sref 5 0 0 J.length),[.arr false 1 (J.map iR)]),eI 6 (U:Int)]) (fun n1 J U=>a1.Yf.length<n1+U/\U<=a1.Yf.length/\J.length<=1+1*U) (a1.Yf.length+1) ([a1.KK]:List Int) 0 (fun p1 J U e1 j1=>?_) (h0:=wkS [((5,0),some (12,0))] []);refine cF e1 ?_ ?_<;>intro k3 h2 e1
 ·have i1:=ix h2;have m2:=ml a1.Yf (k3 15 _ rfl);have c1:=sl 2322432 a1.Yf u0;have w1:=wr U;refine dIo mixed ?_;have i2:U<a1.Xl.length:=by(have:=GG (a:=a1);first|(simp_all;done)|(simp_all;omega))
  simp[i1,ZB,i2];refine rpS ?_;refine cRs (EF a0 (nth a1.Yf U) (nth a1.Xl U) (sg (Zi (ZL.UG u0)))) ?_;exact nx2 e1 (hw:=Yk [((5,0),some (34,0))] [] rfl zAe)
 have c2:=sl 2322432 a1.Yf u0;have f:=ms f e1;refine cRs (Kt a0 J zAN) ?_;exact rt [.tmp 4] f
theorem Ht(a0:Zs):Sa 309 [a0.row] [rB (PL a0)]:=by have f:=me (PL.eq_1 a0);refine so func309 ntmps309 ?_;refine cRs (Y8 a0.Key 1 99) ?_;refine cGs (fun gg=>Y8 a0.Zk 1 999) ?_;refine cGs (fun gg=>Y8 a0.Method 0 99) ?_;refine cGs (fun gg=>Y8 a0.Org 0 99) ?_;refine cGs (fun gg=>Y8 a0.kl 1 3) ?_;refine cGs (fun gg=>Y8 a0.Y6 0 1000000000000) ?_;refine cGs (fun gg=>Y8 a0.kj 0 1000000000000) ?_;refine cGs (fun gg=>Y8 a0.Wl 0 1000000000000) ?_;exact rt [.tmp 2] f
theorem Th(a0:Zs):Sd 214 [a0.row] [rL 1 iR (JY a0)]:=by have f:=me (JY.eq_1 a0);refine soD func214 ntmps214 ?_;exact rtD [.tmp 2] f
theorem EP(a0:List Yg)(a1:Zs)(u0:Sm 2322432 a0):Sa 267 [rL 5 Yg.row a0,a1.row] [(xB a0 a1).1.row,rB (xB a0 a1).2]:=by
 have f:=me (xB.eq_1 a0 a1);refine so func267 ntmps267 ?_;refine cRs (Jq a0 a1.Key) ?_;refine cRs (Ht a1) ?_;refine cF f ?_ ?_<;>intro k1 h1 f
 ·exact rt [.cell 4 55,.tmp 5] f
 refine dIo mixed ?_;have i1:(Yt a0 a1.Key).toNat<a0.length:=by have:=Jw a0 a1.Key;exact il
 simp[i1,ZB];refine rpS ?_;refine cRs (YN.rd (Th a1)) ?_;refine cRs (V0 (nth a0 (Yt a0 a1.Key).toNat) (JY a1) (by simp(maxDischargeDepth:=12) [Ts,ZK (m:=2326528) zAF u0];try omega)) ?_;exact rt [.cell 4 55,.tmp 5] f
theorem MC(a0:Zs):Sd 146 [a0.row] [(kq a0).row]:=by have f:=me (kq.eq_1 a0);refine soD func146 ntmps146 ?_;refine dIs mixed ?_;refine cDs [false] (Th a0) ?_;exact rtD [.cell 2 98] f
theorem Et(a0:YL):Sd 268 [a0.row] [(Su a0).row]:=by have f:=me (Su.eq_1 a0);refine soD func268 ntmps268 ?_;refine dIs mixed ?_;refine cDs [false] (LW a0) ?_;exact rtD [.cell 2 98] f
theorem HZ(a0:ZF)(a1:Int)(a2:ZL)(a3 a4:Int)(u0:Sm 2318336 a0)(u1:Sm 2318336 a2):So 216 [a0.row,rI a1,a2.row,rI a3,rI a4] [(QZ a0 a1 a2 a3 a4).1.row,rB (QZ a0 a1 a2 a3 a4).2]:=by
 have f:=me (QZ.eq_1 a0 a1 a2 a3 a4);refine so func216 ntmps216 ?_;refine cRs (kC a0.Frame.Methods a0.Frame.Now) ?_;refine cRs (Ci a0 a1) ?_;refine cF f ?_ ?_<;>intro k1 h1 f
 ·exact rtO [.cell 10 61,.tmp 11] f
 refine dIo mixed ?_;have i1:(JE a0 a1).toNat<a0.Zd.length:=by have:=CG a0 a1;exact il
 simp[i1,ZB];refine rpS ?_;refine cRs (Tw (Zp a0.Frame.Methods a0.Frame.Now) a2 (sg u1)) ?_;refine cRs (EP a0.Frame.Zz (Zs.mk a1 (nth a0.Zd (JE a0 a1).toNat).Zk (Zp a0.Frame.Methods a0.Frame.Now) (Ks (Zp a0.Frame.Methods a0.Frame.Now) a2) 1 a3 0 0 0) (sg (ZT.XD (ZF.Yx u0)))) ?_;refine dIs mixed ?_;refine cDs [true,false,false] (Il a2 (sg u1)) ?_;refine cRf i1 (YN.rd (MC (xB a0.Frame.Zz (Zs.mk a1 (nth a0.Zd (JE a0 a1).toNat).Zk (Zp a0.Frame.Methods a0.Frame.Now) (Ks (Zp a0.Frame.Methods a0.Frame.Now) a2) 1 a3 0 0 0)).1)) ?_;refine cRs (YN.rd (Et (nth a0.Zd (JE a0 a1).toNat))) ?_;refine eIs ?_;exact rtO [.cell 10 61,.tmp 11] f
theorem CQ(a0 a1:List Int):Sa 213 [rL 1 iR a0,rL 1 iR a1] [rB (Nq a0 a1)]:=by
 have f:=me (Nq.eq_1 a0 a1);refine so func213 ntmps213 ?_;refine cF f ?_ ?_<;>intro k1 h1 f
 ·exact rt [.tmp 4] f
 refine lp1 (Ry.eq_2 a0 a1) (fun J=>YM 26 [eL 0 1 a0 iR,eL 1 1 a1 iR,eI 5 (J:Int)]) (fun n1 J=>a0.length<n1+J/\J<=a0.length) (a0.length+1) 0 (fun p1 J e1 j1=>?_);refine cF e1 ?_ ?_<;>intro k3 h2 e1
 ·have i1:=ix h2;have m2:=ml a0 (k3 0 _ rfl);have w1:=wr J;refine dIo mixed ?_;have i2:=ik J a1;simp[i1,ZB,i2];refine rpS ?_;refine cF e1 ?_ ?_<;>intro k5 h3 e1
  ·exact rt [.tmp 4] (ms f e1)
  exact ny1 w1 e1
 exact rt [.tmp 4] (ms f e1)
theorem Pt(a0 a1:ZV):Sa 145 [a0.row,a1.row] [rB (V7 a0 a1)]:=by have f:=me (V7.eq_1 a0 a1);refine so func145 ntmps145 ?_;refine cGs (fun gg=>CQ a0.YS a1.YS) ?_;exact rt [.tmp 4] f
theorem CX(a0:ZU)(a1:ZV):Sa 147 [a0.row,a1.row] [rI (Nr a0 a1)]:=by
 have f:=me (Nr.eq_1 a0 a1);refine so func147 ntmps147 ?_;refine lp1 (PG.eq_2 a0 a1) (fun J=>YM 21 [eX 2 (a0.row.map .d),eX 3 (a1.row.map .d),eI 5 (J:Int)]) (fun n1 J=>a0.ZM.length<n1+J/\J<=a0.ZM.length) (a0.ZM.length+1) 0 (fun p1 J e1 j1=>?_);refine cF e1 ?_ ?_<;>intro k2 h1 e1
 ·have i1:=ix h1;have m2:=ml a0.ZM (k2 8 _ rfl);have w1:=wr J;refine dIo mixed ?_;simp[i1,ZB];refine rpS ?_;refine cRs (Pt (nth a0.ZM J) a1) ?_;refine cF e1 ?_ ?_<;>intro k4 h2 e1
  ·exact rt [.tmp 4] (ms f e1)
  exact ny1 w1 e1
 exact rt [.tmp 4] (ms f e1)
theorem PA(a0:ZU):Sa 88 [a0.row] [rB (kh a0)]:=by
 have f:=me (kh.eq_1 a0);refine so func88 ntmps88 ?_;refine lp1 (VD.eq_2 a0) (fun J=>YM 69 [eX 1 (a0.row.map .d),eI 3 (J:Int)]) (fun n1 J=>a0.ZM.length<n1+J/\J<=a0.ZM.length) (a0.ZM.length+1) 0 (fun p1 J e1 j1=>?_);refine cF e1 ?_ ?_<;>intro k2 h1 e1
 ·have i1:=ix h1;have m2:=ml a0.ZM (k2 7 _ rfl);have w1:=wr J;refine dIo mixed ?_;simp[i1,ZB];refine rpS ?_;refine cRs (CX a0 (nth a0.ZM J)) ?_;refine cF e1 ?_ ?_<;>intro k4 h2 e1
  ·exact rt [.tmp 2] (ms f e1)
  exact ny1 w1 e1
 have f:=ms f e1;refine lp1 (Wv.eq_2 a0) (fun ia=>YM 69 [eX 1 (a0.row.map .d),eI 4 (ia:Int)]) (fun n2 ia=>a0.ZR.length<n2+ia/\ia<=a0.ZR.length) (a0.ZR.length+1) 0 (fun p2 ia e2 j2=>?_);refine cF e2 ?_ ?_<;>intro k6 h3 e2
 ·have i2:=ix h3;have m4:=ml a0.ZR (k6 23 _ rfl);have w2:=wr ia;refine dIo mixed ?_;simp[i2,ZB];refine rpS ?_;refine cRs (Y8 (nth a0.ZR ia).Count 1 (a0.ZM.length:Int)) ?_;refine gIf ?_ ?_<;>intro G
  ·have i3:=ik (ia-1) a0.ZR;have w3:IntKind.i64.wrap ((ia:Int)-1)=(ia:Int)-1:=YQ zAC zAC;simp[i3,ZB,w3,G];refine rpG ?_;refine gK (fun _=>?_);simp[i2,ZB,G];refine rpG ?_;refine cKo e2 ?_ ?_<;>intro k8 h4 e2
   ·have q4:=h4;try simp[Ye]at q4
    have f:=ms f e2;simp;refine rpG ?_;exact rtg [.tmp 2] f
   ·have q4:=h4;try simp[Ye]at q4
    simp;refine rpG ?_;exact ny1 (an w2 (an w3 G)) e2
  ·refine sGg ?_;refine cKo e2 ?_ ?_<;>intro k9 h5 e2
   ·have q5:=h5;try simp[Ye]at q5
    have f:=ms f e2;simp;refine rpG ?_;exact rtg [.tmp 2] f
   ·have q5:=h5;try simp[Ye]at q5
    simp;refine rpG ?_;exact ny1 (an w2 G) e2
 have f:=ms f e2;refine cRs (Y8 (a0.ZM.length:Int) 1 12) ?_;exact rt [.tmp 2] f
theorem G4(a0:ZO):Sa 86 [a0.row] [rB (Ir a0)]:=by
 have f:=me (Ir.eq_1 a0);refine so func86 ntmps86 ?_;refine dIs mixed ?_;refine cRs (Y8 a0.Id 1 999) ?_;refine cGs (fun gg=>UJ a0.XL) ?_;refine cGs (fun gg=>UX a0.Doc) ?_;refine cGs (fun gg=>PA a0.ZN) ?_;refine gIf ?_ ?_<;>intro G
 ·have g1:=G;try simp[Ye]at g1
  have i1:0<a0.ZN.ZM.length:=by have:=CV (a:=a0.ZN);simp_all
  simp[i1,ZB,G];refine rpG ?_;refine cGg (fun gg=>YN.rd (MC a0.Sig)) ?_;refine cGg (fun gg=>Pt (nth a0.ZN.ZM 0) (kq a0.Sig)) ?_;exact rtg [.tmp 2] f
 ·refine sGo ?_;simp;refine rpG ?_;refine sGo ?_;simp;refine rpG ?_;exact rtg [.tmp 2] f
theorem qA(a0:ZD):Sa 47 [a0.row] [rB (JG a0)]:=by
 have f:=me (JG.eq_1 a0);refine so func47 ntmps47 ?_;refine lp1 (R3.eq_2 a0) (fun J=>YM 47 [eX 1 (a0.row.map .d),eI 3 (J:Int)]) (fun n1 J=>a0.ZE.length<n1+J/\J<=a0.ZE.length) (a0.ZE.length+1) 0 (fun p1 J e1 j1=>?_);refine cF e1 ?_ ?_<;>intro k2 h1 e1
 ·have i1:=ix h1;have m2:=ml a0.ZE (k2 6 _ rfl);have w1:=wr J;refine dIo mixed ?_;simp[i1,ZB];refine rpS ?_;refine cRs (G4 (nth a0.ZE J)) ?_;refine gIf ?_ ?_<;>intro G
  ·have i2:=ik (J-1) a0.ZE;have w2:IntKind.i64.wrap ((J:Int)-1)=(J:Int)-1:=YQ zAC zAC;simp[i2,ZB,w2,G];refine rpG ?_;refine gK (fun _=>?_);simp[i1,ZB,G];refine rpG ?_;refine cK e1 ?_ ?_<;>intro k4 h2 e1
   ·exact rtg [.tmp 2] (ms f e1)
   ·exact ny1 (an w1 (an w2 G)) e1
  ·refine sGg ?_;refine cK e1 ?_ ?_<;>intro k5 h3 e1
   ·exact rtg [.tmp 2] (ms f e1)
   ·exact ny1 (an w1 G) e1
 have f:=ms f e1;refine cRs (Y8 a0.Id 0 99) ?_;exact rt [.tmp 2] f
theorem j8(a0:ZD)(a1:Int):Sa 200 [a0.row,rI a1] [rI (Y1 a0 a1)]:=by
 have f:=me (Y1.eq_1 a0 a1);refine so func200 ntmps200 ?_;refine lp1 (U8.eq_2 a0 a1) (fun J=>YM 22 [eI 1 a1,eX 2 (a0.row.map .d),eI 5 (J:Int)]) (fun n1 J=>a0.ZE.length<n1+J/\J<=a0.ZE.length) (a0.ZE.length+1) 0 (fun p1 J e1 j1=>?_);refine cFf e1 ?_ ?_<;>intro k2 h1 e1
 ·have i1:=ix h1;have m2:=ml a0.ZE (k2 8 _ rfl);have w1:=wr J;simp[i1,ZB];refine rpS ?_;refine cF e1 ?_ ?_<;>intro k3 h2 e1
  ·exact rt [.tmp 4] (ms f e1)
  exact ny1 w1 e1
 exact rt [.tmp 4] (ms f e1)
theorem OE(a0:ZD)(a1:ZO)(u0:Sm 2318336 a0)(u1:Sm 2318336 a1):Sd 119 [a0.row,a1.row] [(Qj a0 a1).1.row,rB (Qj a0 a1).2]:=by
 have f:=me (Qj.eq_1 a0 a1);refine soD func119 ntmps119 ?_;refine cRs (qA a0) ?_;refine cGs (fun gg=>j8 a0 a1.Id) ?_;refine cF f ?_ ?_<;>intro k1 h1 f
 ·refine cDs [] (QA a0 (sg u0)) ?_;exact rtD [.cell 4 44,.tmp 5] f
 refine lp3 (zh.eq_2 a0 a1) (fun J U ib=>YM 77 [eX 2 (a0.row.map .d),eX 3 (a1.row.map .d),(4,.one (.bptr 4 0),[.box [.d (.int .i64 0),.nil 16]]),(6,.one (.bptr 6 0),[.box [.d (.int .i64 a0.Id),.sref 6 2 0 ib.length],.none,.arr true 16 (ib.map ZO.row)]),eB 7 J,eI 8 (U:Int)]) (fun n1 J U ib=>a0.ZE.length<n1+U/\U<=a0.ZE.length/\ib.length<=0+2*U) (a0.ZE.length+1) false 0 ([]:List ZO) (fun p1 J U ib e1 j1=>?_) (h0:=wkS [((6,2),none)] []);refine cF e1 ?_ ?_<;>intro k3 h2 e1
 ·have i1:=ix h2;have m2:=ml a0.ZE (k3 26 _ rfl);have c1:=sl 2318336 a0.ZE (an u0 u1);have w1:=wr U;refine dIs mixed ?_;refine gIf ?_ ?_<;>intro G
  ·simp[i1,ZB,G];refine rpG ?_;refine cK e1 ?_ ?_<;>intro k5 h3 e1
   ·try(simp[G]at h3;done)
    all_goals
     refine drJ [49] mixed ?_;simp;refine cDg [true,true,true,false,false] (Qm a1 (sg u1)) ?_;refine qv ?_;simp[G];refine rpG ?_;refine W9 (im:=ib.map ZO.row) (news:=([a1]:List ZO).map ZO.row) (l1:=[(6,2)]) (l2:=[(47,3),(47,4),(47,14),(47,15)]) (size:=16) ?_;simp[G];refine rpG ?_;refine drJ [60] mixed ?_;simp[i1,ZB,G];refine rpG ?_;refine cDg [true,true,true,false,false] (Qm (nth a0.ZE U) (sg (Zi (ZD.YD u0)))) ?_;refine qv ?_;simp[G];refine rpG ?_;refine W9 (im:=(ib++([a1]:List ZO)).map ZO.row) (news:=([nth a0.ZE U]:List ZO).map ZO.row) (l1:=[(49,0)]) (l2:=[(58,3),(58,4),(58,14),(58,15)]) (size:=16) ?_;simp[G];refine rpG ?_;exact nx3 e1 (hw:=Yk [((6,2),some (60,0))] [] rfl zCK)
   ·try(simp[G]at h3;done)
    all_goals
     refine drJ [60] mixed ?_;simp[i1,ZB,G];refine rpG ?_;refine cDg [true,true,true,false,false] (Qm (nth a0.ZE U) (sg (Zi (ZD.YD u0)))) ?_;refine qv ?_;simp[G];refine rpG ?_;refine W9 (im:=ib.map ZO.row) (news:=([nth a0.ZE U]:List ZO).map ZO.row) (l1:=[(6,2)]) (l2:=[(58,3),(58,4),(58,14),(58,15)]) (size:=16) ?_;simp[G];refine rpG ?_;exact nx3 e1 (hw:=Yk [((6,2),some (60,0))] [] rfl zCK)
  ·refine cK e1 ?_ ?_<;>intro k9 h4 e1
   ·try(simp[G]at h4;done)
    all_goals
     refine drJ [49] mixed ?_;simp;refine cDg [true,true,true,false,false] (Qm a1 (sg u1)) ?_;refine qv ?_;simp[G];refine rpG ?_;refine W9 (im:=ib.map ZO.row) (news:=([a1]:List ZO).map ZO.row) (l1:=[(6,2)]) (l2:=[(47,3),(47,4),(47,14),(47,15)]) (size:=16) ?_;simp[G];refine rpG ?_;refine drJ [60] mixed ?_;simp[i1,ZB,G];refine rpG ?_;refine cDg [true,true,true,false,false] (Qm (nth a0.ZE U) (sg (Zi (ZD.YD u0)))) ?_;refine qv ?_;simp[G];refine rpG ?_;refine W9 (im:=(ib++([a1]:List ZO)).map ZO.row) (news:=([nth a0.ZE U]:List ZO).map ZO.row) (l1:=[(49,0)]) (l2:=[(58,3),(58,4),(58,14),(58,15)]) (size:=16) ?_;simp[G];refine rpG ?_;exact nx3 e1 (hw:=Yk [((6,2),some (60,0))] [] rfl zCK)
   ·try(simp[G]at h4;done)
    all_goals
     refine drJ [60] mixed ?_;simp[i1,ZB,G];refine rpG ?_;refine cDg [true,true,true,false,false] (Qm (nth a0.ZE U) (sg (Zi (ZD.YD u0)))) ?_;refine qv ?_;simp[G];refine rpG ?_;refine W9 (im:=ib.map ZO.row) (news:=([nth a0.ZE U]:List ZO).map ZO.row) (l1:=[(6,2)]) (l2:=[(58,3),(58,4),(58,14),(58,15)]) (size:=16) ?_;simp[G];refine rpG ?_;exact nx3 e1 (hw:=Yk [((6,2),some (60,0))] [] rfl zCK)
 have c2:=sl 2318336 a0.ZE (an u0 u1);have f:=ms f e1;refine cF f ?_ ?_<;>intro aL h5 f
 ·refine okD fun k14=>?_;refine drJ [69] mixed ?_;simp;refine cDs [true,true,true,false,false] (Qm a1 (sg u1)) ?_;refine qv ?_;simp;refine W9 (im:=ib.map ZO.row) (news:=([a1]:List ZO).map ZO.row) (l1:=[(6,2)]) (l2:=[(67,3),(67,4),(67,14),(67,15)]) (size:=16) ?_;simp;refine cRs (qA (ZD.mk a0.Id (ib++([a1]:List ZO)))) ?_;refine cF f ?_ ?_<;>intro k15 h6 f
  ·refine cDs [] (QA a0 (sg u0)) ?_;exact rtD [.cell 4 44,.tmp 5] f
  exact rtD [.cell 4 44,.tmp 5] f
 refine cRs (qA (ZD.mk a0.Id ib)) ?_;refine cF f ?_ ?_<;>intro k16 h7 f
 ·refine cDs [] (QA a0 (sg u0)) ?_;exact rtD [.cell 4 44,.tmp 5] f
 exact rtD [.cell 4 44,.tmp 5] f
theorem BR(a0:ZF)(a1 a2:Int)(a3:ZL)(a4 a5:Int)(u0:Sm 2314240 a0)(u1:Sm 2314240 a3):Sd 150 [a0.row,rI a1,rI a2,a3.row,rI a4,rI a5] [(VW a0 a1 a2 a3 a4 a5).1.row,rB (VW a0 a1 a2 a3 a4 a5).2]:=by
 have f:=me (VW.eq_1 a0 a1 a2 a3 a4 a5);refine soD func150 ntmps150 ?_;refine cDs [false,false,false,true,true,false,false,true,false,false,true,false] (QT a0 (sg u0)) ?_;refine cRs (Jq a0.Frame.Zz a2) ?_;refine dIs mixed ?_;refine cRs (WJ a0 a1) ?_;refine gIf ?_ ?_<;>intro G
 ·have c1:=sl 2314240 a0.ZA (an u0 u1);have w1:IntKind.i64.wrap ((a0.ZA.length:Int)-1)=(a0.ZA.length:Int)-1:=YQ zAC zAC;have g1:=G;try simp[w1,Q7,Ye]at g1
  have i1:(Yt a0.Frame.Zz a2).toNat<a0.Frame.Zz.length:=by have:=Jw a0.Frame.Zz a2;exact il
  simp[i1,ZB,G];refine rpG ?_;refine cKo f ?_ ?_<;>intro k2 h1 f
  ·have q1:=h1;try simp[w1,Q7,Ye]at q1
   simp[G];refine rpG ?_;exact yA [.cell 12 33,.tmp 13] f
  ·have q1:=h1;try simp[w1,Q7,Ye]at q1
   simp[G];refine rpG ?_;refine cRg (HZ a0 a2 a3 a4 a5 (sg u0) (sg u1)) ?_;refine cK f ?_ ?_<;>intro k3 h2 f
   ·exact yA [.cell 12 33,.tmp 13] f
   ·refine dIo mixed ?_;have i2:=ik a1.toNat a0.ZA
    simp[i2,ZB,G];refine rpG ?_;refine cDg [] (OE (nth a0.ZA a1.toNat) (QZ a0 a2 a3 a4 a5).1 zAm zAm) ?_;refine cKt f ?_ ?_<;>intro k5 h3 f
    ·exact yA [.cell 12 33,.tmp 13] f
    ·simp[i2,ZB,G];refine rpG ?_;refine IV (t:=21) (j:=7) (i:=a1.toNat) (size:=2) (rows:=a0.ZA.map ZD.row) (ds:=(Qj (nth a0.ZA a1.toNat) (QZ a0 a2 a3 a4 a5).1).1.row) (L:=[(68,1)]) ?_;simp[Ki (x:=(Qj (nth a0.ZA a1.toNat) (QZ a0 a2 a3 a4 a5).1).1) rfl,c1,i2,ZB,XH,G];refine rpG ?_;exact yA [.cell 12 33,.tmp 13] f
 ·have c2:=sl 2314240 a0.ZA (an u0 u1);have w2:IntKind.i64.wrap ((a0.ZA.length:Int)-1)=(a0.ZA.length:Int)-1:=YQ zAC zAC;refine cKo f ?_ ?_<;>intro k6 h4 f
  ·have q4:=h4;try simp[w2,Q7,Ye]at q4
   simp[G];refine rpG ?_;exact yA [.cell 12 33,.tmp 13] f
  ·simp[G]at h4
theorem Np(a0:ZF)(a1:Int):Sa 217 [a0.row,rI a1] [rI (ZH a0 a1).1,rI (ZH a0 a1).2]:=by
 have f:=me (ZH.eq_1 a0 a1);refine so func217 ntmps217 ?_;refine lp1 (SE.eq_2 a0 a1) (fun J=>YM 26 [eI 1 a1,eX 2 (a0.row.map .d),eI 6 (J:Int)]) (fun n1 J=>a0.ZA.length<n1+J/\J<=a0.ZA.length) (a0.ZA.length+1) 0 (fun p1 J e1 j1=>?_);refine cFf e1 ?_ ?_<;>intro k2 h1 e1
 ·have i1:=ix h1;have m2:=ml a0.ZA (k2 10 _ rfl);have w1:=wr J;simp[i1,ZB];refine rpS ?_;refine cRs (j8 (nth a0.ZA J) a1) ?_;refine cF e1 ?_ ?_<;>intro k3 h2 e1
  ·exact rt _ (ms f e1)
  exact ny1 w1 e1
 exact rt _ (ms f e1)
theorem GQ(a0:ZV):Sa 269 [a0.row] [rI (JJ a0)]:=by
 have f:=me (JJ.eq_1 a0);refine so func269 ntmps269 ?_;refine gIf ?_ ?_<;>intro G
 ·have i1:=ik 0 a0.YS;simp[i1,ZB,G];refine rpG ?_;refine cGg (fun gg=>Y8 (nth a0.YS 0) 101 105) ?_;refine cKo f ?_ ?_<;>intro k1 h1 f
  ·have q1:=h1;try simp[Ye]at q1
   simp;refine rpG ?_;exact rtg [.tmp 2] f
  ·have q1:=h1;try simp[Ye]at q1
   simp;refine rpG ?_;refine dIo mixed ?_;have i2:=ik (W (nth a0.YS 0-101)).toNat ([7,5,5,9,6]:List Int)
   have r1:=ZB (f:=iR) i2;try simp at r1
   simp[i1,ZB,r1];refine rpG ?_;refine cKt f ?_ ?_<;>intro k3 h2 f
   ·exact rtg [.tmp 2] f
   ·simp[i1,ZB];refine rpG ?_;exact rtg [.tmp 2] f
 ·refine sGo ?_;simp;refine rpG ?_;refine cKo f ?_ ?_<;>intro k4 h3 f
  ·have q3:=h3;try simp[Ye]at q3
   simp;refine rpG ?_;exact rtg [.tmp 2] f
  ·simp[G]at h3
theorem MU(a0:ZV):Sa 218 [a0.row] [(Zl a0).1.row,rB (Zl a0).2]:=by
 have f:=me (Zl.eq_1 a0);refine so func218 ntmps218 ?_;refine dIs mixed ?_;refine cRs (GQ a0) ?_;refine gIf ?_ ?_<;>intro G
 ·have fk:=G;have g1:=G;try simp at g1
  have i1:6<a0.YS.length:=zA1;simp[i1,ZB,G];refine rpG ?_;refine cK f ?_ ?_<;>intro k2 h1 f
  ·try(simp[G]at h1;done)
   all_goals
    exact rtg [.cell 2 72,.tmp 3] f
  ·try(simp[G]at h1;done)
   all_goals
    refine dIo mixed ?_;have i2:1<a0.YS.length:=zA1
    have i3:2<a0.YS.length:=zA1;have i4:3<a0.YS.length:=zA1;have i5:4<a0.YS.length:=zA1;have i6:5<a0.YS.length:=zA1;simp[i2,ZB,i3,i4,i5,i6,i1,G];refine rpG ?_;exact rtg [.cell 2 72,.tmp 3] f
 ·have fk:=G;refine cK f ?_ ?_<;>intro k4 h2 f
  ·try(simp[G]at h2;done)
   all_goals
    exact rtg [.cell 2 72,.tmp 3] f
  ·try(simp[G]at h2;done)
   all_goals
    refine dIo mixed ?_;have i8:1<a0.YS.length:=zA1
    have i9:2<a0.YS.length:=zA1;have i10:3<a0.YS.length:=zA1;have i11:4<a0.YS.length:=zA1;have i12:5<a0.YS.length:=zA1;have i13:6<a0.YS.length:=zA1;simp[i8,ZB,i9,i10,i11,i12,i13,G];refine rpG ?_;exact rtg [.cell 2 72,.tmp 3] f
theorem M9(a0:List YL)(a1:Int):Sa 219 [rL 7 YL.row a0,rI a1] [rI (YI a0 a1)]:=by
 have f:=me (YI.eq_1 a0 a1);refine so func219 ntmps219 ?_;refine lp1 (U5.eq_2 a0 a1) (fun J=>YM 20 [eL 0 7 a0 YL.row,eI 1 a1,eI 5 (J:Int)]) (fun n1 J=>a0.length<n1+J/\J<=a0.length) (a0.length+1) 0 (fun p1 J e1 j1=>?_);refine cFf e1 ?_ ?_<;>intro k2 h1 e1
 ·have i1:=ix h1;have m2:=ml a0 (k2 0 _ rfl);have w1:=wr J;simp[i1,ZB];refine rpS ?_;refine cF e1 ?_ ?_<;>intro k3 h2 e1
  ·exact rt [.tmp 4] (ms f e1)
  exact ny1 w1 e1
 exact rt [.tmp 4] (ms f e1)
theorem Bd(a0:Zx):Sa 270 [a0.row] [rB (IH a0)]:=by have f:=me (IH.eq_1 a0);refine so func270 ntmps270 ?_;refine cRs (Y8 a0.Zk 1 999) ?_;refine cGs (fun gg=>UJ a0.Mz) ?_;refine cGs (fun gg=>Y8 a0.YW (-1) (W (a0.Mz+1))) ?_;refine cGs (fun gg=>Y8 a0.YG 1 99) ?_;exact rt [.tmp 2] f
theorem On(a0:Zx):Sd 271 [a0.row] [rL 1 iR (zj a0)]:=by have f:=me (zj.eq_1 a0);refine soD func271 ntmps271 ?_;exact rtD [.tmp 2] f
theorem UY(a0:List Yg)(a1:Zx)(u0:Sm 2322432 a0):Sa 220 [rL 5 Yg.row a0,a1.row] [(Y3 a0 a1).1.row,rB (Y3 a0 a1).2]:=by
 have f:=me (Y3.eq_1 a0 a1);refine so func220 ntmps220 ?_;refine cRs (Jq a0 a1.YG) ?_;refine cRs (Bd a1) ?_;refine cF f ?_ ?_<;>intro k1 h1 f
 ·exact rt [.cell 4 245,.tmp 5] f
 refine dIo mixed ?_;have i1:(Yt a0 a1.YG).toNat<a0.length:=by have:=Jw a0 a1.YG;exact il
 simp[i1,ZB];refine rpS ?_;refine cRs (YN.rd (On a1)) ?_;refine cRs (V0 (nth a0 (Yt a0 a1.YG).toNat) (zj a1) (by simp(maxDischargeDepth:=12) [Oz,ZK (m:=2326528) zAF u0];try omega)) ?_;exact rt [.cell 4 245,.tmp 5] f
theorem VL(a0:Zx):Sd 222 [a0.row] [(XF a0).row]:=by have f:=me (XF.eq_1 a0);refine soD func222 ntmps222 ?_;refine dIs mixed ?_;refine cDs [false] (On a0) ?_;exact rtD [.cell 2 98] f
theorem BM(a0:ZU)(a1:ZV)(u0:Sm 2326528 a0)(u1:Sm 2326528 a1):Sd 272 [a0.row,a1.row] [(yy a0 a1).1.row,rB (yy a0 a1).2]:=by
 have f:=me (yy.eq_1 a0 a1);refine soD func272 ntmps272 ?_;refine cDs [] (xg a0 (sg u0)) ?_;refine drJ [14] mixed ?_;simp;refine cDs [true,false] (LD a1 (sg u1)) ?_;refine qv ?_;have c1:=sl 2326528 a0.ZM (an u0 u1);simp;refine W9 (im:=a0.ZM.map ZV.row) (news:=([a1]:List ZV).map ZV.row) (l1:=[(8,0)]) (l2:=[(12,1)]) (size:=3) ?_;simp;refine cRs (PA (ZU.mk (a0.ZM++([a1]:List ZV)) a0.ZR)) ?_;refine cF f ?_ ?_<;>intro k2 h1 f
 ·refine cDs [] (xg a0 (sg u0)) ?_;exact rtD [.cell 4 59,.tmp 5] f
 exact rtD [.cell 4 59,.tmp 5] f
theorem Tt(a0:ZD)(a1:Int)(a2:ZV)(u0:Sm 2322432 a0)(u1:Sm 2322432 a2):Sd 221 [a0.row,rI a1,a2.row] [(Xr a0 a1 a2).1.row,rB (Xr a0 a1 a2).2]:=by
 have f:=me (Xr.eq_1 a0 a1 a2);refine soD func221 ntmps221 ?_;refine cDs [] (QA a0 (sg u0)) ?_;refine cRs (j8 a0 a1) ?_;refine cF f ?_ ?_<;>intro k1 h1 f
 ·exact rtD [.cell 6 44,.tmp 7] f
 refine dIo mixed ?_;have i1:(Y1 a0 a1).toNat<a0.ZE.length:=by have:=PB a0 a1;exact il
 simp[i1,ZB];refine rpS ?_;refine cDf i1 [] (BM (nth a0.ZE (Y1 a0 a1).toNat).ZN a2 (sg (ZO.Yz (Zi (ZD.YD u0)))) (sg u1)) ?_;refine oT (t:=13) (j:=1) (i:=(Y1 a0 a1).toNat) (c:=14) (size:=16) (rows:=a0.ZE.map ZO.row) (ds:=(yy (nth a0.ZE (Y1 a0 a1).toNat).ZN a2).1.row) (L:=[(28,0),(28,1)]) rfl rfl rfl rfl zAE zAE (by simp;try omega) zAE zAE zAE zAE zAE zAE ?_;simp[Ki (x:=ZO.mk (nth a0.ZE (Y1 a0 a1).toNat).Id (nth a0.ZE (Y1 a0 a1).toNat).XL (nth a0.ZE (Y1 a0 a1).toNat).Doc (nth a0.ZE (Y1 a0 a1).toNat).Sig (yy (nth a0.ZE (Y1 a0 a1).toNat).ZN a2).1) rfl,i1,ZB,XH];refine rpS ?_;exact rtD [.cell 6 44,.tmp 7] f
theorem Z2(h:b)(k:a:=by(intros;first|omega|with_unfolding_all (first|first|omega|(have fi:=XO a0 a1 zAX;omega)|(simp only[Bool.or_eq_false_iff,decide_eq_false_iff_not]at*;omega)|(have z:=Zf G;(try simp only[]at z);omega)|(have z:=Zf G.1;(try simp only[]at z);omega)|(have z:=Zf G.2;(try simp only[]at z);omega)|(have z:=Zf G.2.1;(try simp only[]at z);omega)|(have z:=Zf G.2.2;(try simp only[]at z);omega)|(have z:=Zf G.1.2;(try simp only[]at z);omega)|(have z:=Zf G.2.2.2;(try simp only[]at z);omega))|(simp_all;done)|(simp_all;omega)|grind|((try simp only[Yd,show ∀x,IntKind.i64.wrap x=W x from fun _=>rfl]at*);omega))):a/\b:=⟨k,h⟩
theorem Fy(a0:ZF)(a1:Int)(u0:Sm 2318336 a0):Sd 151 [a0.row,rI a1] [(jC a0 a1).1.row,rB (jC a0 a1).2]:=by
 have f:=me (jC.eq_1 a0 a1);refine soD func151 ntmps151 ?_;refine cDs [false,false,false,true,true,false,false,true,false,false,true,false] (QT a0 (sg u0)) ?_;refine cRs (Np a0 a1) ?_;refine gIo ?_ ?_<;>intro G
 ·have fk:=G;have g1:=G;try simp at g1
  have i1:(ZH a0 a1).1.toNat<a0.ZA.length:=zAL;simp[i1,ZB,G];refine zCi ?_;refine gK (fun _=>?_);have i2:(ZH a0 a1).2.toNat<(nth a0.ZA (ZH a0 a1).1.toNat).ZE.length:=zAL;simp[i2,ZB,G];refine zCi ?_;refine cKo f ?_ ?_<;>intro k1 h1 f
  ·simp[G];refine zCi ?_;exact yA [.cell 4 33,.tmp 5] f
  ·have i3:1<(nth (nth a0.ZA (ZH a0 a1).1.toNat).ZE (ZH a0 a1).2.toNat).ZN.ZM.length:=zAL;simp[i1,ZB,i2,i3,G];refine zCi ?_;refine cR (MU (nth (nth (nth a0.ZA (ZH a0 a1).1.toNat).ZE (ZH a0 a1).2.toNat).ZN.ZM 1)) ?_;simp[G];refine zCi ?_;refine cR (M9 a0.Zd (Zl (nth (nth (nth a0.ZA (ZH a0 a1).1.toNat).ZE (ZH a0 a1).2.toNat).ZN.ZM 1)).1.Zk) ?_;simp[G];refine zCi ?_;refine cKo f ?_ ?_<;>intro k2 h2 f
   ·simp[G];refine zCi ?_;exact yA [.cell 4 33,.tmp 5] f
   ·simp[G];refine zCi ?_;refine dIo mixed ?_;have i4:(YI a0.Zd (Zl (nth (nth (nth a0.ZA (ZH a0 a1).1.toNat).ZE (ZH a0 a1).2.toNat).ZN.ZM 1)).1.Zk).toNat<a0.Zd.length:=zAR
    simp[i4,ZB,G];refine zCi ?_;refine cR (Jq a0.Frame.Zz (nth a0.Zd (YI a0.Zd (Zl (nth (nth (nth a0.ZA (ZH a0 a1).1.toNat).ZE (ZH a0 a1).2.toNat).ZN.ZM 1)).1.Zk).toNat).YG) ?_;simp[G];refine zCi ?_;refine dIo mixed ?_;simp[i4,ZB,G];refine zCi ?_;refine dIo mixed ?_;have i5:(YI a0.Zd (Zl (nth (nth (nth a0.ZA (ZH a0 a1).1.toNat).ZE (ZH a0 a1).2.toNat).ZN.ZM 1)).1.Zk).toNat<a0.YW.length:=zAR
    simp[i5,ZB,G];refine zCi ?_;refine cKo f ?_ ?_<;>intro k6 h3 f
    ·simp[i5,ZB,G];refine zCi ?_;refine cR (UY a0.Frame.Zz (Zx.mk (Zl (nth (nth (nth a0.ZA (ZH a0 a1).1.toNat).ZE (ZH a0 a1).2.toNat).ZN.ZM 1)).1.Zk a0.Frame.Now (nth a0.YW (YI a0.Zd (Zl (nth (nth (nth a0.ZA (ZH a0 a1).1.toNat).ZE (ZH a0 a1).2.toNat).ZN.ZM 1)).1.Zk).toNat) (nth a0.Zd (YI a0.Zd (Zl (nth (nth (nth a0.ZA (ZH a0 a1).1.toNat).ZE (ZH a0 a1).2.toNat).ZN.ZM 1)).1.Zk).toNat).YG 0) (sg (ZT.XD (ZF.Yx u0)))) ?_;simp[G];refine zCi ?_;refine dIo mixed ?_;simp[G];refine zCi ?_;refine gJo G ?_ ?_<;>intro G
     ·have g2x:=G.2;try(simp at G;done)
      all_goals
       have g2:=G.2;try simp at g2
       all_goals
        have i6:(Yt a0.Frame.Zz (nth a0.Zd (YI a0.Zd (Zl (nth (nth (nth a0.ZA (ZH a0 a1).1.toNat).ZE (ZH a0 a1).2.toNat).ZN.ZM 1)).1.Zk).toNat).YG).toNat<a0.Frame.Zz.length:=zAO;simp[i6,ZB,G];refine zCi ?_;refine cKo f ?_ ?_<;>intro k8 h4 f
        ·simp[G];refine zCi ?_;exact yA [.cell 4 33,.tmp 5] f
        ·simp[G];refine zCi ?_;refine dIo mixed ?_;simp[i1,ZB,G];refine zCi ?_;refine cR (YN.rd (VL (Y3 a0.Frame.Zz (Zx.mk (Zl (nth (nth (nth a0.ZA (ZH a0 a1).1.toNat).ZE (ZH a0 a1).2.toNat).ZN.ZM 1)).1.Zk a0.Frame.Now (nth a0.YW (YI a0.Zd (Zl (nth (nth (nth a0.ZA (ZH a0 a1).1.toNat).ZE (ZH a0 a1).2.toNat).ZN.ZM 1)).1.Zk).toNat) (nth a0.Zd (YI a0.Zd (Zl (nth (nth (nth a0.ZA (ZH a0 a1).1.toNat).ZE (ZH a0 a1).2.toNat).ZN.ZM 1)).1.Zk).toNat).YG 0)).1)) ?_;simp[G];refine zCi ?_;refine cD [] (Tt (nth a0.ZA (ZH a0 a1).1.toNat) a1 (XF (Y3 a0.Frame.Zz (Zx.mk (Zl (nth (nth (nth a0.ZA (ZH a0 a1).1.toNat).ZE (ZH a0 a1).2.toNat).ZN.ZM 1)).1.Zk a0.Frame.Now (nth a0.YW (YI a0.Zd (Zl (nth (nth (nth a0.ZA (ZH a0 a1).1.toNat).ZE (ZH a0 a1).2.toNat).ZN.ZM 1)).1.Zk).toNat) (nth a0.Zd (YI a0.Zd (Zl (nth (nth (nth a0.ZA (ZH a0 a1).1.toNat).ZE (ZH a0 a1).2.toNat).ZN.ZM 1)).1.Zk).toNat).YG 0)).1) (sg (Zi (ZF.Z6 u0))) zBR) ?_;simp[i1,ZB,G];refine zCi ?_;refine IV (t:=18) (j:=7) (i:=(ZH a0 a1).1.toNat) (size:=2) (rows:=a0.ZA.map ZD.row) (ds:=(Xr (nth a0.ZA (ZH a0 a1).1.toNat) a1 (XF (Y3 a0.Frame.Zz (Zx.mk (Zl (nth (nth (nth a0.ZA (ZH a0 a1).1.toNat).ZE (ZH a0 a1).2.toNat).ZN.ZM 1)).1.Zk a0.Frame.Now (nth a0.YW (YI a0.Zd (Zl (nth (nth (nth a0.ZA (ZH a0 a1).1.toNat).ZE (ZH a0 a1).2.toNat).ZN.ZM 1)).1.Zk).toNat) (nth a0.Zd (YI a0.Zd (Zl (nth (nth (nth a0.ZA (ZH a0 a1).1.toNat).ZE (ZH a0 a1).2.toNat).ZN.ZM 1)).1.Zk).toNat).YG 0)).1)).1.row) (L:=[(150,1)]) ?_;simp[Ki (x:=(Xr (nth a0.ZA (ZH a0 a1).1.toNat) a1 (XF (Y3 a0.Frame.Zz (Zx.mk (Zl (nth (nth (nth a0.ZA (ZH a0 a1).1.toNat).ZE (ZH a0 a1).2.toNat).ZN.ZM 1)).1.Zk a0.Frame.Now (nth a0.YW (YI a0.Zd (Zl (nth (nth (nth a0.ZA (ZH a0 a1).1.toNat).ZE (ZH a0 a1).2.toNat).ZN.ZM 1)).1.Zk).toNat) (nth a0.Zd (YI a0.Zd (Zl (nth (nth (nth a0.ZA (ZH a0 a1).1.toNat).ZE (ZH a0 a1).2.toNat).ZN.ZM 1)).1.Zk).toNat).YG 0)).1)).1) rfl,i1,ZB,XH,G];refine zCi ?_;exact yA [.cell 4 33,.tmp 5] f
     ·have g2x:=G.2;try(simp at G;done)
      all_goals
       simp[G];refine zCi ?_;refine cKo f ?_ ?_<;>intro cv h5 f
       ·simp[G];refine zCi ?_;exact yA [.cell 4 33,.tmp 5] f
       ·simp[G]at h5
    ·simp[G];refine zCi ?_;refine cR (UY a0.Frame.Zz (Zx.mk (Zl (nth (nth (nth a0.ZA (ZH a0 a1).1.toNat).ZE (ZH a0 a1).2.toNat).ZN.ZM 1)).1.Zk a0.Frame.Now (-1) (nth a0.Zd (YI a0.Zd (Zl (nth (nth (nth a0.ZA (ZH a0 a1).1.toNat).ZE (ZH a0 a1).2.toNat).ZN.ZM 1)).1.Zk).toNat).YG 0) (sg (ZT.XD (ZF.Yx u0)))) ?_;simp[G];refine zCi ?_;refine dIo mixed ?_;simp[G];refine zCi ?_;refine gJo G ?_ ?_<;>intro G
     ·have g3x:=G.2;try(simp at G;done)
      all_goals
       have g3:=G.2;try simp at g3
       all_goals
        have i8:(Yt a0.Frame.Zz (nth a0.Zd (YI a0.Zd (Zl (nth (nth (nth a0.ZA (ZH a0 a1).1.toNat).ZE (ZH a0 a1).2.toNat).ZN.ZM 1)).1.Zk).toNat).YG).toNat<a0.Frame.Zz.length:=zAO;simp[i8,ZB,G];refine zCi ?_;refine cKo f ?_ ?_<;>intro aL h6 f
        ·simp[G];refine zCi ?_;exact yA [.cell 4 33,.tmp 5] f
        ·simp[G];refine zCi ?_;refine dIo mixed ?_;simp[i1,ZB,G];refine zCi ?_;refine cR (YN.rd (VL (Y3 a0.Frame.Zz (Zx.mk (Zl (nth (nth (nth a0.ZA (ZH a0 a1).1.toNat).ZE (ZH a0 a1).2.toNat).ZN.ZM 1)).1.Zk a0.Frame.Now (-1) (nth a0.Zd (YI a0.Zd (Zl (nth (nth (nth a0.ZA (ZH a0 a1).1.toNat).ZE (ZH a0 a1).2.toNat).ZN.ZM 1)).1.Zk).toNat).YG 0)).1)) ?_;simp[G];refine zCi ?_;refine cD [] (Tt (nth a0.ZA (ZH a0 a1).1.toNat) a1 (XF (Y3 a0.Frame.Zz (Zx.mk (Zl (nth (nth (nth a0.ZA (ZH a0 a1).1.toNat).ZE (ZH a0 a1).2.toNat).ZN.ZM 1)).1.Zk a0.Frame.Now (-1) (nth a0.Zd (YI a0.Zd (Zl (nth (nth (nth a0.ZA (ZH a0 a1).1.toNat).ZE (ZH a0 a1).2.toNat).ZN.ZM 1)).1.Zk).toNat).YG 0)).1) (sg (Zi (ZF.Z6 u0))) zBR) ?_;simp[i1,ZB,G];refine zCi ?_;refine IV (t:=18) (j:=7) (i:=(ZH a0 a1).1.toNat) (size:=2) (rows:=a0.ZA.map ZD.row) (ds:=(Xr (nth a0.ZA (ZH a0 a1).1.toNat) a1 (XF (Y3 a0.Frame.Zz (Zx.mk (Zl (nth (nth (nth a0.ZA (ZH a0 a1).1.toNat).ZE (ZH a0 a1).2.toNat).ZN.ZM 1)).1.Zk a0.Frame.Now (-1) (nth a0.Zd (YI a0.Zd (Zl (nth (nth (nth a0.ZA (ZH a0 a1).1.toNat).ZE (ZH a0 a1).2.toNat).ZN.ZM 1)).1.Zk).toNat).YG 0)).1)).1.row) (L:=[(150,1)]) ?_;simp[Ki (x:=(Xr (nth a0.ZA (ZH a0 a1).1.toNat) a1 (XF (Y3 a0.Frame.Zz (Zx.mk (Zl (nth (nth (nth a0.ZA (ZH a0 a1).1.toNat).ZE (ZH a0 a1).2.toNat).ZN.ZM 1)).1.Zk a0.Frame.Now (-1) (nth a0.Zd (YI a0.Zd (Zl (nth (nth (nth a0.ZA (ZH a0 a1).1.toNat).ZE (ZH a0 a1).2.toNat).ZN.ZM 1)).1.Zk).toNat).YG 0)).1)).1) rfl,i1,ZB,XH,G];refine zCi ?_;exact yA [.cell 4 33,.tmp 5] f
     ·have g3x:=G.2;try(simp at G;done)
      all_goals
       simp[G];refine zCi ?_;refine cKo f ?_ ?_<;>intro k15 h7 f
       ·simp[G];refine zCi ?_;exact yA [.cell 4 33,.tmp 5] f
       ·simp[G]at h7
 ·have fk:=G;simp[G];refine zCi ?_;refine sGo ?_;simp[G];refine zCi ?_;refine cKo f ?_ ?_<;>intro k17 h8 f
  ·simp[G];refine zCi ?_;exact yA [.cell 4 33,.tmp 5] f
  ·simp[G]at h8
theorem Fj(a0:ZF)(a1:Int)(u0:Sm 2318336 a0):Sd 152 [a0.row,rI a1] [(qw a0 a1).1.row,rB (qw a0 a1).2]:=by
 have f:=me (qw.eq_1 a0 a1);refine soD func152 ntmps152 ?_;refine cDs [false,false,false,true,true,false,false,true,false,false,true,false] (QT a0 (sg u0)) ?_;refine cRs (Y8 a1 0 (W ((a0.YW.length:Int)-1))) ?_;refine gIf ?_ ?_<;>intro G
 ·have c1:=sl 2318336 a0.YW u0;have w1:IntKind.i64.wrap ((a0.YW.length:Int)-1)=(a0.YW.length:Int)-1:=YQ zAC zAC;have g1:=G;try simp[Ye,w1]at g1
  have i1:=ik a1.toNat a0.YW;simp[i1,ZB,G];refine rpG ?_;refine cKo f ?_ ?_<;>intro k1 h1 f
  ·have q1:=h1;try simp[Ye,w1]at q1
   simp;refine rpG ?_;exact yA _ f
  ·have q1:=h1;try simp[Ye,w1]at q1
   simp[i1,ZB];refine rpG ?_;refine EY (rv:=[.cell 4 33,.tmp 5]) rfl ?_;simp[f.h];all_goals(repeat' (first|exact De zAE zAE|refine And.intro ?_ ?_))
 ·have c2:=sl 2318336 a0.YW u0;refine cKo f ?_ ?_<;>intro k2 h2 f
  ·have q2:=h2;try simp[Ye,w2]at q2
   simp;refine rpG ?_;exact yA _ f
  ·simp[G]at h2
theorem y0(a0:List Za)(a1:Int):Sa 121 [rL 3 Za.row a0,rI a1] [rI (Zt a0 a1)]:=by
 have f:=me (Zt.eq_1 a0 a1);refine so func121 ntmps121 ?_;refine lp1 (xn.eq_2 a0 a1) (fun J=>YM 20 [eL 0 3 a0 Za.row,eI 1 a1,eI 5 (J:Int)]) (fun n1 J=>a0.length<n1+J/\J<=a0.length) (a0.length+1) 0 (fun p1 J e1 j1=>?_);refine cFf e1 ?_ ?_<;>intro k2 h1 e1
 ·have i1:=ix h1;have m2:=ml a0 (k2 0 _ rfl);have w1:=wr J;simp[i1,ZB];refine rpS ?_;refine cF e1 ?_ ?_<;>intro k3 h2 e1
  ·exact rt [.tmp 4] (ms f e1)
  exact ny1 w1 e1
 exact rt [.tmp 4] (ms f e1)
theorem uD(a0:ZF)(a1:List Int):Sa 224 [a0.row,rL 1 iR a1] [rB (Nk a0 a1)]:=by
 have f:=me (Nk.eq_1 a0 a1);refine so func224 ntmps224 ?_;refine lp1 (T2.eq_2 a0 a1) (fun J=>YM 76 [eL 1 1 a1 iR,eX 2 (a0.row.map .d),eI 5 (J:Int)]) (fun n1 J=>a1.length<n1+J/\J<=a1.length) (a1.length+1) 0 (fun p1 J e1 j1=>?_);refine cF e1 ?_ ?_<;>intro k2 h1 e1
 ·have i1:=ix h1;have m2:=ml a1 (k2 1 _ rfl);have w1:=wr J;refine dIo mixed ?_;simp[i1,ZB];refine rpS ?_;refine cRs (y0 a0.Frame.ZC (nth a1 J)) ?_;refine dIs mixed ?_;refine gIf ?_ ?_<;>intro G
  ·have i2:=ik (J-1) a1;have w2:IntKind.i64.wrap ((J:Int)-1)=(J:Int)-1:=YQ zAC zAC;simp[i2,ZB,w2,kT,G];refine rpG ?_;refine gK (fun _=>?_);simp[i1,ZB,G];refine rpG ?_;refine cK e1 ?_ ?_<;>intro k5 h2 e1
   ·exact rtg [.tmp 4] (ms f e1)
   ·refine dIo mixed ?_;have i3:(Zt a0.Frame.ZC (nth a1 J)).toNat<a0.Frame.ZC.length:=by have:=Qw a0.Frame.ZC (nth a1 J);exact il
    simp[i3,ZB,G];refine rpG ?_;refine cRg (Jq a0.Frame.Zz (nth a0.Frame.ZC (Zt a0.Frame.ZC (nth a1 J)).toNat).Key) ?_;refine dIg mixed ?_;refine gJf G ?_ ?_<;>intro G
    ·try(simp at G;done)
     all_goals
      have i4:(Yt a0.Frame.Zz (nth a0.Frame.ZC (Zt a0.Frame.ZC (nth a1 J)).toNat).Key).toNat<a0.Frame.Zz.length:=zBm;simp[i4,ZB,G];refine rpG ?_;refine cK e1 ?_ ?_<;>intro k8 h3 e1
      ·exact rtg [.tmp 4] (ms f e1)
      ·exact ny1 (an w1 (an w2 G)) e1
    ·try(simp at G;done)
     all_goals
      refine cK e1 ?_ ?_<;>intro k9 h4 e1
      ·exact rtg [.tmp 4] (ms f e1)
      ·simp[G]at h4
  ·refine sGg ?_;refine cK e1 ?_ ?_<;>intro cv h5 e1
   ·exact rtg [.tmp 4] (ms f e1)
   ·refine dIo mixed ?_;have i7:(Zt a0.Frame.ZC (nth a1 J)).toNat<a0.Frame.ZC.length:=by have:=Qw a0.Frame.ZC (nth a1 J);exact il
    simp[i7,ZB,G];refine rpG ?_;refine cRg (Jq a0.Frame.Zz (nth a0.Frame.ZC (Zt a0.Frame.ZC (nth a1 J)).toNat).Key) ?_;refine dIg mixed ?_;refine gJf G ?_ ?_<;>intro G
    ·try(simp at G;done)
     all_goals
      have i8:(Yt a0.Frame.Zz (nth a0.Frame.ZC (Zt a0.Frame.ZC (nth a1 J)).toNat).Key).toNat<a0.Frame.Zz.length:=zBm;simp[i8,ZB,G];refine rpG ?_;refine cK e1 ?_ ?_<;>intro aL h6 e1
      ·exact rtg [.tmp 4] (ms f e1)
      ·exact ny1 (an w1 G) e1
    ·try(simp at G;done)
     all_goals
      refine cK e1 ?_ ?_<;>intro k14 h7 e1
      ·exact rtg [.tmp 4] (ms f e1)
      ·simp[G]at h7
 exact rt [.tmp 4] (ms f e1)
theorem Ec(a0:ZU)(a1:ZL)(u0:Sm 2318336 a0)(u1:Sm 2318336 a1):Sd 83 [a0.row,a1.row] [rL 1 iR (jd a0 a1)]:=by
 have f:=me (jd.eq_1 a0 a1);refine soD func83 ntmps83 ?_;refine lp2 (xy.eq_2 a0 a1) (fun J U=>YM 27 [eX 2 (a0.row.map .d),eX 3 (a1.row.map .d),(5,.one (.sref 5 0 0 J.length),[.arr false 1 (J.map iR)]),eI 6 (U:Int)]) (fun n1 J U=>a0.ZR.length<n1+U/\U<=a0.ZR.length/\J.length<=0+1*U) (a0.ZR.length+1) ([]:List Int) 0 (fun p1 J U e1 j1=>?_) (h0:=wkS [((5,0),some (7,0))] []);refine cF e1 ?_ ?_<;>intro k2 h1 e1
 ·have i1:=ix h1;have m2:=ml a0.ZR (k2 10 _ rfl);have c1:=sl 2318336 a0.ZR (an u0 u1);have w1:=wr U;refine dIo mixed ?_;simp[i1,ZB];refine rpS ?_;refine cRs (Tw (nth a0.ZR U).Method a1 (sg u1)) ?_;exact nx2 e1 (hw:=Yk [((5,0),some (25,0))] [] rfl zAe)
 exact rtD [.tmp 4] (ms f e1)
theorem Nc(a0:ZX):Sd 125 [a0.row] [rL 1 iR (yj a0)]:=by have f:=me (yj.eq_1 a0);refine soD func125 ntmps125 ?_;exact rtD [.tmp 2] f
theorem Tj(a0:Int)(a1:ZZ)(u0:Sm 2326528 a1):Sa 140 [rI a0,a1.row] [rI (xL a0 a1)]:=by
 have f:=me (xL.eq_1 a0 a1);refine so func140 ntmps140 ?_;refine lp2 (xu.eq_2 a1) (fun J U=>YM 75 [eI 0 a0,eX 3 (a1.row.map .d),(5,.one (.sref 5 0 0 J.length),[.arr false 1 (J.map iR)]),eI 6 (U:Int)]) (fun n1 J U=>a1.Path.length<n1+U/\U<=a1.Path.length/\J.length<=4+2*U) (a1.Path.length+1) ([4,a1.Count,a1.Method,a1.BE]:List Int) 0 (fun p1 J U e1 j1=>?_) (h0:=wkS [((5,0),some (14,0))] []);refine cFo e1 ?_ ?_<;>intro k2 h1 e1
 ·have q1:=h1;try simp at q1
  have i1:=ix h1;have m2:=ml a1.Path (k2 17 _ rfl);have c1:=sl 2326528 a1.Path u0;have w1:=wr U;simp[i1,ZB];refine rpS ?_;refine cFo e1 ?_ ?_<;>intro k3 h2 e1
  ·have q2:=h2;try simp at q2
   simp;refine rpS ?_;exact nx2 e1 (hw:=Yk [((5,0),some (39,0))] [] rfl zAe)
  have q2:=h2;try simp at q2
  simp;refine rpS ?_;exact nx2 e1 (hw:=Yk [((5,0),some (42,0))] [] rfl zAe)
 have q1:=h1;try simp at q1
 have c2:=sl 2326528 a1.Path u0;have f:=ms f e1;simp;refine rpS ?_;refine lp2 (WY.eq_2 a1) (fun ia iZ=>YM 75 [eI 0 a0,eX 3 (a1.row.map .d),(5,.one (.sref 5 0 0 ia.length),[.arr false 1 (ia.map iR)]),eI 7 (iZ:Int)]) (fun n2 ia iZ=>a1.YK.length<n2+iZ/\iZ<=a1.YK.length/\ia.length<=5+2*2326528+6*iZ) (a1.YK.length+1) (J++([(a1.YK.length:Int)]:List Int)) 0 (fun p2 ia iZ e2 j2=>?_) (hI:=by(have o:a1.Path.length<=2326528:=YA (xs u0);simp at*;omega)) (h0:=wkS [((5,0),some (48,0))] []);refine cFo e2 ?_ ?_<;>intro k5 h3 e2
 ·have q3:=h3;try simp at q3
  have i2:=ix h3;have m4:=ml a1.YK (k5 51 _ rfl);have c3:=sl 2326528 a1.YK u0;have w2:=wr iZ;simp;refine dIo mixed ?_;simp[i2,ZB];refine rpS ?_;refine cRf i2 (YN.rd (Nc (nth a1.YK iZ))) ?_;exact nx2 e2 (hI:=by(simp;omega)) (hw:=Yk [((5,0),some (71,0))] [] rfl (by simp[w2]))
 have q3:=h3;try simp at q3
 have c4:=sl 2326528 a1.YK u0;have f:=ms f e2;simp;refine cRs (Kt a0 ia zAN) ?_;exact rt [.tmp 4] f
theorem RY(a0:Int)(a1:List ZV)(u0:Sm 2326528 a1):Sa 211 [rI a0,rL 3 ZV.row a1] [rI (yH a0 a1)]:=by
 have f:=me (yH.eq_1 a0 a1);refine so func211 ntmps211 ?_;refine lp2 (Vk.eq_2 a0 a1) (fun J U=>YM 39 [eI 0 a0,eL 1 3 a1 ZV.row,(5,.one (.sref 5 0 0 J.length),[.arr false 1 (J.map iR)]),eI 6 (U:Int)]) (fun n1 J U=>a1.length<n1+U/\U<=a1.length/\J.length<=1+1*U) (a1.length+1) ([2]:List Int) 0 (fun p1 J U e1 j1=>?_) (h0:=wkS [((5,0),some (7,0))] []);refine cF e1 ?_ ?_<;>intro k2 h1 e1
 ·have i1:=ix h1;have m2:=ml a1 (k2 1 _ rfl);have c1:=sl 2326528 a1 u0;have w1:=wr U;refine DB [2,3,4,5,6,7,8,9,10,11,12,13,14,15,16,17,18,0,1,19,20,21,22] mixed zAZ zAZ zAZ ?_;have c2:=sl 2326528 (nth a1 U).YS u0;simp[i1,ZB];refine rpS ?_;refine cRs (Kt a0 (([(nth a1 U).Key,(nth a1 U).Mark]:List Int)++(nth a1 U).YS) zAr) ?_;exact nx2 e1 (hw:=Yk [((5,0),some (35,0))] [] rfl zAe)
 have c3:=sl 2326528 a1 u0;have f:=ms f e1;refine cRs (Kt a0 J zAN) ?_;exact rt [.tmp 4] f
theorem FL(a0 a1:Int)(a2:List ZV)(a3:Int)(u0:Sm 2322432 a2):Sa 141 [rI a0,rI a1,rL 3 ZV.row a2,rI a3] [rI (Hl a0 a1 a2 a3)]:=by have f:=me (Hl.eq_1 a0 a1 a2 a3);refine so func141 ntmps141 ?_;refine cRs (RY a0 a2 (sg u0)) ?_;refine cRs (Kt a0 ([3,a1,yH a0 a2,a3]:List Int) zAr) ?_;exact rt [.tmp 8] f
theorem Qf(h:b)(k:a:=by(intros;first|omega|with_unfolding_all (first|first|omega|(have cc:a0.ZR.length<=2318336:=YA (xs u0);have z0:=fk;simp at z0;have z:=T7 zAC z0.1;have z2:=z0.2;(try have w3:IntKind.i64.wrap (a2-1)=a2-1:=YQ zAC zAC);(try have w4:W (a2-1)=a2-1:=w3);first|omega|(refine⟨⟨z0.1,zAC⟩,zAC,zAC⟩)|(simp_all;omega)))|(simp_all;done)|(simp_all;omega)|grind|((try simp only[Yd,show ∀x,IntKind.i64.wrap x=W x from fun _=>rfl]at*);omega))):a/\b:=⟨k,h⟩
theorem v5(a0:ZU)(a1:List Int)(a2:Int)(u0:Sm 2318336 a0)(u1:Sm 2318336 a1):Sa 82 [a0.row,rL 1 iR a1,rI a2] [rI (Ca a0 a1 a2)]:=by
 have f:=me (Ca.eq_1 a0 a1 a2);refine so func82 ntmps82 ?_;refine dIs mixed ?_;refine cRs (Y8 a2 0 (W ((a0.ZR.length:Int)-1))) ?_;refine gIo ?_ ?_<;>intro G
 ·have fk:=G;have c1:=sl 2318336 a0.ZR (an u0 u1);have w1:IntKind.i64.wrap ((a0.ZR.length:Int)-1)=(a0.ZR.length:Int)-1:=YQ zAC zAC;have g1:=G;try simp[Ye,w1]at g1
  have i1:a2.toNat<a0.ZR.length:=zAW;simp[i1,ZB,G];refine zCm ?_;refine cGo (fun gg=>Y8 (nth a0.ZR a2.toNat).Count 0 (a0.ZM.length:Int)) ?_;simp[G];refine zCm ?_;refine cKo f ?_ ?_<;>intro k2 h1 f
  ·have q1:=h1;try simp[Ye,w1]at q1
   simp[G];refine zCm ?_;exact rtg [.tmp 6] f
  ·have q1:=h1;try simp[Ye,w1]at q1
   simp[i1,ZB,G];refine zCm ?_;refine cKo f ?_ ?_<;>intro k3 h2 f
   ·have q2:=h2;try simp at q2
    have i2:(W (a2-1)).toNat<a0.ZR.length:=zAW;simp[i2,ZB,G];refine zCm ?_;refine cR (Tj (nth a0.ZR a2.toNat).Method (nth a0.ZR (W (a2-1)).toNat) (sg (Zi (ZU.KE u0)))) ?_ (hG:=by first|(simp;done)|(simp[W,w1];done));simp[G];refine zCm ?_;refine dIo mixed ?_;have i3:a2.toNat<a1.length:=zAW;simp[i3,ZB,i1,G];refine zCm ?_;refine cR (FL (nth a0.ZR a2.toNat).Method (nth a1 a2.toNat) (a0.ZM.take (nth a0.ZR a2.toNat).Count.toNat) (xL (nth a0.ZR a2.toNat).Method (nth a0.ZR (W (a2-1)).toNat)) (ZK (n:=2318336) zAF (xs (an u0 u1)))) ?_ (hG:=by first|(simp;done)|(simp[W,w1];done));simp[G];refine zCm ?_;exact rtg [.tmp 6] f
   ·have q2:=h2;try simp at q2
    simp[G];refine zCm ?_;refine dIo mixed ?_;have i4:a2.toNat<a1.length:=zAW
    simp[i4,ZB,i1,G];refine zCm ?_;refine cR (FL (nth a0.ZR a2.toNat).Method (nth a1 a2.toNat) (a0.ZM.take (nth a0.ZR a2.toNat).Count.toNat) 0 (ZK (n:=2318336) zAF (xs (an u0 u1)))) ?_;simp[G];refine zCm ?_;exact rtg [.tmp 6] f
 ·have fk:=G;simp[G];refine zCm ?_;refine sGo ?_;simp[G];refine zCm ?_;have c2:=sl 2318336 a0.ZR (an u0 u1);have w2:IntKind.i64.wrap ((a0.ZR.length:Int)-1)=(a0.ZR.length:Int)-1:=YQ zAC zAC;refine cKo f ?_ ?_<;>intro k6 h3 f
  ·have q3:=h3;try simp[Ye,w2]at q3
   simp[G];refine zCm ?_;exact rtg [.tmp 6] f
  ·simp[G]at h3
theorem SQ(a0:ZD)(a1:Int)(u0:Sm 2314240 a0):Sd 45 [a0.row,rI a1] [rL 1 iR (Yp a0 a1)]:=by
 have f:=me (Yp.eq_1 a0 a1);refine soD func45 ntmps45 ?_;refine lp2 (xe.eq_2 a0 a1) (fun J U=>YM 51 [eI 1 a1,eX 2 (a0.row.map .d),(5,.one (.sref 5 0 0 J.length),[.arr false 1 (J.map iR)]),eI 6 (U:Int)]) (fun n1 J U=>a0.ZE.length<n1+U/\U<=a0.ZE.length/\J.length<=0+1*U) (a0.ZE.length+1) ([]:List Int) 0 (fun p1 J U e1 j1=>?_) (h0:=wkS [((5,0),some (8,0))] []);refine cFf e1 ?_ ?_<;>intro k2 h1 e1
 ·have i1:=ix h1;have m2:=ml a0.ZE (k2 11 _ rfl);have c1:=sl 2314240 a0.ZE u0;have w1:=wr U;simp[i1,ZB];refine rpS ?_;refine cOs (YN.own (xg (nth a0.ZE U).ZN (sg (ZO.Yz (Zi (ZD.YD u0)))))) ?_;refine eIs ?_;have c2:=sl 2314240 (nth a0.ZE U).ZN.ZR u0;refine eIs ?_;refine dIo mixed ?_;simp[i1,ZB];refine rpS ?_;refine cDs [false] (Ec (ZU.mk (nth a0.ZE U).ZN.ZM ((nth a0.ZE U).ZN.ZR++([ZZ.mk ((nth a0.ZE U).ZN.ZM.length:Int) a1 0 ([]:List Xk) ([]:List ZX)]:List ZZ))) (nth a0.ZE U).Doc zAS zAS) ?_;refine cRs (v5 (ZU.mk (nth a0.ZE U).ZN.ZM ((nth a0.ZE U).ZN.ZR++([ZZ.mk ((nth a0.ZE U).ZN.ZM.length:Int) a1 0 ([]:List Xk) ([]:List ZX)]:List ZZ))) (jd (ZU.mk (nth a0.ZE U).ZN.ZM ((nth a0.ZE U).ZN.ZR++([ZZ.mk ((nth a0.ZE U).ZN.ZM.length:Int) a1 0 ([]:List Xk) ([]:List ZX)]:List ZZ))) (nth a0.ZE U).Doc) (W ((((nth a0.ZE U).ZN.ZR++([ZZ.mk ((nth a0.ZE U).ZN.ZM.length:Int) a1 0 ([]:List Xk) ([]:List ZX)]:List ZZ)).length:Int)-1)) zAS zAS) ?_ (hG:=by first|(simp;done)|(simp[W,w1];done));exact nx2 e1 (hw:=Yk [((5,0),some (49,0))] [] rfl zAe)
 have c3:=sl 2314240 a0.ZE u0;exact rtD [.tmp 4] (ms f e1)
theorem FX(a0 a1 a2:Int):Sa 143 [rI a0,rI a1,rI a2] [rI (OV a0 a1 a2)]:=by have f:=me (OV.eq_1 a0 a1 a2);refine so func143 ntmps143 ?_;refine cRs (Kt a0 ([1,a1,a2]:List Int) (by simp(maxDischargeDepth:=12) [TW,Y9];try omega)) ?_;exact rt [.tmp 6] f
theorem Oc(a0:Int)(a1:List Int)(u0:Sm 2322432 a1):Sd 85 [rI a0,rL 1 iR a1] [rL 1 iR (Si a0 a1)]:=by
 have f:=me (Si.eq_1 a0 a1);refine soD func85 ntmps85 ?_;refine lp2 (Tg.eq_2 a0 a1) (fun J U=>YM 41 [eI 0 a0,eL 1 1 a1 iR,(5,.one (.sref 5 0 0 J.length),[.arr false 1 (J.map iR)]),eI 6 (U:Int)]) (fun n1 J U=>a1.length<n1+U/\U<=a1.length+1/\J.length<=U) (a1.length+1) ([]:List Int) 0 (fun p1 J U e1 j1=>?_) (h0:=wkS [((5,0),some (7,0))] []);refine cF e1 ?_ ?_<;>intro k2 h1 e1
 ·have i1:=ix h1;have m2:=ml a1 (k2 1 _ rfl);have c1:=sl 2322432 a1 u0;have w1:=wr U;refine cFt e1 ?_ ?_<;>intro k3 h2 e1
  ·refine okD fun k4=>?_;refine dIo mixed ?_;have i2:=ik (W ((U:Int)+1)).toNat a1
   simp[i1,ZB,i2];refine rpS ?_;refine cRs (FX a0 (nth a1 U) (nth a1 (W ((U:Int)+1)).toNat)) ?_ (hG:=by first|(simp;done)|(simp[W,w1];done));have w2:IntKind.i64.wrap ((U:Int)+2)=(U:Int)+2:=YQ zAC zAC
   exact nx2 e1 (hI:=by first|omega|(simp at*;omega)) (hw:=Yk [((5,0),some (32,0))] [] rfl zCC)
  simp[i1,ZB];refine rpS ?_;have w3:IntKind.i64.wrap ((U:Int)+2)=(U:Int)+2:=YQ zAC zAC
  exact nx2 e1 (hI:=by first|omega|(simp at*;omega)) (hw:=Yk [((5,0),some (39,0))] [] rfl (by simp[w1,w3]))
 exact rtD [.tmp 4] (ms f e1)
theorem Rq(a0:Int)(a1:List Int)(u0:Sm 2318336 a1):Sa 46 [rI a0,rL 1 iR a1] [rI (zz a0 a1)]:=by
 have f:=me (zz.eq_1 a0 a1);refine so func46 ntmps46 ?_;refine cRs (Y8 (a1.length:Int) 1 16) ?_;refine cFo f ?_ ?_<;>intro k1 h1 f
 ·have q1:=h1;try simp[Ye]at q1
  simp;exact rt [.tmp 4] f
 have q1:=h1;try simp[Ye]at q1
 simp;refine rpS ?_;refine lp1 (OY.eq_2 a0) (fun J=>YM 22 [eI 0 a0,(5,.one (.sref 5 0 0 J.length),[.arr false 1 (J.map iR)])]) (fun n1 J=>J.length<n1/\1<=J.length/\J.length<=16) (a1.length+1) a1 (fun p1 J e1 j1=>?_) (hI:=by first|omega|(simp at*;omega)) (h0:=wkS [((5,0),some (12,0))] []);refine cFt e1 ?_ ?_<;>intro k3 h2 e1
 ·refine cDs [false] (Oc a0 J zAT) ?_;exact nx1 e1 (hI:=by(have z:=RT a0 J zAC;(try dsimp only);simp at*;omega)) (hw:=wkS [((5,0),some (18,0))] [])
 have f:=ms f e1;have i1:=ik 0 J;simp[i1,ZB];refine rpS ?_;exact rt [.tmp 4] f
theorem wq(a0:ZD)(a1:Int)(u0:Sm 2310144 a0):Sa 37 [a0.row,rI a1] [rI (qt a0 a1)]:=by have f:=me (qt.eq_1 a0 a1);refine so func37 ntmps37 ?_;refine cRs (YN.rd (SQ a0 a1 (sg u0))) ?_;refine cRs (Rq a1 (Yp a0 a1) (by simp(maxDischargeDepth:=12) [Wf,ZK (m:=2318336) zAF u0];try omega)) ?_;exact rt [.tmp 4] f
theorem L6(a0:List Int)(a1:Int):Sa 225 [rL 1 iR a0,rI a1] [rB (Ic a0 a1)]:=by
 have f:=me (Ic.eq_1 a0 a1);refine so func225 ntmps225 ?_;refine lp1 (Gd.eq_2 a0 a1) (fun J=>YM 18 [eL 0 1 a0 iR,eI 1 a1,eI 5 (J:Int)]) (fun n1 J=>a0.length<n1+J/\J<=a0.length) (a0.length+1) 0 (fun p1 J e1 j1=>?_);refine cFf e1 ?_ ?_<;>intro k2 h1 e1
 ·have i1:=ix h1;have m2:=ml a0 (k2 0 _ rfl);have w1:=wr J;simp[i1,ZB];refine rpS ?_;refine cF e1 ?_ ?_<;>intro k3 h2 e1
  ·exact rt [.tmp 4] (ms f e1)
  exact ny1 w1 e1
 exact rt [.tmp 4] (ms f e1)
theorem SY(a0:List Yg)(a1:List Za)(a2:ZX)(u0:Sm 2322432 a0)(u1:Sm 2322432 a1):Sa 71 [rL 5 Yg.row a0,rL 3 Za.row a1,a2.row] [(zd a0 a1 a2).1.row,rB (zd a0 a1 a2).2]:=by
 have f:=me (zd.eq_1 a0 a1 a2);refine so func71 ntmps71 ?_;refine cRs (y0 a1 a2.Authority) ?_;refine cGs (fun gg=>UJ a2.Time) ?_;refine cFt f ?_ ?_<;>intro k1 h1 f
 ·exact rt [.cell 6 131,.tmp 7] f
 have i1:(Zt a1 a2.Authority).toNat<a1.length:=by have:=Qw a1 a2.Authority;exact il
 simp[i1,ZB];refine rpS ?_;refine cRs (Jq a0 (nth a1 (Zt a1 a2.Authority).toNat).Key) ?_;refine cF f ?_ ?_<;>intro k2 h2 f
 ·exact rt [.cell 6 131,.tmp 7] f
 refine dIo mixed ?_;have i2:(Yt a0 (nth a1 (Zt a1 a2.Authority).toNat).Key).toNat<a0.length:=by have:=Jw a0 (nth a1 (Zt a1 a2.Authority).toNat).Key;exact il
 simp[i2,ZB];refine rpS ?_;refine cRs (YN.rd (Nc a2)) ?_;refine cRs (V0 (nth a0 (Yt a0 (nth a1 (Zt a1 a2.Authority).toNat).Key).toNat) (yj a2) (by simp(maxDischargeDepth:=12) [Dw,ZK (m:=2326528) zAF u0,ZK (m:=2326528) zAF u1];try omega)) ?_;exact rt [.cell 6 131,.tmp 7] f
theorem Rl(h:b)(k:a:=by(intros;first|omega|with_unfolding_all (first|first|omega|(have tm:=Int.tmod_eq_emod_of_nonneg (b:=2) (show 0<=J by omega);(try simp only[Yd,show ∀x,IntKind.i64.wrap x=W x from fun _=>rfl]at*);(try simp at*);omega))|((try simp only[Yd,show ∀x,IntKind.i64.wrap x=W x from fun _=>rfl]at*);omega))):a/\b:=⟨k,h⟩
theorem C8(a0:Int)(a1:List Int)(a2:Int)(u0:Sm 2318336 a1):Sd 49 [rI a0,rL 1 iR a1,rI a2] [rL 2 Xk.row (y6 a0 a1 a2)]:=by
 have f:=me (y6.eq_1 a0 a1 a2);refine soD func49 ntmps49 ?_;refine cGs (fun gg=>Y8 a2 0 (W ((a1.length:Int)-1))) ?_;have c1:=sl 2318336 a1 u0;have w1:IntKind.i64.wrap ((a1.length:Int)-1)=(a1.length:Int)-1:=YQ zAC zAC;refine cFo f ?_ ?_<;>intro k1 h1 f
 ·have q1:=h1;try simp[Ye,w1]at q1
  simp;exact rtD [.tmp 6] f
 have q1:=h1;try simp[Ye,w1]at q1
 simp;repeat with_reducible refine Rl ?_
 refine lp3 (yx.eq_2 a0) (fun J U ib=>YM 60 [eI 0 a0,eI 2 J,(7,.one (.sref 7 0 0 U.length),[.arr false 2 (U.map Xk.row)]),(8,.one (.sref 8 0 0 ib.length),[.arr false 1 (ib.map iR)])]) (fun n1 J U ib=>ib.length<n1/\0<=J/\J<(ib.length:Int)/\ib.length<=16/\U.length+n1<=17) (a1.length+1) a2 ([]:List Xk) a1 (fun p1 J U ib e1 j1=>?_) (hI:=by first|omega|(simp at*;omega)) (h0:=wkS [((7,0),some (9,0)),((8,0),some (24,0))] []);try dsimp only at j1
 refine cF e1 ?_ ?_<;>intro k3 h2 e1
 ·refine cFf e1 ?_ ?_<;>intro k4 h3 e1
  ·have i1:(W (J-1)).toNat<ib.length:=zA6;simp[i1,ZB];repeat with_reducible refine Rl ?_
   refine cDs [false] (Oc a0 ib zAT) ?_;exact nx3 e1 (hI:=by(have z:=RT a0 ib zAC;have td:=Int.tdiv_eq_ediv_of_nonneg (b:=2) (show 0<=J by omega);have w2:W (Int.tdiv J 2)=Int.tdiv J 2:=YQ zAC zAC;(try dsimp only);rw[w2];simp at*;omega)) (hw:=Yk [((7,0),some (39,0)),((8,0),some (56,0))] [] rfl zAe)
  refine cFo e1 ?_ ?_<;>intro k5 h4 e1
  ·have q4:=h4;try simp[w1]at q4
   have i2:(W (J+1)).toNat<ib.length:=zA6;simp[i2,ZB];repeat with_reducible refine Rl ?_
   refine cDs [false] (Oc a0 ib zAT) ?_;exact nx3 e1 (hI:=by(have z:=RT a0 ib zAC;have td:=Int.tdiv_eq_ediv_of_nonneg (b:=2) (show 0<=J by omega);have w2:W (Int.tdiv J 2)=Int.tdiv J 2:=YQ zAC zAC;(try dsimp only);rw[w2];simp at*;omega)) (hw:=Yk [((7,0),some (53,0)),((8,0),some (56,0))] [] rfl zAe)
  have q4:=h4;try simp[w1]at q4
  simp;refine cDs [false] (Oc a0 ib zAT) ?_;exact nx3 e1 (hI:=by(have z:=RT a0 ib zAC;have td:=Int.tdiv_eq_ediv_of_nonneg (b:=2) (show 0<=J by omega);have w2:W (Int.tdiv J 2)=Int.tdiv J 2:=YQ zAC zAC;(try dsimp only);rw[w2];simp at*;omega)) (hw:=Yk [((8,0),some (56,0))] [] rfl zAe)
 exact rtD [.tmp 6] (ms f e1)
theorem Ou(a0:ZU)(a1:ZZ)(u0:Sm 2326528 a0)(u1:Sm 2326528 a1):Sd 48 [a0.row,a1.row] [(QV a0 a1).1.row,rB (QV a0 a1).2]:=by
 have f:=me (QV.eq_1 a0 a1);refine soD func48 ntmps48 ?_;refine cDs [] (xg a0 (sg u0)) ?_;refine drJ [14] mixed ?_;simp;refine cDs [true,true,true,false,false] (LP a1 (sg u1)) ?_;refine qv ?_;have c1:=sl 2326528 a0.ZR (an u0 u1);simp;refine W9 (im:=a0.ZR.map ZZ.row) (news:=([a1]:List ZZ).map ZZ.row) (l1:=[(8,1)]) (l2:=[(12,3),(12,4)]) (size:=5) ?_;simp;refine cRs (PA (ZU.mk a0.ZM (a0.ZR++([a1]:List ZZ)))) ?_;refine cF f ?_ ?_<;>intro k2 h1 f
 ·refine cDs [] (xg a0 (sg u0)) ?_;exact rtD [.cell 4 59,.tmp 5] f
 exact rtD [.cell 4 59,.tmp 5] f
theorem GY(a0:ZD)(a1:Int)(a2:List ZX)(u0:Sm 2310144 a0)(u1:Sm 2310144 a2):Sd 13 [a0.row,rI a1,rL 5 ZX.row a2] [(QR a0 a1 a2).1.row,rB (QR a0 a1 a2).2]:=by
 have f:=me (QR.eq_1 a0 a1 a2);refine soD func13 ntmps13 ?_;refine cDs [] (QA a0 (sg u0)) ?_;refine cRs (YN.rd (SQ a0 a1 (sg u0))) ?_;refine cRs (Rq a1 (Yp a0 a1) zBW) ?_;refine cRs (qA a0) ?_;refine lp3 (KV.eq_2 a0 a1 a2) (fun J U ib=>YM 84 [eI 1 a1,eL 2 5 a2 ZX.row,eX 3 (a0.row.map .d),(6,.one (.bptr 6 0),[.box [.d (.int .i64 0),.nil 16]]),(8,.one (.bptr 8 0),[.box [.d (.int .i64 a0.Id),.sref 16 1 0 ib.length]]),eL 9 1 (Yp a0 a1) iR,eI 10 (zz a1 (Yp a0 a1)),eB 11 J,eI 12 (U:Int),(16,.any,[.none,.arr true 16 (ib.map ZO.row)])]) (fun n1 J U ib=>a0.ZE.length<n1+U/\U<=a0.ZE.length/\ib.length=a0.ZE.length) (a0.ZE.length+1) (JG a0&&(decide ((a0.ZE.length:Int)>0))) 0 a0.ZE (fun p1 J U ib e1 j1=>?_);refine cF e1 ?_ ?_<;>intro k2 h1 e1
 ·have i1:U<a0.ZE.length:=zBq;have m2:=ml a0.ZE (k2 33 _ rfl);have c1:=sl 2310144 a0.ZE (an u0 u1);have w1:=wr U;refine dIo mixed ?_;simp[i1,ZB];refine rpS ?_;refine cRs (YN.rd (C8 a1 (Yp a0 a1) (U:Int) zBW)) ?_;have i2:=ik U ib;refine cDf i2 [] (Ou (nth a0.ZE U).ZN (ZZ.mk ((nth a0.ZE U).ZN.ZM.length:Int) a1 (zz a1 (Yp a0 a1)) (y6 a1 (Yp a0 a1) (U:Int)) a2) (sg (ZO.Yz (Zi (ZD.YD u0)))) (by simp(maxDischargeDepth:=12) [LX,Wf,ZK (m:=2326528) zAF u0,ZK (m:=2326528) zAF u1];try omega)) ?_;refine oT (t:=16) (j:=1) (i:=U) (c:=14) (size:=16) (rows:=ib.map ZO.row) (ds:=(QV (nth a0.ZE U).ZN (ZZ.mk ((nth a0.ZE U).ZN.ZM.length:Int) a1 (zz a1 (Yp a0 a1)) (y6 a1 (Yp a0 a1) (U:Int)) a2)).1.row) (L:=[(64,0),(64,1)]) rfl rfl rfl rfl zAE zAE (by simp;try omega) zAE zAE zAE zAE zAE zAE ?_;simp[Ki (x:=ZO.mk (nth ib U).Id (nth ib U).XL (nth ib U).Doc (nth ib U).Sig (QV (nth a0.ZE U).ZN (ZZ.mk ((nth a0.ZE U).ZN.ZM.length:Int) a1 (zz a1 (Yp a0 a1)) (y6 a1 (Yp a0 a1) (U:Int)) a2)).1) rfl,i2,ZB,XH];refine rpS ?_;exact ny3 w1 e1
 have c2:=sl 2310144 a0.ZE (an u0 u1);have f:=ms f e1;refine cGs (fun gg=>qA (ZD.mk a0.Id ib)) ?_;refine cF f ?_ ?_<;>intro k4 h2 f
 ·refine cDs [] (QA a0 (sg u0)) ?_;exact rtD [.cell 6 44,.tmp 7] f
 exact rtD [.cell 6 44,.tmp 7] f
theorem X6(h:b)(k:a:=by(intros;first|omega|with_unfolding_all (first|first|omega|(have z:=JW (a0:=a0) (a1:=a2) (j:=U) zAz zAC;omega)|(have z:=JW (a0:=a0) (a1:=a2) (j:=ia) zAz zAC;omega))|((try simp only[Yd,show ∀x,IntKind.i64.wrap x=W x from fun _=>rfl]at*);omega))):a/\b:=⟨k,h⟩
theorem D2(a0:ZF)(a1:Int)(a2:List Int)(a3:Int)(u0:Sm 2306048 a0)(u1:Sm 2306048 a2):Sd 153 [a0.row,rI a1,rL 1 iR a2,rI a3] [(qI a0 a1 a2 a3).1.row,rB (qI a0 a1 a2 a3).2]:=by
 have f:=me (qI.eq_1 a0 a1 a2 a3);refine soD func153 ntmps153 ?_;refine cDs [false,false,false,true,true,false,false,true,false,false,true,false] (QT a0 (sg u0)) ?_;refine cRs (kC a0.Frame.Methods a0.Frame.Now) ?_;refine cRs (WJ a0 a1) ?_;refine cGs (fun gg=>uD a0 a2) ?_;refine cGs (fun gg=>Y8 a3 (-10000) 10000) ?_;have c1:=sl 2306048 a0.ZA (an u0 u1);have w1:IntKind.i64.wrap ((a0.ZA.length:Int)-1)=(a0.ZA.length:Int)-1:=YQ zAC zAC;refine cFo f ?_ ?_<;>intro k1 h1 f
 ·have q1:=h1;try simp[Ye,w1,Q7]at q1
  simp;exact rtD [.cell 8 33,.tmp 9] f
 have q1:=h1;try simp[Ye,w1,Q7]at q1
 have i1:a1.toNat<a0.ZA.length:=by first|omega|(have z:=JW (a0:=a0) (a1:=a2) (j:=U) zAz zAC;omega)|(have z:=JW (a0:=a0) (a1:=a2) (j:=ia) zAz zAC;omega)
 simp[i1,ZB];refine zCo ?_;refine cRs (wq (nth a0.ZA a1.toNat) (Zp a0.Frame.Methods a0.Frame.Now) (sg (Zi (ZF.Z6 u0)))) ?_;refine lp2 (Jp.eq_2 a0 a1 a2 a3) (fun J U=>YM 162 [eI 1 a1,eL 2 1 a2 iR,eI 3 a3,eX 4 (a0.row.map .d),(8,.one (.bptr 8 0),[.box [.nil 5,.nil 3,.nil 4,.d (.int .i64 0),.d (.int .i64 0),.nil 7,.nil 1,.nil 2,.nil 1,.nil 1,.d (.int .i64 0),.nil 1]]),(10,.one (.bptr 10 0),[.box [.sref 24 0 0 a0.Frame.Zz.length,.sref 24 1 0 a0.Frame.ZC.length,.sref 24 2 0 a0.Frame.Methods.length,.d (.int .i64 a0.Frame.Jb),.d (.int .i64 a0.Frame.Now),.sref 24 5 0 a0.Zd.length,.sref 24 6 0 a0.YW.length,.sref 24 7 0 a0.ZA.length,.sref 24 8 0 a0.XW.length,.sref 24 9 0 a0.XA.length,.d (.int .i64 a0.Next),.sref 24 11 0 a0.Ym.length]]),eI 11 (Zp a0.Frame.Methods a0.Frame.Now),eI 12 (qt (nth a0.ZA a1.toNat) (Zp a0.Frame.Methods a0.Frame.Now)),(13,.one (.sref 13 0 0 J.length),[.arr false 5 (J.map ZX.row)]),eI 14 (U:Int),(24,.any,[.arr false 5 (a0.Frame.Zz.map Yg.row),.arr false 3 (a0.Frame.ZC.map Za.row),.arr false 4 (a0.Frame.Methods.map Z9.row),.none,.none,.arr false 7 (a0.Zd.map YL.row),.arr false 1 (a0.YW.map iR),.arr true 2 (a0.ZA.map ZD.row),.arr false 1 (a0.XW.map iR),.arr false 1 (a0.XA.map iR),.none,.arr false 1 (a0.Ym.map iR)])]) (fun n1 J U=>a2.length<n1+U/\U<=a2.length/\J.length<=0+1*U) (a2.length+1) ([]:List ZX) 0 (fun p1 J U e1 j1=>?_) (h0:=wkS [((13,0),some (59,0))] []);try dsimp only at j1
 refine cFt e1 ?_ ?_<;>intro k3 h2 e1
 ·have i2:=ix h2;have m2:=ml a2 (k3 2 _ rfl);have c2:=sl 2306048 a2 (an u0 u1);have w2:=wr U;refine dIo mixed ?_;simp[i2,ZB];refine zCo ?_;refine cRs (y0 a0.Frame.ZC (nth a2 U)) ?_;refine dIo mixed ?_;simp[i2,ZB];refine zCo ?_;refine cRs (L6 a0.XA (nth a2 U)) ?_;refine cF e1 ?_ ?_<;>intro k6 h3 e1
  ·refine cRs (DO 0 (W (a0.Frame.Now+a3))) ?_ (hG:=by first|(simp;done)|(simp[W,w1,w2];done));refine cRs (vW 10000 (O1 0 (W (a0.Frame.Now+a3)))) ?_ (hG:=by first|(simp;done)|(simp[W,w1,w2];done));refine dIo mixed ?_;have i3:(Zt a0.Frame.ZC (nth a2 U)).toNat<a0.XW.length:=zAo
   simp[i2,ZB,i3];refine zCo ?_;refine cRs (SY a0.Frame.Zz a0.Frame.ZC (ZX.mk (nth a2 U) (nth a0.XW (Zt a0.Frame.ZC (nth a2 U)).toNat) (G3 10000 (O1 0 (W (a0.Frame.Now+a3)))) (qt (nth a0.ZA a1.toNat) (Zp a0.Frame.Methods a0.Frame.Now)) 0) (sg (ZT.XD (ZF.Yx u0))) (sg (ZT.Yv (ZF.Yx u0)))) ?_ (hG:=by first|(simp;done)|(simp[W,w1,w2];done));refine cFo e1 ?_ ?_<;>intro k8 h4 e1
   ·have q4:=h4;try simp[w1]at q4
    have f:=ms f e1;simp;exact rtD [.cell 8 33,.tmp 9] f
   have q4:=h4;try simp[w1]at q4
   simp;refine zCo ?_;exact nx2 e1 (hw:=Yk [((13,0),some (117,0))] [] rfl zCC)
  refine dIo mixed ?_;have i4:(Zt a0.Frame.ZC (nth a2 U)).toNat<a0.XW.length:=zAo
  simp[i2,ZB,i4];refine zCo ?_;refine cRs (SY a0.Frame.Zz a0.Frame.ZC (ZX.mk (nth a2 U) (nth a0.XW (Zt a0.Frame.ZC (nth a2 U)).toNat) a0.Frame.Now (qt (nth a0.ZA a1.toNat) (Zp a0.Frame.Methods a0.Frame.Now)) 0) (sg (ZT.XD (ZF.Yx u0))) (sg (ZT.Yv (ZF.Yx u0)))) ?_;refine cFt e1 ?_ ?_<;>intro cv h5 e1
  ·exact rtD [.cell 8 33,.tmp 9] (ms f e1)
  simp;refine zCo ?_;exact nx2 e1 (hw:=Yk [((13,0),some (117,0))] [] rfl zCC)
 have c3:=sl 2306048 a2 (an u0 u1);have f:=ms f e1;simp[i1,ZB];refine zCo ?_;refine cDs [] (GY (nth a0.ZA a1.toNat) (Zp a0.Frame.Methods a0.Frame.Now) J (sg (Zi (ZF.Z6 u0))) (by first|(simp(maxDischargeDepth:=12) [Y9];omega)|(simp(maxDischargeDepth:=12) [ZK (m:=2310144) zAF u0,ZK (m:=2310144) zAF u1];done))) ?_;refine cF f ?_ ?_<;>intro aK h6 f
 ·exact rtD [.cell 8 33,.tmp 9] f
 refine lp2 (jn.eq_2 a0 a2) (fun ia iZ=>YM 162 [eI 1 a1,eL 2 1 a2 iR,eX 4 (a0.row.map .d),(8,.one (.bptr 8 0),[.box [.nil 5,.nil 3,.nil 4,.d (.int .i64 0),.d (.int .i64 0),.nil 7,.nil 1,.nil 2,.nil 1,.nil 1,.d (.int .i64 0),.nil 1]]),(10,.one (.bptr 10 0),[.box [.sref 24 0 0 a0.Frame.Zz.length,.sref 24 1 0 a0.Frame.ZC.length,.sref 24 2 0 a0.Frame.Methods.length,.d (.int .i64 a0.Frame.Jb),.d (.int .i64 a0.Frame.Now),.sref 24 5 0 a0.Zd.length,.sref 24 6 0 a0.YW.length,.sref 24 7 0 a0.ZA.length,.sref 24 8 0 iZ.length,.sref 24 9 0 a0.XA.length,.d (.int .i64 a0.Next),.sref 24 11 0 a0.Ym.length]]),(19,.one (.bptr 19 0),[.box [.d (.int .i64 (QR (nth a0.ZA a1.toNat) (Zp a0.Frame.Methods a0.Frame.Now) J).1.Id),.sref 126 1 0 (QR (nth a0.ZA a1.toNat) (Zp a0.Frame.Methods a0.Frame.Now) J).1.ZE.length]]),eI 21 (ia:Int),(24,.any,[.arr false 5 (a0.Frame.Zz.map Yg.row),.arr false 3 (a0.Frame.ZC.map Za.row),.arr false 4 (a0.Frame.Methods.map Z9.row),.none,.none,.arr false 7 (a0.Zd.map YL.row),.arr false 1 (a0.YW.map iR),.arr true 2 (a0.ZA.map ZD.row),.arr false 1 (iZ.map iR),.arr false 1 (a0.XA.map iR),.none,.arr false 1 (a0.Ym.map iR)]),(126,.any,[.none,.arr true 16 ((QR (nth a0.ZA a1.toNat) (Zp a0.Frame.Methods a0.Frame.Now) J).1.ZE.map ZO.row)])]) (fun n2 ia iZ=>a2.length<n2+ia/\ia<=a2.length/\iZ.length=a0.XW.length) (a2.length+1) 0 a0.XW (fun p2 ia iZ e2 j2=>?_);try dsimp only at j2
 refine cFt e2 ?_ ?_<;>intro aL h7 e2
 ·have i5:=ix h7;have m4:=ml a2 (aL 2 _ rfl);have w3:=wr ia;refine dIo mixed ?_;simp[i5,ZB];refine zCo ?_;refine cRs (y0 a0.Frame.ZC (nth a2 ia)) ?_;refine dIo mixed ?_;have i6:(Zt a0.Frame.ZC (nth a2 ia)).toNat<a0.XW.length:=zAn;have i7:(Zt a0.Frame.ZC (nth a2 ia)).toNat<iZ.length:=zAn;simp[i6,ZB,i7,Ki (x:=W (nth a0.XW (Zt a0.Frame.ZC (nth a2 ia)).toNat+1)) rfl];refine zCo ?_;exact ny2 (an w1 w3) e2
 have f:=ms f e2;simp[i1,ZB];refine zCo ?_;refine IV (t:=24) (j:=7) (i:=a1.toNat) (size:=2) (rows:=a0.ZA.map ZD.row) (ds:=(QR (nth a0.ZA a1.toNat) (Zp a0.Frame.Methods a0.Frame.Now) J).1.row) (L:=[(126,1)]) ?_;simp[Ki (x:=(QR (nth a0.ZA a1.toNat) (Zp a0.Frame.Methods a0.Frame.Now) J).1) rfl,c1,i1,ZB,XH];refine zCo ?_;exact rtD [.cell 8 33,.tmp 9] f
theorem EK(a0:Int)(a1:ZO)(u0:Sm 2318336 a1):Sa 346 [rI a0,a1.row] [rI (Od a0 a1)]:=by
 have f:=me (Od.eq_1 a0 a1);refine so func346 ntmps346 ?_;refine dIs mixed ?_;refine cRs (Tw a0 a1.Doc (sg (ZO.KU u0))) ?_;refine cRs (RY a0 a1.ZN.ZM (sg (ZU.XV (ZO.Yz u0)))) ?_;refine lp2 (Tk.eq_2 a0 a1) (fun J U=>YM 43 [eI 0 a0,eX 3 (a1.row.map .d),(5,.one (.sref 5 0 0 J.length),[.arr false 1 (J.map iR)]),eI 6 (U:Int)]) (fun n1 J U=>a1.ZN.ZR.length<n1+U/\U<=a1.ZN.ZR.length/\J.length<=5+1*U) (a1.ZN.ZR.length+1) ([5,a1.Id,a1.XL,Ks a0 a1.Doc,yH a0 a1.ZN.ZM]:List Int) 0 (fun p1 J U e1 j1=>?_) (h0:=wkS [((5,0),some (20,0))] []);refine cFf e1 ?_ ?_<;>intro k3 h1 e1
 ·have i1:=ix h1;have m2:=ml a1.ZN.ZR (k3 24 _ rfl);have c1:=sl 2318336 a1.ZN.ZR u0;have w1:=wr U;simp[i1,ZB];refine rpS ?_;refine cRs (Tj a0 (nth a1.ZN.ZR U) (sg (Zi (ZU.KE (ZO.Yz u0))))) ?_;exact nx2 e1 (hw:=Yk [((5,0),some (39,0))] [] rfl zAe)
 have c2:=sl 2318336 a1.ZN.ZR u0;have f:=ms f e1;refine cRs (Kt a0 J zAN) ?_;exact rt [.tmp 4] f
theorem IS(a0:Int)(a1:List ZO)(u0:Sm 2314240 a1):Sa 310 [rI a0,rL 16 ZO.row a1] [rI (MY a0 a1)]:=by
 have f:=me (MY.eq_1 a0 a1);refine so func310 ntmps310 ?_;refine lp2 (Na.eq_2 a0 a1) (fun J U=>YM 26 [eI 0 a0,eL 1 16 a1 ZO.row,(5,.one (.sref 5 0 0 J.length),[.arr false 1 (J.map iR)]),eI 6 (U:Int)]) (fun n1 J U=>a1.length<n1+U/\U<=a1.length/\J.length<=0+1*U) (a1.length+1) ([]:List Int) 0 (fun p1 J U e1 j1=>?_) (h0:=wkS [((5,0),some (7,0))] []);refine cFf e1 ?_ ?_<;>intro k2 h1 e1
 ·have i1:=ix h1;have m2:=ml a1 (k2 1 _ rfl);have c1:=sl 2314240 a1 u0;have w1:=wr U;simp[i1,ZB];refine rpS ?_;refine cRs (EK a0 (nth a1 U) (sg (Zi u0))) ?_;exact nx2 e1 (hw:=Yk [((5,0),some (22,0))] [] rfl zAe)
 have c2:=sl 2314240 a1 u0;have f:=ms f e1;refine cRs (Rq a0 J zBO) ?_;exact rt [.tmp 4] f
theorem Fu(a0:ZD)(a1:Int)(a2:List Int)(a3:Int)(u0:Sm 2310144 a0)(u1:Sm 2310144 a2):So 273 [a0.row,rI a1,rL 1 iR a2,rI a3] [(XX a0 a1 a2 a3).1.row,rB (XX a0 a1 a2 a3).2]:=by
 have f:=me (XX.eq_1 a0 a1 a2 a3);refine so func273 ntmps273 ?_;refine lp2 (K6.eq_2 a0 a2) (fun J U=>YM 53 [eL 2 1 a2 iR,eI 3 a3,eX 4 (a0.row.map .d),(8,.one (.bptr 8 0),[.box [.d (.int .i64 0),.d (.int .i64 0),.nil 16,.d (.int .i64 0)]]),(10,.one (.bptr 10 0),[.box [.d (.int .i64 a0.Id),.d (.int .i64 a1),.sref 10 3 0 U.length,.d (.int .i64 0)],.none,.none,.arr false 16 (U.map ZO.row)]),eI 11 (J:Int)]) (fun n1 J U=>a2.length<n1+J/\J<=a2.length/\U.length<=J/\(∀x∈U,Sm 2310144 x)) (a2.length+1) 0 ([]:List ZO) (fun p1 J U e1 j1=>?_) (hI:=by exact⟨zAC,zAC,Nat.zero_le _,Nat.zero_le _,fun x h=>by cases h⟩) (h0:=wkS [((10,3),none)] []);try dsimp only at j1
 refine cF e1 ?_ ?_<;>intro k2 h1 e1
 ·have i1:=ix h1;have m2:=ml a2 (k2 2 _ rfl);have c1:=sl 2310144 a2 (an u0 u1);have w1:=wr J;refine dIo mixed ?_;simp[i1,ZB];refine rpS ?_;refine cRs (j8 a0 (nth a2 J)) ?_;refine cF e1 ?_ ?_<;>intro k4 h2 e1
  ·exact rtO [.cell 8 287,.tmp 9] (ms f e1)
  refine dIo mixed ?_;have i2:(Y1 a0 (nth a2 J)).toNat<a0.ZE.length:=by have:=PB a0 (nth a2 J);exact il
  simp[i2,ZB];refine rpS ?_;refine cRs (YN.rd (Qm (nth a0.ZE (Y1 a0 (nth a2 J)).toNat) (sg (Zi (ZD.YD u0))))) ?_;refine eIs ?_;refine eIs ?_;exact nx2 e1 (hI:=by((try dsimp only);refine⟨zAC,zAC,zAC,by simp;omega,fun x hx=>?_⟩;rcases List.mem_append.1 hx with hx|hx;exact j1.2.2.2.2 x hx;have e:=List.mem_singleton.1 hx;subst e;exact Zi (ZD.YD u0))) (hw:=Yk [((10,3),some (41,0))] [] rfl zAe)
 have c2:=sl 2310144 a2 (an u0 u1);have f:=ms f e1;refine cF f ?_ ?_<;>intro k6 h3 f
 ·exact rtO [.cell 8 287,.tmp 9] f
 refine cRs (IS a3 U zBY) ?_;exact rtO [.cell 8 287,.tmp 9] f
theorem GP(a0:Yy)(a1:Int)(u0:Sm 2310144 a0):Sa 311 [a0.row,rI a1] [rB (z7 a0 a1)]:=by
 have f:=me (z7.eq_1 a0 a1);refine so func311 ntmps311 ?_;refine lp1 (zN.eq_2 a0) (fun J=>YM 33 [eI 1 a1,eX 2 (a0.row.map .d),eI 5 (J:Int)]) (fun n1 J=>a0.ZE.length<n1+J/\J<=a0.ZE.length) (a0.ZE.length+1) 0 (fun p1 J e1 j1=>?_);refine cFf e1 ?_ ?_<;>intro k2 h1 e1
 ·have i1:=ix h1;have m2:=ml a0.ZE (k2 8 _ rfl);have c1:=sl 2310144 a0.ZE u0;have w1:=wr J;simp[i1,ZB];refine rpS ?_;refine cRs (G4 (nth a0.ZE J)) ?_;refine cF e1 ?_ ?_<;>intro k3 h2 e1
  ·exact rt [.tmp 4] (ms f e1)
  exact ny1 w1 e1
 have f:=ms f e1;refine dIs mixed ?_;refine cRs (Y8 (a0.ZE.length:Int) 1 8) ?_;refine cGs (fun gg=>IS a1 a0.ZE (sg (Yy.YD u0))) ?_;exact rt [.tmp 4] f
theorem IZ(a0:ZD)(a1:Yy)(a2:Int)(u0:Sm 2306048 a0)(u1:Sm 2306048 a1):Sd 274 [a0.row,a1.row,rI a2] [(Xw a0 a1 a2).1.row,rB (Xw a0 a1 a2).2]:=by
 have f:=me (Xw.eq_1 a0 a1 a2);refine soD func274 ntmps274 ?_;refine cDs [] (QA a0 (sg u0)) ?_;refine cRs (GP a1 a2 (sg u1)) ?_;refine lp4 (K1.eq_2 a1) (fun J U ib iq=>YM 52 [eX 3 (a0.row.map .d),eX 4 (a1.row.map .d),(6,.one (.bptr 6 0),[.box [.d (.int .i64 0),.nil 16]]),(8,.one (.bptr 8 0),[.box [.d (.int .i64 ib),.sref 8 2 0 iq.length],.none,.arr true 16 (iq.map ZO.row)]),eB 9 J,eI 10 (U:Int)]) (fun n1 J U ib iq=>a1.ZE.length<n1+U/\U<=a1.ZE.length/\(J=true->a1.ZE.length<=8)/\Sm (2306048+U) (ZD.mk ib iq)) (a1.ZE.length+1) (z7 a1 a2&&(a1.To==a0.Id)) 0 a0.Id a0.ZE (fun p1 J U ib iq e1 j1=>?_) (hI:=by exact⟨zAC,zAC,Nat.zero_le _,fun h=>Iv a1 a2 (by simp at h;exact h.1),u0⟩) (h0:=wkS [((8,2),some (14,1))] []);try dsimp only at j1
 refine cF e1 ?_ ?_<;>intro k2 h1 e1
 ·have i1:U<a1.ZE.length:=zBq;have m2:=ml a1.ZE (k2 27 _ rfl);have c1:=sl 2306048 a1.ZE (an u0 u1);have w1:=wr U;refine dIo mixed ?_;simp[i1,ZB];refine rpS ?_;refine cDs [] (OE (ZD.mk ib iq) (nth a1.ZE U) zBK zBK) ?_;exact nx4 e1 (hI:=by(have hc:=h1;simp at hc;(try dsimp only);refine⟨zAC,zAC,zAC,fun _=>j1.2.2.2.1 hc.2,?_⟩;exact TR (n:=2306048+U) j1.2.2.2.2 (ZK (n:=2306048) zAC (Zi (Yy.YD u1))))) (hw:=Yk [((8,2),some (42,1))] [] rfl zAe)
 have c2:=sl 2306048 a1.ZE (an u0 u1);have f:=ms f e1;refine cF f ?_ ?_<;>intro k4 h2 f
 ·refine cDs [] (QA a0 (sg u0)) ?_;exact rtD [.cell 6 44,.tmp 7] f
 exact rtD [.cell 6 44,.tmp 7] f
theorem Cm(a0:ZD)(a1:Int)(u0:Sm 2322432 a0):Sd 275 [a0.row,rI a1] [(ql a0 a1).1.row,rB (ql a0 a1).2]:=by
 have f:=me (ql.eq_1 a0 a1);refine soD func275 ntmps275 ?_;refine cRs (j8 a0 a1) ?_;refine cF f ?_ ?_<;>intro k1 h1 f
 ·refine cDs [] (QA a0 (sg u0)) ?_;exact rtD [.cell 4 44,.tmp 5] f
 refine lp2 (y5.eq_2 a0 a1) (fun J U=>YM 41 [eX 2 (a0.row.map .d),(4,.one (.bptr 4 0),[.box [.d (.int .i64 0),.nil 16]]),eI 6 (Y1 a0 a1),(7,.one (.bptr 7 0),[.box [.d (.int .i64 a0.Id),.sref 7 2 0 U.length],.none,.arr true 16 (U.map ZO.row)]),eI 8 (J:Int)]) (fun n1 J U=>a0.ZE.length<n1+J/\J<=a0.ZE.length/\U.length<=0+1*J) (a0.ZE.length+1) 0 ([]:List ZO) (fun p1 J U e1 j1=>?_) (h0:=wkS [((7,2),none)] []);refine cF e1 ?_ ?_<;>intro k3 h2 e1
 ·have i1:=ix h2;have m2:=ml a0.ZE (k3 21 _ rfl);have c1:=sl 2322432 a0.ZE u0;have w1:=wr J;refine cF e1 ?_ ?_<;>intro k4 h3 e1
  ·refine okD fun k5=>?_;refine drJ [38] mixed ?_;simp[i1,ZB];refine rpS ?_;refine cDs [true,true,true,false,false] (Qm (nth a0.ZE J) (sg (Zi (ZD.YD u0)))) ?_;refine qv ?_;simp;refine W9 (im:=U.map ZO.row) (news:=([nth a0.ZE J]:List ZO).map ZO.row) (l1:=[(7,2)]) (l2:=[(36,3),(36,4),(36,14),(36,15)]) (size:=16) ?_;simp;exact nx2 e1 (hw:=Yk [((7,2),some (38,0))] [] rfl zAe)
  exact ny2 w1 e1
 have c2:=sl 2322432 a0.ZE u0;exact rtD [.cell 4 44,.tmp 5] (ms f e1)
theorem D9(a0 a1:ZD)(a2:List Int)(a3:Int)(u0:Sm 2301952 a0)(u1:Sm 2301952 a1)(u2:Sm 2301952 a2):Sd 226 [a0.row,a1.row,rL 1 iR a2,rI a3] [(Q8 a0 a1 a2 a3).1.row,(Q8 a0 a1 a2 a3).2.1.row,rB (Q8 a0 a1 a2 a3).2.2]:=by
 have f:=me (Q8.eq_1 a0 a1 a2 a3);refine soD func226 ntmps226 ?_;refine cRs (Fu a0 a1.Id a2 a3 zB7 zB7) ?_;refine cDs [] (IZ a1 (XX a0 a1.Id a2 a3).1 a3 zCA zCA) ?_;refine cDs [] (QA a0 (sg u0)) ?_;refine lp4 (xZ.eq_2 a0 a1 a2 a3) (fun J U ib iq=>YM 72 [eL 2 1 a2 iR,eX 4 (a0.row.map .d),eX 5 (a1.row.map .d),(8,.one (.bptr 8 0),[.box [.d (.int .i64 0),.nil 16]]),(9,.one (.bptr 9 0),[.box [.d (.int .i64 0),.nil 16]]),eB 12 (XX a0 a1.Id a2 a3).2,(13,.one (.bptr 13 0),[.box [.d (.int .i64 (Xw a1 (XX a0 a1.Id a2 a3).1 a3).1.Id),.sref 32 1 0 (Xw a1 (XX a0 a1.Id a2 a3).1 a3).1.ZE.length]]),eB 14 J,(15,.one (.bptr 15 0),[.box [.d (.int .i64 ib),.sref 15 2 0 iq.length],.none,.arr true 16 (iq.map ZO.row)]),eI 16 (U:Int),(32,.any,[.none,.arr true 16 ((Xw a1 (XX a0 a1.Id a2 a3).1 a3).1.ZE.map ZO.row)])]) (fun n1 J U ib iq=>a2.length<n1+U/\U<=a2.length/\Sm 2301952 (ZD.mk ib iq)) (a2.length+1) (Xw a1 (XX a0 a1.Id a2 a3).1 a3).2 0 a0.Id a0.ZE (fun p1 J U ib iq e1 j1=>?_) (hI:=by exact⟨zAC,zAC,Nat.zero_le _,u0⟩) (h0:=wkS [((15,2),some (36,1))] []);try dsimp only at j1
 refine cF e1 ?_ ?_<;>intro k2 h1 e1
 ·have i1:U<a2.length:=zBq;have m2:=ml a2 (k2 2 _ rfl);have c1:=sl 2301952 a2 (an u0 (an u1 u2));have w1:=wr U;refine dIo mixed ?_;simp[i1,ZB];refine rpS ?_;refine cDs [] (Cm (ZD.mk ib iq) (nth a2 U) (by exact ZK (n:=2301952) zAF j1.2.2.2)) ?_;exact nx4 e1 (hI:=by((try dsimp only);refine⟨zAC,zAC,zAC,?_⟩;exact LN j1.2.2.2)) (hw:=Yk [((15,2),some (55,1))] [] rfl zAe)
 have c2:=sl 2301952 a2 (an u0 (an u1 u2));have f:=ms f e1;refine cF f ?_ ?_<;>intro k4 h2 f
 ·refine okD fun k5=>?_;refine dIs mixed ?_;refine cDs [] (QA a0 (sg u0)) ?_;refine cDs [] (QA a1 (sg u1)) ?_;exact rtD [.cell 8 44,.cell 9 44,.tmp 10] f
 refine pX [(8,8),(9,9),(13,13),(15,15)] mixed zAZ zAZ zAZ zAZ ?_;simp;exact rtD [.cell 8 44,.cell 9 44,.tmp 10] f
theorem BZ(a0:ZF)(a1 a2 a3:Int)(u0:Sm 2297856 a0):Sd 154 [a0.row,rI a1,rI a2,rI a3] [(Vq a0 a1 a2 a3).1.row,rB (Vq a0 a1 a2 a3).2]:=by
 have f:=me (Vq.eq_1 a0 a1 a2 a3);refine soD func154 ntmps154 ?_;refine cDs [false,false,false,true,true,false,false,true,false,false,true,false] (QT a0 (sg u0)) ?_;refine cRs (kC a0.Frame.Methods a0.Frame.Now) ?_;refine cRs (WJ a0 a1) ?_;refine cGs (fun gg=>WJ a0 a2) ?_;have c1:=sl 2297856 a0.ZA u0;have w1:IntKind.i64.wrap ((a0.ZA.length:Int)-1)=(a0.ZA.length:Int)-1:=YQ zAC zAC;refine cFo f ?_ ?_<;>intro k1 h1 f
 ·have q1:=h1;try simp[w1,Q7,Ye]at q1
  simp;exact rtD [.cell 8 33,.tmp 9] f
 have q1:=h1;try simp[w1,Q7,Ye]at q1
 simp;refine dIo mixed ?_;have i1:=ik a1.toNat a0.ZA
 have i2:=ik a2.toNat a0.ZA;simp[i1,ZB,i2];refine rpS ?_;refine cDf i1 [] (D9 (nth a0.ZA a1.toNat) (nth a0.ZA a2.toNat) ([a3]:List Int) (Zp a0.Frame.Methods a0.Frame.Now) (sg (Zi (ZF.Z6 u0))) (sg (Zi (ZF.Z6 u0))) zAr) ?_;refine IV (t:=16) (j:=7) (i:=a1.toNat) (size:=2) (rows:=a0.ZA.map ZD.row) (ds:=(Q8 (nth a0.ZA a1.toNat) (nth a0.ZA a2.toNat) ([a3]:List Int) (Zp a0.Frame.Methods a0.Frame.Now)).1.row) (L:=[(58,1)]) ?_;simp;refine rpS ?_;refine IV (t:=16) (j:=7) (i:=a2.toNat) (size:=2) (rows:=(a0.ZA.set a1.toNat (Q8 (nth a0.ZA a1.toNat) (nth a0.ZA a2.toNat) ([a3]:List Int) (Zp a0.Frame.Methods a0.Frame.Now)).1).map ZD.row) (ds:=(Q8 (nth a0.ZA a1.toNat) (nth a0.ZA a2.toNat) ([a3]:List Int) (Zp a0.Frame.Methods a0.Frame.Now)).2.1.row) (L:=[(58,3)]) ?_;simp;refine rpS ?_;exact rtD [.cell 8 33,.tmp 9] f
theorem Eg(a0:ZD)(a1:Int)(u0:Sm 2326528 a0):So 227 [a0.row,rI a1] [(jG a0 a1).1.row,rI (jG a0 a1).2]:=by
 have f:=me (jG.eq_1 a0 a1);refine so func227 ntmps227 ?_;refine lp3 (J8.eq_2 a0 a1) (fun J U ib=>YM 42 [eI 1 a1,eX 2 (a0.row.map .d),(4,.one (.bptr 4 0),[.box [.d (.int .i64 0),.nil 16]]),(6,.one (.bptr 6 0),[.box [.d (.int .i64 a0.Id),.sref 6 2 0 ib.length],.none,.arr false 16 (ib.map ZO.row)]),eI 7 J,eI 8 (U:Int)]) (fun n1 J U ib=>a0.ZE.length<n1+U/\U<=a0.ZE.length/\ib.length<=0+1*U) (a0.ZE.length+1) 0 0 ([]:List ZO) (fun p1 J U ib e1 j1=>?_) (h0:=wkS [((6,2),none)] []);refine cFf e1 ?_ ?_<;>intro k2 h1 e1
 ·have i1:=ix h1;have m2:=ml a0.ZE (k2 14 _ rfl);have c1:=sl 2326528 a0.ZE u0;have w1:=wr U;simp[i1,ZB];refine rpS ?_;refine cF e1 ?_ ?_<;>intro k3 h2 e1
  ·exact ny3 w1 e1
  refine dIo mixed ?_;simp[i1,ZB];refine rpS ?_;refine cRs (YN.rd (Qm (nth a0.ZE U) (sg (Zi (ZD.YD u0))))) ?_;refine eIs ?_;refine eIs ?_;exact nx3 e1 (hw:=Yk [((6,2),some (38,0))] [] rfl zAe)
 have c2:=sl 2326528 a0.ZE u0;exact rtO [.cell 4 44,.tmp 5] (ms f e1)
theorem Ef(a0:ZF)(a1:Int)(u0:Sm 2318336 a0):So 155 [a0.row,rI a1] [(jb a0 a1).1.row,rB (jb a0 a1).2]:=by
 have f:=me (jb.eq_1 a0 a1);refine so func155 ntmps155 ?_;refine cOs (YN.own (QT a0 (sg u0))) ?_;refine cRs (WJ a0 a1) ?_;have c1:=sl 2318336 a0.ZA u0;have w1:IntKind.i64.wrap ((a0.ZA.length:Int)-1)=(a0.ZA.length:Int)-1:=YQ zAC zAC;refine cFo f ?_ ?_<;>intro k1 h1 f
 ·have q1:=h1;try simp[w1,Q7,Ye]at q1
  simp;exact rtO _ f
 have q1:=h1;try simp[w1,Q7,Ye]at q1
 simp;refine dIo mixed ?_;have i1:=ik a1.toNat a0.ZA
 simp[i1,ZB];refine rpS ?_;refine cR (Eg (nth a0.ZA a1.toNat) a0.Frame.Now (sg (Zi (ZF.Z6 u0)))) ?_;simp[i1,ZB];refine rpS ?_;exact rtO _ f
theorem Ff(a0:List Z9)(a1:Int):Sa 312 [rL 4 Z9.row a0,rI a1] [rI (qz a0 a1)]:=by
 have f:=me (qz.eq_1 a0 a1);refine so func312 ntmps312 ?_;refine lp1 (Wb.eq_2 a0 a1) (fun J=>YM 20 [eL 0 4 a0 Z9.row,eI 1 a1,eI 5 (J:Int)]) (fun n1 J=>a0.length<n1+J/\J<=a0.length) (a0.length+1) 0 (fun p1 J e1 j1=>?_);refine cFf e1 ?_ ?_<;>intro k2 h1 e1
 ·have i1:=ix h1;have m2:=ml a0 (k2 0 _ rfl);have w1:=wr J;simp[i1,ZB];refine rpS ?_;refine cF e1 ?_ ?_<;>intro k3 h2 e1
  ·exact rt [.tmp 4] (ms f e1)
  exact ny1 w1 e1
 exact rt [.tmp 4] (ms f e1)
theorem Al(a0:List Z9)(a1:Int):Sa 276 [rL 4 Z9.row a0,rI a1] [rI (Gj a0 a1)]:=by
 have f:=me (Gj.eq_1 a0 a1);refine so func276 ntmps276 ?_;refine cRs (Ff a0 a1) ?_;refine cFt f ?_ ?_<;>intro k1 h1 f
 ·exact rt [.tmp 4] f
 have i1:(qz a0 a1).toNat<a0.length:=by have:=Ft a0 a1;exact il
 simp[i1,ZB];refine rpS ?_;exact rt [.tmp 4] f
theorem Rc(a0:ZT)(a1:Int):Sa 228 [a0.row,rI a1] [rB (SX a0 a1)]:=by
 have f:=me (SX.eq_1 a0 a1);refine so func228 ntmps228 ?_;refine cRs (Jq a0.Zz a1) ?_;refine dIs mixed ?_;refine gIf ?_ ?_<;>intro G
 ·have i1:(Yt a0.Zz a1).toNat<a0.Zz.length:=by have:=Jw a0.Zz a1;exact il
  simp[i1,ZB,G];refine rpG ?_;refine cGg (fun gg=>Al a0.Methods (nth a0.Zz (Yt a0.Zz a1).toNat).Method) ?_;exact rtg [.tmp 4] f
 ·refine sGo ?_;simp;refine rpG ?_;exact rtg [.tmp 4] f
theorem Da(a0:ZF)(a1 a2:Int)(a3:ZL)(u0:Sm 2314240 a0)(u1:Sm 2314240 a3):Sd 156 [a0.row,rI a1,rI a2,a3.row] [(WK a0 a1 a2 a3).1.row,rB (WK a0 a1 a2 a3).2]:=by
 have f:=me (WK.eq_1 a0 a1 a2 a3);refine soD func156 ntmps156 ?_;refine cDs [false,false,false,true,true,false,false,true,false,false,true,false] (QT a0 (sg u0)) ?_;refine cRs (WJ a0 a1) ?_;refine cGs (fun gg=>Rc a0.Frame a2) ?_;have c1:=sl 2314240 a0.ZA (an u0 u1);have w1:IntKind.i64.wrap ((a0.ZA.length:Int)-1)=(a0.ZA.length:Int)-1:=YQ zAC zAC;refine cFo f ?_ ?_<;>intro k1 h1 f
 ·have q1:=h1;try simp[w1,Q7,Ye]at q1
  simp;refine EY (rv:=[.cell 8 33,.tmp 9]) rfl ?_;simp[f.h];all_goals((try simp only[q3,true_and]);(try(rintro r (⟨a,_,rfl⟩|rfl) x hx<;>simp at hx<;>subst hx<;>rfl)))
 have q1:=h1;try simp[w1,Q7,Ye]at q1
 simp;refine cRs (HZ a0 a2 a3 0 10000 (sg u0) (sg u1)) ?_;refine cFo f ?_ ?_<;>intro k2 h2 f
 ·have q2:=h2;try simp at q2
  simp;refine EY (rv:=[.cell 8 33,.tmp 9]) rfl ?_;simp[f.h];all_goals((try simp only[q3,true_and]);(try(rintro r (⟨a,_,rfl⟩|rfl) x hx<;>simp at hx<;>subst hx<;>rfl)))
 have q2:=h2;try simp at q2
 simp;refine dIo mixed ?_;have i1:=ik a1.toNat a0.ZA
 simp[i1,ZB];refine rpS ?_;refine cDs [] (OE (nth a0.ZA a1.toNat) (QZ a0 a2 a3 0 10000).1 zAm zAm) ?_;refine cFo f ?_ ?_<;>intro k4 h3 f
 ·have q3:=h3;try simp at q3
  simp;refine EY (rv:=[.cell 8 33,.tmp 9]) rfl ?_;simp[f.h];all_goals((try simp only[q3,true_and]);(try(rintro r (⟨a,_,rfl⟩|rfl) x hx<;>simp at hx<;>subst hx<;>rfl)))
 have q3:=h3;try simp at q3
 simp[i1,ZB];refine rpS ?_;refine IV (t:=16) (j:=7) (i:=a1.toNat) (size:=2) (rows:=a0.ZA.map ZD.row) (ds:=(Qj (nth a0.ZA a1.toNat) (QZ a0 a2 a3 0 10000).1).1.row) (L:=[(46,1)]) ?_;have c2:=sl 2314240 a0.Ym (an u0 u1)
 simp[Ki (x:=(Qj (nth a0.ZA a1.toNat) (QZ a0 a2 a3 0 10000).1).1) rfl,c1,i1,ZB,XH];refine rpS ?_;refine EY (rv:=[.cell 8 33,.tmp 9]) rfl ?_;simp[f.h];all_goals((try simp only[q3,true_and]);(try(rintro r (⟨a,_,rfl⟩|rfl) x hx<;>simp at hx<;>subst hx<;>rfl)))
theorem O9(a0:ZF)(u0:Sm 2330624 a0):Sd 229 [a0.row] [rL 1 iR (YX a0)]:=by
 have f:=me (YX.eq_1 a0);refine soD func229 ntmps229 ?_;refine lp2 (J7.eq_2 a0) (fun J U=>YM 39 [eX 1 (a0.row.map .d),(3,.one (.sref 3 0 0 J.length),[.arr false 1 (J.map iR)]),eI 4 (U:Int)]) (fun n1 J U=>a0.Frame.ZC.length<n1+U/\U<=a0.Frame.ZC.length/\J.length<=0+1*U) (a0.Frame.ZC.length+1) ([]:List Int) 0 (fun p1 J U e1 j1=>?_) (h0:=wkS [((3,0),some (6,0))] []);refine cFf e1 ?_ ?_<;>intro k2 h1 e1
 ·have i1:=ix h1;have m2:=ml a0.Frame.ZC (k2 10 _ rfl);have c1:=sl 2330624 a0.Frame.ZC u0;have w1:=wr U;simp[i1,ZB];refine rpS ?_;refine cRs (L6 a0.XA (nth a0.Frame.ZC U).Id) ?_;refine cGs (fun gg=>Rc a0.Frame (nth a0.Frame.ZC U).Key) ?_;refine cF e1 ?_ ?_<;>intro k3 h2 e1
  ·exact nx2 e1 (hw:=Yk [((3,0),some (37,0))] [] rfl zAe)
  exact ny2 w1 e1
 exact rtD [.tmp 2] (ms f e1)
theorem JS(h:b)(k:a:=by(intros;first|omega|with_unfolding_all (first|first|omega|(have f0:0<=(ZH a0 a1).1:=(by first|omega|(simp at*;omega));have fi:=XO a0 a1 f0;omega)|(have f0:0<=(ZH a0 a1).1:=(by first|omega|(simp at*;omega));have fi:=XO a0 a1 f0;have ll:=kE (nth a0.ZA (ZH a0 a1).1.toNat) (Zp a0.Frame.Methods a0.Frame.Now);omega)|(have fl:=Kf a0;have fm:=YA (ZT.Yv (ZF.Yx u0));(try dsimp only at*);omega))|((try simp only[Yd,show ∀x,IntKind.i64.wrap x=W x from fun _=>rfl]at*);omega))):a/\b:=⟨k,h⟩
theorem IL(a0:ZF)(a1 a2:Int)(u0:Sm 2310144 a0):Sd 157 [a0.row,rI a1,rI a2] [(zF a0 a1 a2).1.row,rB (zF a0 a1 a2).2]:=by
 have f:=me (zF.eq_1 a0 a1 a2);refine soD func157 ntmps157 ?_;refine cDs [false,false,false,true,true,false,false,true,false,false,true,false] (QT a0 (sg u0)) ?_;refine cRs (Np a0 a1) ?_;refine cRs (kC a0.Frame.Methods a0.Frame.Now) ?_;refine cRs (YN.rd (O9 a0 (sg u0))) ?_;refine cGs (fun gg=>L6 a0.Ym a1) ?_;refine cFt f ?_ ?_<;>intro k1 h1 f
 ·exact rtD [.cell 6 33,.tmp 7] f
 have i1:(ZH a0 a1).1.toNat<a0.ZA.length:=zAb;simp[i1,ZB];repeat with_reducible refine JS ?_
 refine cR (YN.rd (SQ (nth a0.ZA (ZH a0 a1).1.toNat) (Zp a0.Frame.Methods a0.Frame.Now) (sg (Zi (ZF.Z6 u0))))) ?_;have i2:(ZH a0 a1).2.toNat<(Yp (nth a0.ZA (ZH a0 a1).1.toNat) (Zp a0.Frame.Methods a0.Frame.Now)).length:=zAb
 have i3:(ZH a0 a1).2.toNat<(nth a0.ZA (ZH a0 a1).1.toNat).ZE.length:=zAb;simp[i2,ZB,i1,i3];repeat with_reducible refine JS ?_
 refine lp2 (JH.eq_2 a0 a1 a2) (fun J U=>YM 140 [eI 2 a2,eX 3 (a0.row.map .d),(6,.one (.bptr 6 0),[.box [.nil 5,.nil 3,.nil 4,.d (.int .i64 0),.d (.int .i64 0),.nil 7,.nil 1,.nil 2,.nil 1,.nil 1,.d (.int .i64 0),.nil 1]]),(8,.one (.bptr 8 0),[.box [.sref 21 0 0 a0.Frame.Zz.length,.sref 21 1 0 a0.Frame.ZC.length,.sref 21 2 0 a0.Frame.Methods.length,.d (.int .i64 a0.Frame.Jb),.d (.int .i64 a0.Frame.Now),.sref 21 5 0 a0.Zd.length,.sref 21 6 0 a0.YW.length,.sref 21 7 0 a0.ZA.length,.sref 21 8 0 a0.XW.length,.sref 21 9 0 a0.XA.length,.d (.int .i64 a0.Next),.sref 21 11 0 a0.Ym.length]]),eI 9 (ZH a0 a1).1,eI 10 (ZH a0 a1).2,eL 12 1 (YX a0) iR,eI 13 (nth (Yp (nth a0.ZA (ZH a0 a1).1.toNat) (Zp a0.Frame.Methods a0.Frame.Now)) (ZH a0 a1).2.toNat),(14,.one (.bptr 14 0),[.box [.d (.int .i64 ((nth (nth a0.ZA (ZH a0 a1).1.toNat).ZE (ZH a0 a1).2.toNat).ZN.ZM.length:Int)),.d (.int .i64 (Zp a0.Frame.Methods a0.Frame.Now)),.d (.int .i64 (nth (Yp (nth a0.ZA (ZH a0 a1).1.toNat) (Zp a0.Frame.Methods a0.Frame.Now)) (ZH a0 a1).2.toNat)),.nil 2,.sref 14 5 0 U.length],.none,.none,.none,.none,.arr false 5 (U.map ZX.row)]),eI 15 (J:Int),(21,.any,[.arr false 5 (a0.Frame.Zz.map Yg.row),.arr false 3 (a0.Frame.ZC.map Za.row),.arr false 4 (a0.Frame.Methods.map Z9.row),.none,.none,.arr false 7 (a0.Zd.map YL.row),.arr false 1 (a0.YW.map iR),.arr true 2 (a0.ZA.map ZD.row),.arr false 1 (a0.XW.map iR),.arr false 1 (a0.XA.map iR),.none,.arr false 1 (a0.Ym.map iR)])]) (fun n1 J U=>(YX a0).length<n1+J/\J<=(YX a0).length/\U.length<=0+1*J) ((YX a0).length+1) 0 ([]:List ZX) (fun p1 J U e1 j1=>?_) (h0:=wkS [((14,5),none)] []);try dsimp only at j1
 refine cF e1 ?_ ?_<;>intro k3 h2 e1
 ·have i4:=ix h2;have m2:=ml (YX a0) (k3 12 _ rfl);have w1:=wr J;refine dIo mixed ?_;simp[i4,ZB];repeat with_reducible refine JS ?_
  refine cRs (SY a0.Frame.Zz a0.Frame.ZC (ZX.mk (nth (YX a0) J) 0 a2 (nth (Yp (nth a0.ZA (ZH a0 a1).1.toNat) (Zp a0.Frame.Methods a0.Frame.Now)) (ZH a0 a1).2.toNat) 0) (sg (ZT.XD (ZF.Yx u0))) (sg (ZT.Yv (ZF.Yx u0)))) ?_;refine cFt e1 ?_ ?_<;>intro k5 h3 e1
  ·exact rtD [.cell 6 33,.tmp 7] (ms f e1)
  simp;repeat with_reducible refine JS ?_
  exact nx2 e1 (hw:=Yk [((14,5),some (111,0))] [] rfl zAe)
 have f:=ms f e1;refine dIo mixed ?_;simp[i1,ZB,i3];repeat with_reducible refine JS ?_
 refine cDs [] (Ou (nth (nth a0.ZA (ZH a0 a1).1.toNat).ZE (ZH a0 a1).2.toNat).ZN (ZZ.mk ((nth (nth a0.ZA (ZH a0 a1).1.toNat).ZE (ZH a0 a1).2.toNat).ZN.ZM.length:Int) (Zp a0.Frame.Methods a0.Frame.Now) (nth (Yp (nth a0.ZA (ZH a0 a1).1.toNat) (Zp a0.Frame.Methods a0.Frame.Now)) (ZH a0 a1).2.toNat) ([]:List Xk) U) zBE zBE) ?_;refine drJ [] mixed ?_;simp[i1,ZB,i3];repeat with_reducible refine JS ?_
 refine mO (t:=21) (j:=7) (i:=(ZH a0 a1).1.toNat) (c:=1) (k':=(ZH a0 a1).2.toNat) (q:=14) (n:=16) (size:=2) (s:=(nth a0.ZA (ZH a0 a1).1.toNat).ZE.map ZO.row) (rows:=a0.ZA.map ZD.row) (ds:=(QV (nth (nth a0.ZA (ZH a0 a1).1.toNat).ZE (ZH a0 a1).2.toNat).ZN (ZZ.mk ((nth (nth a0.ZA (ZH a0 a1).1.toNat).ZE (ZH a0 a1).2.toNat).ZN.ZM.length:Int) (Zp a0.Frame.Methods a0.Frame.Now) (nth (Yp (nth a0.ZA (ZH a0 a1).1.toNat) (Zp a0.Frame.Methods a0.Frame.Now)) (ZH a0 a1).2.toNat) ([]:List Xk) U)).1.row) (L:=[(125,0),(125,1)]) rfl rfl rfl rfl (by simp;rfl) zAE zAE (by simp[i1,i3]) (by simp[ZB,XH,i1,i3]) (by simp[i1,i3]) zAE zAE zAE zAE zAE zAE ?_;simp[Ki (x:=ZD.mk (nth a0.ZA (ZH a0 a1).1.toNat).Id ((nth a0.ZA (ZH a0 a1).1.toNat).ZE.set (ZH a0 a1).2.toNat (ZO.mk (nth (nth a0.ZA (ZH a0 a1).1.toNat).ZE (ZH a0 a1).2.toNat).Id (nth (nth a0.ZA (ZH a0 a1).1.toNat).ZE (ZH a0 a1).2.toNat).XL (nth (nth a0.ZA (ZH a0 a1).1.toNat).ZE (ZH a0 a1).2.toNat).Doc (nth (nth a0.ZA (ZH a0 a1).1.toNat).ZE (ZH a0 a1).2.toNat).Sig (QV (nth (nth a0.ZA (ZH a0 a1).1.toNat).ZE (ZH a0 a1).2.toNat).ZN (ZZ.mk ((nth (nth a0.ZA (ZH a0 a1).1.toNat).ZE (ZH a0 a1).2.toNat).ZN.ZM.length:Int) (Zp a0.Frame.Methods a0.Frame.Now) (nth (Yp (nth a0.ZA (ZH a0 a1).1.toNat) (Zp a0.Frame.Methods a0.Frame.Now)) (ZH a0 a1).2.toNat) ([]:List Xk) U)).1))) rfl,ZB,XH,i1,i3];repeat with_reducible refine JS ?_
 exact rtD [.cell 6 33,.tmp 7] f
end Go.Proofs.YtdffgedmahdehaaGreat
