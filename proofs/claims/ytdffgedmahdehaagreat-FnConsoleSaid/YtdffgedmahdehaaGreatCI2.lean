/- Contracts of the functions Gi the abstract machine, part I2. No condition. -/
import Derived.Test.YtdffgedmahdehaaGreatCI1
namespace Go.Proofs.YtdffgedmahdehaaGreat
open Tryz
open Go.Vm Go.Mo
set_option maxHeartbeats 1000000
set_option maxRecDepth 100000
set_option linter.unusedSimpArgs false
set_option linter.unusedVariables false
variable{a b:Prop}
theorem Sj(h:b)(k:a:=by(intros;first|omega|with_unfolding_all (first|(first|omega|(simp_all;done)|(simp_all;omega)))|((try simp only[Yd,show ∀x,IntKind.i64.wrap x=W x from fun _=>rfl]at*);omega))):a/\b:=⟨k,h⟩
theorem Ya(h:b)(k:a:=by(intros;first|omega|with_unfolding_all (first|(first|omega|(simp_all;done)|(simp_all;omega)))|(simp_all;done)|(simp_all;omega)|grind|((try simp only[Yd,show ∀x,IntKind.i64.wrap x=W x from fun _=>rfl]at*);omega))):a/\b:=⟨k,h⟩
theorem I0(a0:ZT)(a1:Zh)(a2:List (List Int))(u0:Sm 2285568 a0)(u1:Sm 2285568 a1)(u2:Sm 2285568 a2)(u3:pw a1<=2097152):So 325 [a0.row,a1.row,rL 1 (slR 1 iR) a2] [rL 3 ZV.row (YB a0 a1 a2)]:=by
 have f:=me (YB.eq_1 a0 a1 a2);refine so func325 ntmps325 ?_;refine lp2 (yS.eq_2 a0 a1 a2) (fun J U=>YM 79 [eL 2 1 a2 (slR 1 iR),eX 3 (a0.row.map .d),eX 4 (a1.row.map .d),(7,.one (.sref 7 0 0 J.length),[.arr false 3 (J.map ZV.row)]),eL 14 2 a1.Zg ZU.row,eI 15 (a1.Zg.length:Int),eI 16 (U:Int)]) (fun n1 J U=>a1.Zg.length<n1+U/\U<=a1.Zg.length/\J.length+cnL (fun s:ZU=>s.ZM.length) (a1.Zg.drop U)<=2097152/\Sm 2285568 J) (a1.Zg.length+1) ([]:List ZV) 0 (fun p1 J U e1 j1=>?_) (hI:=by(have u:cnL (fun s:ZU=>s.ZM.length) a1.Zg<=2097152:=u3;(try dsimp only);refine⟨zAC,zAC,zAC,?_,⟨Nat.zero_le _,fun x hx=>by cases hx⟩⟩;rw[List.drop_zero];simp only[List.length_nil];omega)) (h0:=wkS [((7,0),none)] []);try dsimp only at j1
 refine cFo e1 ?_ ?_<;>intro k2 h1 e1
 ·have q1:=h1;try simp at q1
  have i1:=ix h1;have m2:=ml a1.Zg (k2 14 _ rfl);have c1:=sl 2285568 a1.Zg (an u0 (an u1 (an u2 u3)));have w1:=wr U;simp[i1,ZB];repeat with_reducible refine Sj ?_
  refine lp2 (Jk.eq_2 a0 a1 a2 U) (fun ia iZ=>YM 79 [eL 2 1 a2 (slR 1 iR),eX 3 (a0.row.map .d),eX 4 (a1.row.map .d),(7,.one (.sref 7 0 0 ia.length),[.arr false 3 (ia.map ZV.row)]),eL 14 2 a1.Zg ZU.row,eI 15 (a1.Zg.length:Int),eI 16 (U:Int),eL 21 3 (nth a1.Zg U).ZM ZV.row,eI 22 ((nth a1.Zg U).ZM.length:Int),eI 23 (iZ:Int)]) (fun n2 ia iZ=>(nth a1.Zg U).ZM.length<n2+iZ/\iZ<=(nth a1.Zg U).ZM.length/\ia.length+((nth a1.Zg U).ZM.length-iZ)+cnL (fun s:ZU=>s.ZM.length) (a1.Zg.drop (U+1))<=2097152/\Sm 2285568 ia) ((nth a1.Zg U).ZM.length+1) J 0 (fun p2 ia iZ e2 j2=>?_) (hI:=by(have d:=sG (l:=a1.Zg) (i:=U) zAX;refine⟨?_,?_,?_,?_,j1.2.2.2.2⟩<;>((try dsimp only);omega)));try dsimp only at j2
  refine cFo e2 ?_ ?_<;>intro k4 h2 e2
  ·have q2:=h2;try simp at q2
   have i2:=ix h2;have m4:=ml (nth a1.Zg U).ZM (k4 21 _ rfl);have c2:=sl 2285568 (nth a1.Zg U).ZM (an u0 (an u1 (an u2 u3)));have w2:=wr iZ;simp[i2,ZB];repeat with_reducible refine Sj ?_
   refine dIs mixed ?_;refine cRs (V4 ia (nth (nth a1.Zg U).ZM iZ)) ?_;refine cGs (fun gg=>Eb a0.Zz (nth (nth a1.Zg U).ZM iZ) zAP zAP) ?_;refine cGs (fun gg=>Ty a0 a1 a2 (nth (nth a1.Zg U).ZM iZ) zAP zAP zAP zAP) ?_;refine cGs (fun gg=>Un a0 (nth (nth a1.Zg U).ZM iZ).Key) ?_;refine cFo e2 ?_ ?_<;>intro k6 h3 e2
   ·have q3:=h3;try simp at q3
    simp;exact ny2 (an w1 w2) e2 (hI:=by first|(refine⟨?_,?_,?_,?_,j2.2.2.2.2⟩<;>((try dsimp only);omega))|(have pk:Sm 2285568 (nth (nth a1.Zg U).ZM iZ):=Zi (ZU.XV (Zi (Zh.Xc u1)));obtain⟨q1,q2⟩:=wH (z:=hC) j2.2.2.2.2 pk zAC;refine⟨?_,?_,?_,?_,q1⟩<;>((try dsimp only);omega)))
   have q3:=h3;try simp at q3
   simp;refine lp1 (qp.eq_2 a1 U ia iZ) (fun hC=>YM 79 [eL 2 1 a2 (slR 1 iR),eX 3 (a0.row.map .d),eX 4 (a1.row.map .d),(7,.one (.sref 7 0 0 ia.length),[.arr false 3 (ia.map ZV.row)]),eX 11 ((nth (nth a1.Zg U).ZM iZ).row.map .d),eI 12 (hC:Int),eL 14 2 a1.Zg ZU.row,eI 15 (a1.Zg.length:Int),eI 16 (U:Int),eL 21 3 (nth a1.Zg U).ZM ZV.row,eI 22 ((nth a1.Zg U).ZM.length:Int),eI 23 (iZ:Int)]) (fun n3 hC=>ia.length<n3+hC/\hC<=ia.length) (ia.length+1) 0 (fun p3 hC e3 j3=>?_);try dsimp only at j3
   refine dIs mixed ?_;refine gIo ?_ ?_<;>intro G
   ·have fk:=G;have g1:=G;try simp at g1
    have i3:=ik hC ia;simp[i3,ZB,G];refine zCk ?_;refine cGo (fun gg=>Gh (nth ia hC) (nth (nth a1.Zg U).ZM iZ)) ?_;simp[G];refine zCk ?_;refine cKo e3 ?_ ?_<;>intro k9 h4 e3
    ·have q4:=h4;try simp at q4
     have i4:hC<ia.length:=by(simp at h4;omega)
     have m6:=ml ia (k9 7 _ rfl);have w3:=wr hC;simp[G];refine zCk ?_;exact ny1 (an w1 (an w2 (an w3 G))) e3
    ·have q4:=h4;try simp at q4
     have e2:=ms e2 e3;simp[G];refine zCk ?_;refine dIo mixed ?_;simp[G];refine zCk ?_;refine evI rfl rfl rfl ?_;simp[G];refine zCk ?_;refine evI rfl rfl rfl ?_;simp[G];refine zCk ?_;refine cR (YN.rd (kF (nth (nth a1.Zg U).ZM iZ) zAP)) ?_;simp[G];refine zCk ?_;refine evI rfl rfl rfl ?_;simp[G];refine zCk ?_;refine evI rfl rfl rfl ?_;simp[G];refine zCk ?_;refine evI rfl rfl rfl ?_;simp[G];refine zCk ?_;exact nx2 e2 (hI:=by first|(refine⟨?_,?_,?_,?_,j2.2.2.2.2⟩<;>((try dsimp only);omega))|(have pk:Sm 2285568 (nth (nth a1.Zg U).ZM iZ):=Zi (ZU.XV (Zi (Zh.Xc u1)));obtain⟨q1,q2⟩:=wH (z:=hC) j2.2.2.2.2 pk zAC;refine⟨?_,?_,?_,?_,q1⟩<;>((try dsimp only);omega))) (hw:=Yk [((7,0),some (75,0))] [] rfl (by simp[w1,w2,G]))
   ·have fk:=G;simp[G];refine zCk ?_;refine sGo ?_;simp[G];refine zCk ?_;refine cKo e3 ?_ ?_<;>intro aK h5 e3
    ·simp[G]at h5
    ·have q5:=h5;try simp at q5
     have e2:=ms e2 e3;simp[G];refine zCk ?_;refine dIo mixed ?_;simp[G];refine zCk ?_;refine evI rfl rfl rfl ?_;simp[G];refine zCk ?_;refine evI rfl rfl rfl ?_;simp[G];refine zCk ?_;refine cR (YN.rd (kF (nth (nth a1.Zg U).ZM iZ) zAP)) ?_;simp[G];refine zCk ?_;refine evI rfl rfl rfl ?_;simp[G];refine zCk ?_;refine evI rfl rfl rfl ?_;simp[G];refine zCk ?_;refine evI rfl rfl rfl ?_;simp[G];refine zCk ?_;exact nx2 e2 (hI:=by first|(refine⟨?_,?_,?_,?_,j2.2.2.2.2⟩<;>((try dsimp only);omega))|(have pk:Sm 2285568 (nth (nth a1.Zg U).ZM iZ):=Zi (ZU.XV (Zi (Zh.Xc u1)));obtain⟨q1,q2⟩:=wH (z:=hC) j2.2.2.2.2 pk zAC;refine⟨?_,?_,?_,?_,q1⟩<;>((try dsimp only);omega))) (hw:=Yk [((7,0),some (75,0))] [] rfl (by simp[w1,w2,G]))
  have q2:=h2;try simp at q2
  have c3:=sl 2285568 (nth a1.Zg U).ZM (an u0 (an u1 (an u2 u3)));have e1:=ms e1 e2;simp;exact ny2 w1 e1 (hI:=by(refine⟨?_,?_,?_,?_,j2.2.2.2.2⟩<;>((try dsimp only);omega)))
 have q1:=h1;try simp at q1
 have c4:=sl 2285568 a1.Zg (an u0 (an u1 (an u2 u3)));have f:=ms f e1;simp;exact rtO [.tmp 6] f
theorem M8(a0:YL):Sa 199 [a0.row] [(VS a0).row]:=by have f:=me (VS.eq_1 a0);refine so func199 ntmps199 ?_;exact rt [.cell 2 159] f
theorem FR(a0:YL):Sa 117 [a0.row] [rB (Ia a0)]:=by have f:=me (Ia.eq_1 a0);refine so func117 ntmps117 ?_;refine cRs (Zu a0.Zk 1 999) ?_;refine cGs (fun gg=>Zu a0.Key 1 99) ?_;refine cGs (fun gg=>Zu a0.YG 1 99) ?_;refine cGs (fun gg=>Zu a0.z9 0 99) ?_;refine cGs (fun gg=>M8 a0) ?_;refine cGs (fun gg=>KD (VS a0)) ?_;exact rt [.tmp 2] f
theorem I6(a0:List Yg)(a1:Int):Sa 303 [rL 5 Yg.row a0,rI a1] [rI (Mj a0 a1)]:=by
 have f:=me (Mj.eq_1 a0 a1);refine so func303 ntmps303 ?_;refine cRs (QJ a0 a1) ?_;refine cFf f ?_ ?_<;>intro k1 h1 f
 ·have i1:(YU a0 a1).toNat<a0.length:=by have:=Js a0 a1;exact il
  simp[i1,ZB];refine rpS ?_;exact rt [.tmp 4] f
 exact rt [.tmp 4] f
theorem NY(a0:List Yg)(a1:YL)(u0:Sm 2314240 a0):Sa 258 [rL 5 Yg.row a0,a1.row] [rB (RN a0 a1)]:=by have f:=me (RN.eq_1 a0 a1);refine so func258 ntmps258 ?_;refine dIs mixed ?_;refine cRs (FR a1) ?_;refine cGs (fun gg=>YN.rd (PJ a1)) ?_;refine cGs (fun gg=>JO a0 a1.YG (zE a1) a1.Mark (sg u0) (by simp(maxDischargeDepth:=12) [Rp];try omega)) ?_;refine cGs (fun gg=>I6 a0 a1.Key) ?_;exact rt [.tmp 4] f
theorem wx(a0:ZT)(a1:List ZV)(a2:Zs)(u0:Sm 2310144 a0)(u1:Sm 2310144 a1):Sa 326 [a0.row,rL 3 ZV.row a1,a2.row] [(Jl a0 a1 a2).1.row,rB (Jl a0 a1 a2).2]:=by
 have f:=me (Jl.eq_1 a0 a1 a2);refine so func326 ntmps326 ?_;refine lp9 (S3.eq_2 a0 a1 a2) (fun J U ib iq hE gR gS gT gU=>YM 54 [eX 3 (a0.row.map .d),eX 5 (a2.row.map .d),(6,.one (.bptr 6 0),[.box [.d (.int .i64 0),.d (.int .i64 0),.d (.int .i64 0),.d (.int .i64 0),.d (.int .i64 0),.d (.int .i64 0),.d (.int .i64 0)]]),(8,.one (.bptr 8 0),[.box [.d (.int .i64 ib),.d (.int .i64 iq),.d (.int .i64 hE),.d (.int .i64 gR),.d (.int .i64 gS),.d (.int .i64 gT),.d (.int .i64 gU)]]),eI 9 J,eL 14 3 a1 ZV.row,eI 15 (a1.length:Int),eI 16 (U:Int)]) (fun n1 J U ib iq hE gR gS gT gU=>a1.length<n1+U/\U<=a1.length) (a1.length+1) 0 0 0 0 0 0 0 0 0 (fun p1 J U ib iq hE gR gS gT gU e1 j1=>?_);refine cFf e1 ?_ ?_<;>intro k2 h1 e1
 ·have i1:=ix h1;have m2:=ml a1 (k2 14 _ rfl);have c1:=sl 2310144 a1 (an u0 u1);have w1:=wr U;simp[i1,ZB];refine rpS ?_;refine cRs (SA (nth a1 U)) ?_;refine cGs (fun gg=>NY a0.Zz (Xg (nth a1 U)).1 (sg (ZT.XD u0))) ?_;refine cF e1 ?_ ?_<;>intro k3 h2 e1
  ·exact ny9 w1 e1
  exact ny9 w1 e1
 have c2:=sl 2310144 a1 (an u0 u1);have f:=ms f e1;refine cF f ?_ ?_<;>intro k4 h3 f
 ·exact rt [.cell 6 72,.tmp 7] f
 exact rt [.cell 6 72,.tmp 7] f
theorem RQ(a0:Int)(a1:List ZX)(u0:Sm 2326528 a1):Sa 352 [rI a0,rL 5 ZX.row a1] [rI (Wu a0 a1)]:=by
 have f:=me (Wu.eq_1 a0 a1);refine so func352 ntmps352 ?_;refine cF f ?_ ?_<;>intro k1 h1 f
 ·exact rt [.tmp 4] f
 refine lp2 (VM.eq_2 a1) (fun J U=>YM 27 [eI 0 a0,(5,.one (.sref 5 0 0 J.length),[.arr false 1 (J.map iR)]),eL 11 5 a1 ZX.row,eI 12 (a1.length:Int),eI 13 (U:Int)]) (fun n1 J U=>a1.length<n1+U/\U<=a1.length/\J.length<=0+1*U) (a1.length+1) ([]:List Int) 0 (fun p1 J U e1 j1=>?_) (h0:=wkS [((5,0),none)] []);refine cFf e1 ?_ ?_<;>intro k3 h2 e1
 ·have i1:=ix h2;have m2:=ml a1 (k3 11 _ rfl);have c1:=sl 2326528 a1 u0;have w1:=wr U;simp[i1,ZB];refine rpS ?_;exact nx2 e1 (hw:=Yk [((5,0),some (21,0))] [] rfl zAe)
 have c2:=sl 2326528 a1 u0;have f:=ms f e1;refine cRs (JI a0 J zAN) ?_;refine cRs (vH 1 (Je a0 J)) ?_;exact rt [.tmp 4] f
theorem O2(a0:Int)(a1:ZX):Sd 353 [rI a0,a1.row] [(jU a0 a1).row]:=by have f:=me (jU.eq_1 a0 a1);refine soD func353 ntmps353 ?_;refine dIs mixed ?_;refine cDs [false] (Ti a1) ?_;exact rtD [.cell 4 98] f
theorem Eu(a0:ZT)(a1:Zh)(a2:List ZV)(a3:Zs)(u0:Sm 2314240 a0)(u1:Sm 2314240 a1)(u2:Sm 2314240 a2):Sa 327 [a0.row,a1.row,rL 3 ZV.row a2,a3.row] [rI (JB a0 a1 a2 a3)]:=by
 have f:=me (JB.eq_1 a0 a1 a2 a3);refine so func327 ntmps327 ?_;refine cRs (QJ a0.Zz a3.Key) ?_;refine cFf f ?_ ?_<;>intro k1 h1 f
 ·have i1:(YU a0.Zz a3.Key).toNat<a0.Zz.length:=by have:=Js a0.Zz a3.Key;exact il
  simp[i1,ZB];refine rpS ?_;refine lp2 (ju.eq_2 a0 a1 a2 a3) (fun J U=>YM 92 [eL 2 3 a2 ZV.row,eX 4 (a0.row.map .d),eX 7 (a3.row.map .d),eI 9 J,eL 32 1 a1.Yl (slR 5 ZX.row),eI 33 (a1.Yl.length:Int),eI 34 (U:Int)]) (fun n1 J U=>a1.Yl.length<n1+U/\U<=a1.Yl.length) (a1.Yl.length+1) (nth a0.Zz (YU a0.Zz a3.Key).toNat).OT 0 (fun p1 J U e1 j1=>?_);refine cFf e1 ?_ ?_<;>intro k3 h2 e1
  ·have i2:=ix h2;have m2:=ml a1.Yl (k3 32 _ rfl);have c1:=sl 2314240 a1.Yl (an u0 (an u1 u2));have w1:=wr U;simp[i2,ZB];refine rpS ?_;refine dIs mixed ?_;refine cGs (fun gg=>xF (nth a1.Yl U)) ?_;refine cGs (fun gg=>RQ a3.Method (nth a1.Yl U) (sg (Zi (Zh.NT u1)))) ?_;refine cF e1 ?_ ?_<;>intro k5 h3 e1
   ·exact ny2 w1 e1
   refine lp2 (Ri.eq_2 a0 a1 a2 U) (fun ia iZ=>YM 92 [eL 2 3 a2 ZV.row,eX 4 (a0.row.map .d),eX 7 (a3.row.map .d),eI 9 J,eL 12 5 (nth a1.Yl U) ZX.row,eB 13 ia,eL 32 1 a1.Yl (slR 5 ZX.row),eI 33 (a1.Yl.length:Int),eI 34 (U:Int),eL 55 5 (nth a1.Yl U) ZX.row,eI 56 ((nth a1.Yl U).length:Int),eI 57 (iZ:Int)]) (fun n2 ia iZ=>(nth a1.Yl U).length<n2+iZ/\iZ<=(nth a1.Yl U).length) ((nth a1.Yl U).length+1) true 0 (fun p2 ia iZ e2 j2=>?_);refine cFf e2 ?_ ?_<;>intro k7 h4 e2
   ·have i3:=ix h4;have m4:=ml (nth a1.Yl U) (k7 12 _ rfl);have c2:=sl 2314240 (nth a1.Yl U) (an u0 (an u1 u2));have w2:=wr iZ;simp[i3,ZB];refine rpS ?_;refine dIs mixed ?_;refine cGs (fun gg=>Vz a0.ZC (nth (nth a1.Yl U) iZ)) ?_;refine cGs (fun gg=>YN.rd (O2 (Xj a0.ZC (nth (nth a1.Yl U) iZ)) (nth (nth a1.Yl U) iZ))) ?_;refine cGs (fun gg=>V4 a2 (jU (Xj a0.ZC (nth (nth a1.Yl U) iZ)) (nth (nth a1.Yl U) iZ))) ?_;exact ny2 (an w1 w2) e2
   have c3:=sl 2314240 (nth a1.Yl U) (an u0 (an u1 u2));have e1:=ms e1 e2;refine cRs (PO a0.ZC (nth a1.Yl U) a0.Jb (sg (ZT.Yv u0)) (sg (Zi (Zh.NT u1)))) ?_;refine cF e1 ?_ ?_<;>intro k9 h5 e1
   ·exact ny2 w1 e1
   exact ny2 w1 e1
  have c4:=sl 2314240 a1.Yl (an u0 (an u1 u2));exact rt [.tmp 8] (ms f e1)
 refine lp2 (jo.eq_2 a0 a1 a2 a3) (fun hC hQ=>YM 92 [eL 2 3 a2 ZV.row,eX 4 (a0.row.map .d),eX 7 (a3.row.map .d),eI 9 hC,eL 32 1 a1.Yl (slR 5 ZX.row),eI 33 (a1.Yl.length:Int),eI 34 (hQ:Int)]) (fun n3 hC hQ=>a1.Yl.length<n3+hQ/\hQ<=a1.Yl.length) (a1.Yl.length+1) 0 0 (fun p3 hC hQ e3 j3=>?_);refine cFf e3 ?_ ?_<;>intro aK h6 e3
 ·have i4:=ix h6;have m6:=ml a1.Yl (aK 32 _ rfl);have c5:=sl 2314240 a1.Yl (an u0 (an u1 u2));have w3:=wr hQ;simp[i4,ZB];refine rpS ?_;refine dIs mixed ?_;refine cGs (fun gg=>xF (nth a1.Yl hQ)) ?_;refine cGs (fun gg=>RQ a3.Method (nth a1.Yl hQ) (sg (Zi (Zh.NT u1)))) ?_;refine cF e3 ?_ ?_<;>intro aL h7 e3
  ·exact ny2 w3 e3
  refine lp2 (Rh.eq_2 a0 a1 a2 hQ) (fun eE eM=>YM 92 [eL 2 3 a2 ZV.row,eX 4 (a0.row.map .d),eX 7 (a3.row.map .d),eI 9 hC,eL 12 5 (nth a1.Yl hQ) ZX.row,eB 13 eE,eL 32 1 a1.Yl (slR 5 ZX.row),eI 33 (a1.Yl.length:Int),eI 34 (hQ:Int),eL 55 5 (nth a1.Yl hQ) ZX.row,eI 56 ((nth a1.Yl hQ).length:Int),eI 57 (eM:Int)]) (fun n4 eE eM=>(nth a1.Yl hQ).length<n4+eM/\eM<=(nth a1.Yl hQ).length) ((nth a1.Yl hQ).length+1) true 0 (fun p4 eE eM e4 j4=>?_);refine cFf e4 ?_ ?_<;>intro k15 h8 e4
  ·have i5:=ix h8;have m8:=ml (nth a1.Yl hQ) (k15 12 _ rfl);have c6:=sl 2314240 (nth a1.Yl hQ) (an u0 (an u1 u2));have w4:=wr eM;simp[i5,ZB];refine rpS ?_;refine dIs mixed ?_;refine cGs (fun gg=>Vz a0.ZC (nth (nth a1.Yl hQ) eM)) ?_;refine cGs (fun gg=>YN.rd (O2 (Xj a0.ZC (nth (nth a1.Yl hQ) eM)) (nth (nth a1.Yl hQ) eM))) ?_;refine cGs (fun gg=>V4 a2 (jU (Xj a0.ZC (nth (nth a1.Yl hQ) eM)) (nth (nth a1.Yl hQ) eM))) ?_;exact ny2 (an w3 w4) e4
  have c7:=sl 2314240 (nth a1.Yl hQ) (an u0 (an u1 u2));have e3:=ms e3 e4;refine cRs (PO a0.ZC (nth a1.Yl hQ) a0.Jb (sg (ZT.Yv u0)) (sg (Zi (Zh.NT u1)))) ?_;refine cF e3 ?_ ?_<;>intro k17 h9 e3
  ·exact ny2 w3 e3
  exact ny2 w3 e3
 have c8:=sl 2314240 a1.Yl (an u0 (an u1 u2));exact rt [.tmp 8] (ms f e3)
theorem GZ(a0:List ZV)(a1:YL)(u0:Sm 2330624 a0):Sd 328 [rL 3 ZV.row a0,a1.row] [rL 5 Zx.row (zu a0 a1)]:=by
 have f:=me (zu.eq_1 a0 a1);refine soD func328 ntmps328 ?_;refine lp2 (xO.eq_2 a0 a1) (fun J U=>YM 42 [eX 3 (a1.row.map .d),(5,.one (.sref 5 0 0 J.length),[.arr false 5 (J.map Zx.row)]),eL 10 3 a0 ZV.row,eI 11 (a0.length:Int),eI 12 (U:Int)]) (fun n1 J U=>a0.length<n1+U/\U<=a0.length/\J.length<=0+1*U) (a0.length+1) ([]:List Zx) 0 (fun p1 J U e1 j1=>?_) (h0:=wkS [((5,0),none)] []);refine cFf e1 ?_ ?_<;>intro k2 h1 e1
 ·have i1:=ix h1;have m2:=ml a0 (k2 10 _ rfl);have c1:=sl 2330624 a0 u0;have w1:=wr U;simp[i1,ZB];refine rpS ?_;refine cRs (PZ (nth a0 U)) ?_;refine cF e1 ?_ ?_<;>intro k3 h2 e1
  ·exact nx2 e1 (hw:=Yk [((5,0),some (39,0))] [] rfl zAe)
  exact ny2 w1 e1
 exact rtD [.tmp 4] (ms f e1)
theorem Jf(a0 a1:Int)(a2:List Zn)(u0:Sm 2326528 a2):G2 prog 371 [rI a0,rI a1] [.sl 2 (a2.map Zn.row)] [.sl 2 ((Zy a0 a1 a2).map Zn.row)]:=by
 refine AN func371 rfl zAZ [false] zAE (fun v=>?_);simp[ntmps371];refine cR (Rb a0 a1) ?_;simp;refine cC (yv a0 a1).2 (fun k1 h1=>?_) (fun k1 h1=>?_)
 ·have q1:=h1;try simp at q1
  have c1:a2.length<=2326528:=YA (xs u0);simp;refine rpS ?_;refine nv (dm:=[.sref 17 0 0 (a2++([(yv a0 a1).1]:List Zn)).length]) rfl ?_ (.inr rfl);have f1:=Zy.eq_1 a0 a1 a2;simp only[h1,Qy,Qo]at f1;simp[f1];all_goals(rintro r (⟨a,_,rfl⟩|rfl) x hx<;>simp at hx<;>rcases hx with rfl|rfl<;>rfl)
 ·have q1:=h1;try simp at q1
  simp;refine nv (dm:=[.sref 2 1 0 a2.length]) rfl ?_ (.inr rfl);have f2:=Zy.eq_1 a0 a1 a2
  simp only[h1,Qy,Qo]at f2;simp[f2];all_goals(rintro r (⟨a,_,rfl⟩|rfl) x hx<;>simp at hx<;>rcases hx with rfl|rfl<;>rfl)
theorem Bv(a0:List Zx)(a1:Int):Sa 381 [rL 5 Zx.row a0,rI a1] [rI (Up a0 a1).1,rI (Up a0 a1).2.1,rI (Up a0 a1).2.2]:=by
 have f:=me (Up.eq_1 a0 a1);refine so func381 ntmps381 ?_;refine lp4 (PQ.eq_2 a0 a1) (fun J U ib iq=>YM 49 [eI 1 a1,eI 7 J,eI 8 U,eI 9 ib,eL 12 5 a0 Zx.row,eI 13 (a0.length:Int),eI 14 (iq:Int)]) (fun n1 J U ib iq=>a0.length<n1+iq/\iq<=a0.length) (a0.length+1) (-1) (-1) (-1) 0 (fun p1 J U ib iq e1 j1=>?_);refine cFf e1 ?_ ?_<;>intro k2 h1 e1
 ·have i1:=ix h1;have m2:=ml a0 (k2 12 _ rfl);have w1:=wr iq;simp[i1,ZB];refine rpS ?_;refine cF e1 ?_ ?_<;>intro k3 h2 e1
  ·exact ny4 w1 e1
  refine cF e1 ?_ ?_<;>intro k4 h3 e1
  ·exact ny4 w1 e1
  refine cF e1 ?_ ?_<;>intro k5 h4 e1
  ·exact ny4 w1 e1
  exact ny4 w1 e1
 exact rt _ (ms f e1)
theorem TC(a0:List Zx)(a1:Int):Sa 373 [rL 5 Zx.row a0,rI a1] [rI (Qi a0 a1)]:=by
 have f:=me (Qi.eq_1 a0 a1);refine so func373 ntmps373 ?_;refine cRs (Bv a0 a1) ?_;refine cF f ?_ ?_<;>intro k1 h1 f
 ·exact rt [.tmp 4] f
 exact rt [.tmp 4] f
theorem P3(h:b)(k:a:=by(intros;first|omega|with_unfolding_all (first|(first|omega|(have z:=YA u0;omega)|(have z:=YA u0;simp at*;omega)))|((try simp only[Yd,show ∀x,IntKind.i64.wrap x=W x from fun _=>rfl]at*);omega))):a/\b:=⟨k,h⟩
theorem xC(h:b)(k:a:=by(intros;first|omega|with_unfolding_all (first|(first|omega|(have z:=YA u0;omega)|(have z:=YA u0;simp at*;omega)))|(simp_all;done)|(simp_all;omega)|grind|((try simp only[Yd,show ∀x,IntKind.i64.wrap x=W x from fun _=>rfl]at*);omega))):a/\b:=⟨k,h⟩
theorem yp(a0:List Zn)(u0:Sm 2330624 a0):Sd 369 [rL 2 Zn.row a0] [rL 2 Zn.row (QL a0)]:=by
 have f:=me (QL.eq_1 a0);refine soD func369 ntmps369 ?_;refine lp2 (ks.eq_2 a0) (fun J U=>YM 85 [(3,.one (.sref 3 0 0 J.length),[.arr false 2 (J.map Zn.row)]),eL 10 2 a0 Zn.row,eI 11 (a0.length:Int),eI 12 (U:Int)]) (fun n1 J U=>a0.length<n1+U/\U<=a0.length/\J.length<=U) (a0.length+1) ([]:List Zn) 0 (fun p1 J U e1 j1=>?_) (h0:=wkS [((3,0),none)] []);try dsimp only at j1
 refine cFf e1 ?_ ?_<;>intro k2 h1 e1
 ·have i1:=ix h1;have m2:=ml a0 (k2 10 _ rfl);have c1:=sl 2330624 a0 u0;have w1:=wr U;simp[i1,ZB];repeat with_reducible refine P3 ?_
  refine cRs (KD (nth a0 U)) ?_;refine cF e1 ?_ ?_<;>intro k3 h2 e1
  ·exact ny2 w1 e1 (hI:=by first|omega|(simp at*;omega))
  refine lp4 (WG.eq_2 J) (fun ia iZ gI gJ=>YM 85 [(3,.any,[.arr false 2 (J.map Zn.row)]),(5,.one (.bptr 5 0),[.box [.d (.int .i64 gI),.d (.int .i64 gJ)]]),(6,.one (.sref 6 0 0 ia.length),[.arr false 2 (ia.map Zn.row)]),eL 10 2 a0 Zn.row,eI 11 (a0.length:Int),eI 12 (U:Int),(19,.one (.sref 3 0 0 J.length),[]),eI 20 (J.length:Int),eI 21 (iZ:Int)]) (fun n2 ia iZ gI gJ=>J.length<n2+iZ/\iZ<=J.length/\ia.length<=iZ) (J.length+1) ([]:List Zn) 0 (nth a0 U).Xv (nth a0 U).To (fun p2 ia iZ gI gJ e2 j2=>?_) (h0:=wkS [((6,0),none)] []);try dsimp only at j2
  refine cFf e2 ?_ ?_<;>intro k5 h3 e2
  ·have i2:=ix h3;have m4:=ml J (k5 19 _ rfl);have w2:=wr iZ;simp[i2,ZB];repeat with_reducible refine P3 ?_
   refine cFf e2 ?_ ?_<;>intro k6 h4 e2
   ·simp;repeat with_reducible refine P3 ?_
    exact nx4 e2 (hI:=by first|omega|(simp at*;omega)) (hw:=Yk [((6,0),some (42,0))] [] rfl zCC)
   exact ny4 (an w1 w2) e2 (hI:=by first|omega|(simp at*;omega))
  have e1:=ms e1 e2;refine lp1 (Nt.eq_2 ia gI) (fun hC=>YM 85 [(5,.one (.bptr 5 0),[.box [.d (.int .i64 gI),.d (.int .i64 gJ)]]),(6,.one (.sref 6 0 0 ia.length),[.arr false 2 (ia.map Zn.row)]),eI 9 (hC:Int),eL 10 2 a0 Zn.row,eI 11 (a0.length:Int),eI 12 (U:Int)]) (fun n3 hC=>ia.length<n3+hC/\hC<=ia.length) (ia.length+1) 0 (fun p3 hC e3 j3=>?_);try dsimp only at j3
  refine dIs mixed ?_;refine gIo ?_ ?_<;>intro G
  ·have fk:=G;have g1:=G;try simp at g1
   have i3:=ik hC ia;simp[i3,ZB,G];repeat with_reducible refine xC ?_
   refine cKo e3 ?_ ?_<;>intro k9 h5 e3
   ·have i4:hC<ia.length:=by(simp at h5;omega)
    have m6:=ml ia (k9 6 _ rfl);have w3:=wr hC;simp[G];repeat with_reducible refine xC ?_
    exact ny1 (an w1 (an w3 G)) e3
   ·have e1:=ms e1 e3;simp[G];repeat with_reducible refine xC ?_
    refine dIo mixed ?_;simp[G];repeat with_reducible refine xC ?_
    exact nx2 e1 (hI:=by first|omega|(simp at*;omega)) (hw:=Yk [((3,0),some (82,0))] [] rfl zCK)
  ·have fk:=G;simp[G];repeat with_reducible refine xC ?_
   refine cKo e3 ?_ ?_<;>intro aK h6 e3
   ·simp[G]at h6
   ·have e1:=ms e1 e3;simp[G];repeat with_reducible refine xC ?_
    refine dIo mixed ?_;simp[G];repeat with_reducible refine xC ?_
    exact nx2 e1 (hI:=by first|omega|(simp at*;omega)) (hw:=Yk [((3,0),some (82,0))] [] rfl zCK)
 have c2:=sl 2330624 a0 u0;have f:=ms f e1;refine EY (rv:=[.tmp 2]) rfl ?_;simp[f.h];all_goals(rintro r (hr|rfl|hr) x hx<;>(first|(simp at hx;rcases hx with rfl|rfl<;>rfl)|((first|(replace hr:=List.mem_of_mem_take hr)|(replace hr:=List.mem_of_mem_drop hr));simp at hr;obtain⟨a,_,rfl⟩:=hr;simp at hx;rcases hx with rfl|rfl<;>rfl)))
theorem Cp(a0:YL)(a1:List Zx)(u0:Sm 2322432 a1):Sd 357 [a0.row,rL 5 Zx.row a1] [rL 2 Zn.row (Vx a0 a1)]:=by
 have f:=me (Vx.eq_1 a0 a1);refine soD func357 ntmps357 ?_;refine nO (t:=5) (cells:=[.nil 2]) rfl rfl rfl rfl zAE zAE ?_;simp;refine cF f ?_ ?_<;>intro k1 h1 f
 ·refine Ip (tf:=11) (u:=5) (row:=[.sl 2 (([]:List Zn).map Zn.row)]) (iu:=[.sl 2 ((Zy 0 (W (a0.Xv-1)) ([]:List Zn)).map Zn.row)]) (cells:=[.nil 2]) [false] rfl rfl rfl rfl (Jf 0 (W (a0.Xv-1)) ([]:List Zn) zAB) zAE zAE zAE zAE zAE zAE zAE zAE zAE zAE zCR zAE zAE ?_;simp;refine cF f ?_ ?_<;>intro k2 h2 f
  ·refine Ip (tf:=19) (u:=5) (row:=[.sl 2 ((Zy 0 (W (a0.Xv-1)) ([]:List Zn)).map Zn.row)]) (iu:=[.sl 2 ((Zy (W (a0.To+1)) 10000 (Zy 0 (W (a0.Xv-1)) ([]:List Zn))).map Zn.row)]) (cells:=[.sref 5 1 0 (Zy 0 (W (a0.Xv-1)) ([]:List Zn)).length]) [false] rfl rfl rfl rfl (Jf (W (a0.To+1)) 10000 (Zy 0 (W (a0.Xv-1)) ([]:List Zn)) zAB) zAE zAE zAE zAE zAE zAE zAE zAE zAE zAE zCR zAE zAE ?_;simp;refine cRs (TC a1 a0.Zk) ?_;refine Ip (tf:=24) (u:=5) (row:=[.sl 2 ((Zy (W (a0.To+1)) 10000 (Zy 0 (W (a0.Xv-1)) ([]:List Zn))).map Zn.row)]) (iu:=[.sl 2 ((Zy (Qi a1 a0.Zk) 10000 (Zy (W (a0.To+1)) 10000 (Zy 0 (W (a0.Xv-1)) ([]:List Zn)))).map Zn.row)]) (cells:=[.sref 5 1 0 (Zy (W (a0.To+1)) 10000 (Zy 0 (W (a0.Xv-1)) ([]:List Zn))).length]) [false] rfl rfl rfl rfl (Jf (Qi a1 a0.Zk) 10000 (Zy (W (a0.To+1)) 10000 (Zy 0 (W (a0.Xv-1)) ([]:List Zn))) zAB) zAE zAE zAE zAE zAE zAE zAE zAE zAE zAE zCR zAE zAE ?_;simp;refine cDs [false] (yp (Zy (Qi a1 a0.Zk) 10000 (Zy (W (a0.To+1)) 10000 (Zy 0 (W (a0.Xv-1)) ([]:List Zn)))) zAB) ?_;exact rtD [.tmp 4] f
  refine cRs (TC a1 a0.Zk) ?_;refine Ip (tf:=24) (u:=5) (row:=[.sl 2 ((Zy 0 (W (a0.Xv-1)) ([]:List Zn)).map Zn.row)]) (iu:=[.sl 2 ((Zy (Qi a1 a0.Zk) 10000 (Zy 0 (W (a0.Xv-1)) ([]:List Zn))).map Zn.row)]) (cells:=[.sref 5 1 0 (Zy 0 (W (a0.Xv-1)) ([]:List Zn)).length]) [false] rfl rfl rfl rfl (Jf (Qi a1 a0.Zk) 10000 (Zy 0 (W (a0.Xv-1)) ([]:List Zn)) zAB) zAE zAE zAE zAE zAE zAE zAE zAE zAE zAE zCR zAE zAE ?_;simp;refine cDs [false] (yp (Zy (Qi a1 a0.Zk) 10000 (Zy 0 (W (a0.Xv-1)) ([]:List Zn))) zAB) ?_;exact rtD [.tmp 4] f
 refine cF f ?_ ?_<;>intro k3 h3 f
 ·refine Ip (tf:=19) (u:=5) (row:=[.sl 2 (([]:List Zn).map Zn.row)]) (iu:=[.sl 2 ((Zy (W (a0.To+1)) 10000 ([]:List Zn)).map Zn.row)]) (cells:=[.nil 2]) [false] rfl rfl rfl rfl (Jf (W (a0.To+1)) 10000 ([]:List Zn) zAB) zAE zAE zAE zAE zAE zAE zAE zAE zAE zAE zCR zAE zAE ?_;simp;refine cRs (TC a1 a0.Zk) ?_;refine Ip (tf:=24) (u:=5) (row:=[.sl 2 ((Zy (W (a0.To+1)) 10000 ([]:List Zn)).map Zn.row)]) (iu:=[.sl 2 ((Zy (Qi a1 a0.Zk) 10000 (Zy (W (a0.To+1)) 10000 ([]:List Zn))).map Zn.row)]) (cells:=[.sref 5 1 0 (Zy (W (a0.To+1)) 10000 ([]:List Zn)).length]) [false] rfl rfl rfl rfl (Jf (Qi a1 a0.Zk) 10000 (Zy (W (a0.To+1)) 10000 ([]:List Zn)) zAB) zAE zAE zAE zAE zAE zAE zAE zAE zAE zAE zCR zAE zAE ?_;simp;refine cDs [false] (yp (Zy (Qi a1 a0.Zk) 10000 (Zy (W (a0.To+1)) 10000 ([]:List Zn))) zAB) ?_;exact rtD [.tmp 4] f
 refine cRs (TC a1 a0.Zk) ?_;refine Ip (tf:=24) (u:=5) (row:=[.sl 2 (([]:List Zn).map Zn.row)]) (iu:=[.sl 2 ((Zy (Qi a1 a0.Zk) 10000 ([]:List Zn)).map Zn.row)]) (cells:=[.nil 2]) [false] rfl rfl rfl rfl (Jf (Qi a1 a0.Zk) 10000 ([]:List Zn) zAB) zAE zAE zAE zAE zAE zAE zAE zAE zAE zAE zCR zAE zAE ?_;simp;refine cDs [false] (yp (Zy (Qi a1 a0.Zk) 10000 ([]:List Zn)) zAB) ?_;exact rtD [.tmp 4] f
theorem BD(a0 a1:Zn):Sa 370 [a0.row,a1.row] [rB (L8 a0 a1)]:=by have f:=me (L8.eq_1 a0 a1);refine so func370 ntmps370 ?_;refine cRs (KD a0) ?_;refine cGs (fun gg=>KD a1) ?_;exact rt [.tmp 4] f
theorem Us(a0:List Zn)(a1:Zn)(u0:Sm 2326528 a0):Sa 356 [rL 2 Zn.row a0,a1.row] [rB (Wn a0 a1)]:=by
 have f:=me (Wn.eq_1 a0 a1);refine so func356 ntmps356 ?_;refine cRs (YN.rd (yp a0 (sg u0))) ?_;refine lp1 (Tm.eq_2 a0 a1) (fun J=>YM 18 [eX 3 (a1.row.map .d),eL 8 2 (QL a0) Zn.row,eI 9 ((QL a0).length:Int),eI 10 (J:Int)]) (fun n1 J=>(QL a0).length<n1+J/\J<=(QL a0).length) ((QL a0).length+1) 0 (fun p1 J e1 j1=>?_);refine cFf e1 ?_ ?_<;>intro k2 h1 e1
 ·have i1:=ix h1;have m2:=ml (QL a0) (k2 8 _ rfl);have w1:=wr J;simp[i1,ZB];refine rpS ?_;refine cRs (BD a1 (nth (QL a0) J)) ?_;refine cF e1 ?_ ?_<;>intro k3 h2 e1
  ·exact rt [.tmp 4] (ms f e1)
  exact ny1 w1 e1
 exact rt [.tmp 4] (ms f e1)
theorem Cs(a0:YL)(a1:List Zx)(a2:Zn)(u0:Sm 2318336 a1):Sa 329 [a0.row,rL 5 Zx.row a1,a2.row] [rB (Lk a0 a1 a2)]:=by have f:=me (Lk.eq_1 a0 a1 a2);refine so func329 ntmps329 ?_;refine dIs mixed ?_;refine cRs (YN.rd (Cp a0 a1 (sg u0))) ?_;refine cRs (Us (Vx a0 a1) a2 (by exact Ct zAF)) ?_;exact rt [.tmp 6] f
theorem Dr(a0:List Zx)(a1:Int):Sa 375 [rL 5 Zx.row a0,rI a1] [rI (Sr a0 a1)]:=by
 have f:=me (Sr.eq_1 a0 a1);refine so func375 ntmps375 ?_;refine cRs (Bv a0 a1) ?_;refine cF f ?_ ?_<;>intro k1 h1 f
 ·exact rt [.tmp 4] f
 exact rt [.tmp 4] f
theorem E6(a0 a1:Zn):Sa 382 [a0.row,a1.row] [(qe a0 a1).1.row,rB (qe a0 a1).2]:=by
 have f:=me (qe.eq_1 a0 a1);refine so func382 ntmps382 ?_;refine cRs (KD a0) ?_;refine cGs (fun gg=>KD a1) ?_;refine cGs (fun gg=>KD (Zn.mk (if a1.Xv>a0.Xv then a1.Xv else a0.Xv) (if a1.To<a0.To then a1.To else a0.To))) ?_;refine cF f ?_ ?_<;>intro k1 h1 f
 ·exact rt [.cell 4 159,.tmp 5] f
 exact rt [.cell 4 159,.tmp 5] f
theorem wT(h:b)(k:a:=by(intros;first|omega|with_unfolding_all (first|(first|omega|(simp at*;omega)))|((try simp only[Yd,show ∀x,IntKind.i64.wrap x=W x from fun _=>rfl]at*);omega))):a/\b:=⟨k,h⟩
theorem Af(a0 a1:List Zn)(u0:Sm 2326528 a0)(u1:Sm 2326528 a1)(u2:a0.length<=1/\a1.length<=1):Sd 374 [rL 2 Zn.row a0,rL 2 Zn.row a1] [rL 2 Zn.row (Md a0 a1)]:=by
 have f:=me (Md.eq_1 a0 a1);refine soD func374 ntmps374 ?_;refine lp2 (Nh.eq_2 a0 a1) (fun J U=>YM 39 [eL 1 2 a1 Zn.row,(5,.one (.sref 5 0 0 J.length),[.arr false 2 (J.map Zn.row)]),eL 12 2 a0 Zn.row,eI 13 (a0.length:Int),eI 14 (U:Int)]) (fun n1 J U=>a0.length<n1+U/\U<=a0.length/\J.length<=U) (a0.length+1) ([]:List Zn) 0 (fun p1 J U e1 j1=>?_) (h0:=wkS [((5,0),none)] []);refine cFf e1 ?_ ?_<;>intro k2 h1 e1
 ·have i1:=ix h1;have w1:=wr U;simp[i1,ZB];refine lp2 (Sq.eq_2 a0 a1 U) (fun ia iZ=>YM 39 [eL 1 2 a1 Zn.row,(5,.one (.sref 5 0 0 ia.length),[.arr false 2 (ia.map Zn.row)]),eX 7 ((nth a0 U).row.map .d),eL 12 2 a0 Zn.row,eI 13 (a0.length:Int),eI 14 (U:Int),eL 18 2 a1 Zn.row,eI 19 (a1.length:Int),eI 20 (iZ:Int)]) (fun n2 ia iZ=>a1.length<n2+iZ/\iZ<=a1.length/\ia.length<=U+iZ) (a1.length+1) J 0 (fun p2 ia iZ e2 j2=>?_);refine cFf e2 ?_ ?_<;>intro k4 h2 e2
  ·have i2:=ix h2;have w2:=wr iZ;simp[i2,ZB];refine cRs (E6 (nth a0 U) (nth a1 iZ)) ?_;refine cFf e2 ?_ ?_<;>intro k5 h3 e2
   ·simp;repeat with_reducible refine wT ?_
    exact nx2 e2 (hI:=by first|omega|(simp at*;omega)) (hw:=Yk [((5,0),some (34,0))] [] rfl zCC)
   exact ny2 (an w1 w2) e2 (hI:=by first|omega|(simp at*;omega))
  have e1:=ms e1 e2;exact ny2 w1 e1
 have f:=ms f e1;refine cDs [false] (yp J (by exact⟨zAC,fun _ _=>trivial⟩)) ?_;exact rtD [.tmp 4] f
theorem CU(a0:YL)(a1:List Zx)(u0:Sm 2322432 a1):Sd 358 [a0.row,rL 5 Zx.row a1] [rL 2 Zn.row (kr a0 a1)]:=by have f:=me (kr.eq_1 a0 a1);refine soD func358 ntmps358 ?_;refine dIs mixed ?_;refine cRs (M8 a0) ?_;refine cRs (Dr a1 a0.Zk) ?_;refine cDs [false] (Af ([VS a0]:List Zn) ([Zn.mk 0 (Sr a1 a0.Zk)]:List Zn) zAr zAr (by exact⟨Nat.le_refl _,Nat.le_refl _⟩)) ?_;exact rtD [.tmp 4] f
theorem F5(a0:YL)(a1:List Zx)(a2:Zn)(u0:Sm 2318336 a1):Sa 330 [a0.row,rL 5 Zx.row a1,a2.row] [rB (P1 a0 a1 a2)]:=by have f:=me (P1.eq_1 a0 a1 a2);refine so func330 ntmps330 ?_;refine dIs mixed ?_;refine cRs (YN.rd (CU a0 a1 (sg u0))) ?_;refine cRs (Us (kr a0 a1) a2 (by exact Dt zAF)) ?_;exact rt [.tmp 6] f
theorem Fe(a0:List ZV)(u0:Sm 2330624 a0):Sd 332 [rL 3 ZV.row a0] [rL 6 XQ.row (W3 a0)]:=by
 have f:=me (W3.eq_1 a0);refine soD func332 ntmps332 ?_;refine lp2 (xz.eq_2 a0) (fun J U=>YM 26 [(3,.one (.sref 3 0 0 J.length),[.arr false 6 (J.map XQ.row)]),eL 8 3 a0 ZV.row,eI 9 (a0.length:Int),eI 10 (U:Int)]) (fun n1 J U=>a0.length<n1+U/\U<=a0.length/\J.length<=0+1*U) (a0.length+1) ([]:List XQ) 0 (fun p1 J U e1 j1=>?_) (h0:=wkS [((3,0),none)] []);refine cFf e1 ?_ ?_<;>intro k2 h1 e1
 ·have i1:=ix h1;have m2:=ml a0 (k2 8 _ rfl);have c1:=sl 2330624 a0 u0;have w1:=wr U;simp[i1,ZB];refine rpS ?_;refine cRs (S4 (nth a0 U)) ?_;refine cF e1 ?_ ?_<;>intro k3 h2 e1
  ·exact nx2 e1 (hw:=Yk [((3,0),some (23,0))] [] rfl zAe)
  exact ny2 w1 e1
 exact rtD [.tmp 2] (ms f e1)
theorem E8(a0:XQ):Sa 383 [a0.row] [rB (Ni a0)]:=by have f:=me (Ni.eq_1 a0);refine so func383 ntmps383 ?_;refine cRs (Zu a0.Org 1 99) ?_;refine cGs (fun gg=>Zu a0.GK 0 99) ?_;refine cGs (fun gg=>Zu a0.Key 1 99) ?_;refine cGs (fun gg=>KD (Zn.mk a0.Xv a0.To)) ?_;exact rt [.tmp 2] f
theorem Hx(a0:XQ):Sd 384 [a0.row] [rL 1 iR (zx a0)]:=by have f:=me (zx.eq_1 a0);refine soD func384 ntmps384 ?_;exact rtD [.tmp 2] f
theorem HK(a0:List Yg)(a1:XQ)(u0:Sm 2314240 a0):Sa 376 [rL 5 Yg.row a0,a1.row] [rB (SN a0 a1)]:=by have f:=me (SN.eq_1 a0 a1);refine so func376 ntmps376 ?_;refine dIs mixed ?_;refine cRs (E8 a1) ?_;refine cGs (fun gg=>I6 a0 a1.Key) ?_;refine cGs (fun gg=>YN.rd (Hx a1)) ?_;refine cGs (fun gg=>JO a0 a1.Key (zx a1) a1.Mark (sg u0) (by simp(maxDischargeDepth:=12) [GJ];try omega)) ?_;exact rt [.tmp 4] f
theorem HE(a0:List Yg)(a1:List XQ)(a2 a3:Int)(u0:Sm 2310144 a0)(u1:Sm 2310144 a1):Sd 359 [rL 5 Yg.row a0,rL 6 XQ.row a1,rI a2,rI a3] [rL 2 Zn.row (qB a0 a1 a2 a3)]:=by
 have f:=me (qB.eq_1 a0 a1 a2 a3);refine soD func359 ntmps359 ?_;refine lp2 (yU.eq_2 a0 a1 a2 a3) (fun J U=>YM 44 [eL 0 5 a0 Yg.row,eI 2 a2,eI 3 a3,(9,.one (.sref 9 0 0 J.length),[.arr false 2 (J.map Zn.row)]),eL 12 6 a1 XQ.row,eI 13 (a1.length:Int),eI 14 (U:Int)]) (fun n1 J U=>a1.length<n1+U/\U<=a1.length/\J.length<=0+1*U) (a1.length+1) ([]:List Zn) 0 (fun p1 J U e1 j1=>?_) (h0:=wkS [((9,0),none)] []);refine cFf e1 ?_ ?_<;>intro k2 h1 e1
 ·have i1:=ix h1;have m2:=ml a1 (k2 12 _ rfl);have c1:=sl 2310144 a1 (an u0 u1);have w1:=wr U;simp[i1,ZB];refine rpS ?_;refine cGs (fun gg=>HK a0 (nth a1 U) (sg u0)) ?_;refine cF e1 ?_ ?_<;>intro k3 h2 e1
  ·exact nx2 e1 (hw:=Yk [((9,0),some (40,0))] [] rfl zAe)
  exact ny2 w1 e1
 have c2:=sl 2310144 a1 (an u0 u1);have f:=ms f e1;refine cDs [false] (yp J (by first|(simp(maxDischargeDepth:=12) [Y9];omega)|(simp(maxDischargeDepth:=12) [ZK (m:=2330624) zAF u0,ZK (m:=2330624) zAF u1];done))) ?_;exact rtD [.tmp 8] f
theorem EG(a0:List Yg)(a1:List XQ)(a2 a3:Int)(a4:Zn)(u0:Sm 2306048 a0)(u1:Sm 2306048 a1):Sa 331 [rL 5 Yg.row a0,rL 6 XQ.row a1,rI a2,rI a3,a4.row] [rB (Ok a0 a1 a2 a3 a4)]:=by have f:=me (Ok.eq_1 a0 a1 a2 a3 a4);refine so func331 ntmps331 ?_;refine dIs mixed ?_;refine cGs (fun gg=>KD a4) ?_;refine cGs (fun gg=>YN.rd (HE a0 a1 a2 a3 zB9 zB9)) ?_;refine cGs (fun gg=>Us (qB a0 a1 a2 a3) a4 (by exact HB (by have z:=YA u1;omega))) ?_;refine⟨by by_cases h:a2=0<;>simp[h],?_⟩;exact rt [.tmp 10] f
theorem RI(a0:ZT)(a1:Zh)(a2:List (List Int))(a3:Int)(a4:Zs)(u0:Sm 2281472 a0)(u1:Sm 2281472 a1)(u2:Sm 2281472 a2)(u3:pw a1<=2097152):Sa 293 [a0.row,a1.row,rL 1 (slR 1 iR) a2,rI a3,a4.row] [(qK a0 a1 a2 a3 a4).row]:=by
 have f:=me (qK.eq_1 a0 a1 a2 a3 a4);refine so func293 ntmps293 ?_;refine cRs (Ig a0) ?_;refine cF f ?_ ?_<;>intro k1 h1 f
 ·refine cRs (Tc 1) ?_;exact rt [.cell 10 161] f
 refine cRs (Vl a4) ?_;refine cF f ?_ ?_<;>intro k2 h2 f
 ·refine cRs (Pz 1) ?_;exact rt [.cell 10 161] f
 refine cF f ?_ ?_<;>intro k3 h3 f
 ·refine cRs (Tc 2) ?_;exact rt [.cell 10 161] f
 refine cF f ?_ ?_<;>intro k4 h4 f
 ·refine cRs (Pz 2) ?_;exact rt [.cell 10 161] f
 refine cRs (QJ a0.Zz a4.Key) ?_;refine cF f ?_ ?_<;>intro k5 h5 f
 ·refine cRs (Tc 3) ?_;exact rt [.cell 10 161] f
 refine cRs (M0 a0.Zz a4 zAA) ?_;refine cF f ?_ ?_<;>intro k6 h6 f
 ·refine cRs (Pz 4) ?_;exact rt [.cell 10 161] f
 refine dIs mixed ?_;refine cRs (YN.rd (Sf a4)) ?_;refine cRs (Ty a0 a1 a2 (XE a4) zAA zAA zAA zAA) ?_;refine cRs (Un a0 a4.Key) ?_;refine cGs (fun gg=>U2 a0.Methods a4.Method) ?_;refine cF f ?_ ?_<;>intro k8 h7 f
 ·refine cRs (Tc 5) ?_;exact rt [.cell 10 161] f
 refine cRs (I0 a0 a1 a2 zAA zAA zAA zAA) ?_;refine cRs (wx a0 (YB a0 a1 a2) a4 zAA zAA) ?_;refine cF f ?_ ?_<;>intro k9 h8 f
 ·refine cRs (Tc 6) ?_;exact rt [.cell 10 161] f
 refine cRs (Eu a0 a1 (YB a0 a1 a2) a4 zAA zAA zAA) ?_;refine cF f ?_ ?_<;>intro cv h9 f
 ·refine cRs (Tc 7) ?_;exact rt [.cell 10 161] f
 refine cRs (YN.rd (GZ (YB a0 a1 a2) (Jl a0 (YB a0 a1 a2) a4).1 zAA)) ?_;refine cRs (Cs (Jl a0 (YB a0 a1 a2) a4).1 (zu (YB a0 a1 a2) (Jl a0 (YB a0 a1 a2) a4).1) (Zn.mk (JB a0 a1 (YB a0 a1 a2) a4) (XM a0 a1 a2 (XE a4))) zAA) ?_;refine cF f ?_ ?_<;>intro aK dT f
 ·exact rt [.cell 10 161] f
 refine cRs (F5 (Jl a0 (YB a0 a1 a2) a4).1 (zu (YB a0 a1 a2) (Jl a0 (YB a0 a1 a2) a4).1) (Zn.mk (JB a0 a1 (YB a0 a1 a2) a4) (XM a0 a1 a2 (XE a4))) zAA) ?_;refine cF f ?_ ?_<;>intro k12 h11 f
 ·exact rt [.cell 10 161] f
 refine dIs mixed ?_;refine cRs (YN.rd (Fe (YB a0 a1 a2) zAA)) ?_;refine cRs (EG a0.Zz (W3 (YB a0 a1 a2)) a4.Org (Jl a0 (YB a0 a1 a2) a4).1.z9 (Zn.mk (JB a0 a1 (YB a0 a1 a2) a4) (XM a0 a1 a2 (XE a4))) zAA zAA) ?_;refine cF f ?_ ?_<;>intro k14 h12 f
 ·exact rt [.cell 10 161] f
 exact rt [.cell 10 161] f
theorem tX(a0:ZT)(a1:Zh)(a2:ZL)(a3:Zs)(u0:Sm 2277376 a0)(u1:Sm 2277376 a1)(u2:Sm 2277376 a2)(u3:pw a1<=2097152):Sa 247 [a0.row,a1.row,a2.row,a3.row] [(El a0 a1 a2 a3).row]:=by have f:=me (El.eq_1 a0 a1 a2 a3);refine so func247 ntmps247 ?_;refine dIs mixed ?_;refine cRs (YN.rd (Lz a1 a2 zAh zAh)) ?_;refine cRs (yQ a3.Method a2 zAh) ?_;refine cRs (RI a0 a1 (zQ a1 a2) (Y5 a3.Method a2) a3 zAh zAh zAh zAh) ?_;exact rt [.cell 8 161] f
theorem Nm(a0:ZT)(a1:ZO)(u0:Sm 2273280 a0)(u1:Sm 2097152 a1):Sa 178 [a0.row,a1.row] [(JX a0 a1).row]:=by have f:=me (JX.eq_1 a0 a1);refine so func178 ntmps178 ?_;refine dIs mixed ?_;refine cRs (YN.rd (S5 a1 zAJ)) ?_;refine cRs (tX a0 (KH a1) a1.Doc a1.Sig zAJ zAJ zAJ zAJ) ?_;exact rt [.cell 4 161] f
theorem Gm(h:b)(k:a:=by(intros;first|omega|with_unfolding_all (first|first|omega|(have fi:=QH a0 a1 zCM;omega))|((try simp only[Yd,show ∀x,IntKind.i64.wrap x=W x from fun _=>rfl]at*);omega))):a/\b:=⟨k,h⟩
theorem VQ(a0:ZF)(a1:Int)(u0:Sm 1048576 a0):Sa 103 [a0.row,rI a1] [(Qp a0 a1).row]:=by
 have f:=me (Qp.eq_1 a0 a1);refine so func103 ntmps103 ?_;refine cRs (UM a0 a1) ?_;refine cFo f ?_ ?_<;>intro k1 h1 f
 ·have q1:=h1;try simp at q1
  simp;exact rt [.cell 4 161] f
 have q1:=h1;try simp at q1
 simp;refine dIo mixed ?_;have i1:(ZW a0 a1).1.toNat<a0.ZA.length:=zBr
 have i2:(ZW a0 a1).2.toNat<(nth a0.ZA (ZW a0 a1).1.toNat).ZE.length:=zBr;simp[i1,ZB,i2];repeat with_reducible refine Gm ?_
 refine cRs (Nm a0.Frame (nth (nth a0.ZA (ZW a0 a1).1.toNat).ZE (ZW a0 a1).2.toNat) (sg (ZF.Yx u0)) (sg (Zi (ZD.YD (Zi (ZF.Z6 u0)))))) ?_;exact rt [.cell 4 161] f
theorem Gc(a0:Int):Sa 176 [rI a0] [rS (Kj a0)]:=by
 have f:=me (Kj.eq_1 a0);refine so func176 ntmps176 ?_;refine cRs (Zu a0 1 3) ?_;refine cFo f ?_ ?_<;>intro k1 h1 f
 ·have q1:=h1;try simp[ZP]at q1
  simp;exact rt [.tmp 2] f
 have q1:=h1;try simp[ZP]at q1
 have r1:∀i:Nat,i<4->cut [At.d (.str (⟨#[]⟩:ByteArray)),At.d (.str (⟨#[118,97,108,105,100]⟩:ByteArray)),At.d (.str (⟨#[105,110,118,97,108,105,100]⟩:ByteArray)),At.d (.str (⟨#[111,112,101,110]⟩:ByteArray))] i 1=[At.d (.str (nth ([(⟨#[]⟩:ByteArray),(⟨#[118,97,108,105,100]⟩:ByteArray),(⟨#[105,110,118,97,108,105,100]⟩:ByteArray),(⟨#[111,112,101,110]⟩:ByteArray)]:List ByteArray) i))]:=by intro i h;(have z:i=0\/i=1\/i=2\/i=3:=by omega);rcases z with rfl|rfl|rfl|rfl<;>rfl
 have i1:a0.toNat<4:=zBF;have r1b:=r1 _ i1;simp only[cut]at r1b;simp[r1 _ i1,r1b];refine rpS ?_;exact rt [.tmp 2] f
theorem Ee(a0:Int):Sa 177 [rI a0] [rS (za a0)]:=by
 have f:=me (za.eq_1 a0);refine so func177 ntmps177 ?_;refine cRs (Zu a0 0 9) ?_;refine cFo f ?_ ?_<;>intro k1 h1 f
 ·have q1:=h1;try simp[ZP]at q1
  simp;exact rt [.tmp 2] f
 have q1:=h1;try simp[ZP]at q1
 have r1:∀i:Nat,i<10->cut [At.d (.str (⟨#[110,111,110,101]⟩:ByteArray)),At.d (.str (⟨#[102,111,114,109]⟩:ByteArray)),At.d (.str (⟨#[100,111,99,117,109,101,110,116]⟩:ByteArray)),At.d (.str (⟨#[107,101,121]⟩:ByteArray)),At.d (.str (⟨#[109,97,114,107]⟩:ByteArray)),At.d (.str (⟨#[98,114,111,107,101,110]⟩:ByteArray)),At.d (.str (⟨#[99,101,114,116,105,102,105,99,97,116,101]⟩:ByteArray)),At.d (.str (⟨#[116,105,109,101]⟩:ByteArray)),At.d (.str (⟨#[101,110,100,101,100]⟩:ByteArray)),At.d (.str (⟨#[109,97,110,100,97,116,101]⟩:ByteArray))] i 1=[At.d (.str (nth ([(⟨#[110,111,110,101]⟩:ByteArray),(⟨#[102,111,114,109]⟩:ByteArray),(⟨#[100,111,99,117,109,101,110,116]⟩:ByteArray),(⟨#[107,101,121]⟩:ByteArray),(⟨#[109,97,114,107]⟩:ByteArray),(⟨#[98,114,111,107,101,110]⟩:ByteArray),(⟨#[99,101,114,116,105,102,105,99,97,116,101]⟩:ByteArray),(⟨#[116,105,109,101]⟩:ByteArray),(⟨#[101,110,100,101,100]⟩:ByteArray),(⟨#[109,97,110,100,97,116,101]⟩:ByteArray)]:List ByteArray) i))]:=by intro i h;(have z:i=0\/i=1\/i=2\/i=3\/i=4\/i=5\/i=6\/i=7\/i=8\/i=9:=by omega);rcases z with rfl|rfl|rfl|rfl|rfl|rfl|rfl|rfl|rfl|rfl<;>rfl
 have i1:a0.toNat<10:=zBF;have r1b:=r1 _ i1;simp only[cut]at r1b;simp[r1 _ i1,r1b];refine rpS ?_;exact rt [.tmp 2] f
theorem km(a0:Xi):Sa 102 [a0.row] [rS (X7 a0)]:=by
 have f:=me (X7.eq_1 a0);refine so func102 ntmps102 ?_;refine dIs mixed ?_;refine cRs (Gc a0.Code) ?_;refine cRs (Ee a0.Reason) ?_;refine cF f ?_ ?_<;>intro k2 h1 f
 ·exact rt [.tmp 2] f
 refine cFf f ?_ ?_<;>intro k3 h2 f
 ·have o1:=kd a0.Code;have o2:=W7 a0.Reason;simp;refine rpS ?_;exact rt [.tmp 2] f
 have o3:=kd a0.Code;have o4:=W7 a0.Reason;refine dIs mixed ?_;have o5:=YY a0.Span.Xv;refine cRs (XG a0.Span.Xv) ?_;have o6:=YY a0.Span.To;refine cRs (XG a0.Span.To) ?_;exact rt [.tmp 2] f
theorem F0(a0:ZT)(a1:ZO)(u0:Sm 2269184 a0)(u1:Sm 2097152 a1):Sa 179 [a0.row,a1.row] [rS (jV a0 a1)]:=by have f:=me (jV.eq_1 a0 a1);refine so func179 ntmps179 ?_;refine dIs mixed ?_;have o1:=YY a1.Id;refine cRs (XG a1.Id) ?_;have o2:=YY a1.Sig.Key;refine cRs (XG a1.Sig.Key) ?_;have o3:=YY (a1.ZN.ZM.length:Int);refine cRs (XG (a1.ZN.ZM.length:Int)) ?_;have o4:=YY (a1.ZN.ZR.length:Int);refine cRs (XG (a1.ZN.ZR.length:Int)) ?_;refine cRs (Nm a0 a1 zBa zBa) ?_;have o5:=qU (JX a0 a1);refine cRs (km (JX a0 a1)) ?_;exact rt [.tmp 4] f
theorem N4(h:b)(k:a:=by(intros;first|omega|with_unfolding_all (first|(have o:(nth a0 U).size<=2342912:=Zi (i:=U) u0;have o2:a1.size<=2342912:=u1;have o3:a0.length<=2342912:=YA u0;omega))|((try simp only[Yd,show ∀x,IntKind.i64.wrap x=W x from fun _=>rfl]at*);omega))):a/\b:=⟨k,h⟩
theorem MH(a0:List ByteArray)(a1:ByteArray)(u0:Sm 2342912 a0)(u1:Sm 2342912 a1):Sa 191 [rL 1 sR a0,rS a1] [rS (T5 a0 a1)]:=by
 have f:=me (T5.eq_1 a0 a1);refine so func191 ntmps191 ?_;refine lp2 (qP.eq_2 a0 a1) (fun J U=>YM 25 [(1,.one (.d (.str a1)),[]),(5,.one (.d (.str J)),[]),eL 8 1 a0 sR,eI 9 (a0.length:Int),eI 10 (U:Int)]) (fun n1 J U=>a0.length<n1+U/\U<=a0.length/\J.size<=4685824*U) (a0.length+1) (⟨#[]⟩:ByteArray) 0 (fun p1 J U e1 j1=>?_) (hI:=by exact⟨zAC,zAC,Nat.zero_le _,Nat.zero_le _⟩);try dsimp only at j1
 refine cFf e1 ?_ ?_<;>intro k2 h1 e1
 ·have i1:=ix h1;have m2:=ml a0 (k2 8 _ rfl);have c1:=sl 2342912 a0 (an u0 u1);have w1:=wr U;simp[i1,ZB];repeat with_reducible refine N4 ?_
  refine cFo e1 ?_ ?_<;>intro k3 h2 e1
  ·simp;repeat with_reducible refine N4 ?_
   exact ny2 w1 e1 (hI:=by(have o:(nth a0 U).size<=2342912:=Zi (i:=U) u0;have o2:a1.size<=2342912:=u1;have o3:a0.length<=2342912:=YA u0;(try dsimp only);refine⟨zAC,zAC,zAC,?_⟩;simp;omega))
  simp;repeat with_reducible refine N4 ?_
  exact ny2 w1 e1 (hI:=by(have o:(nth a0 U).size<=2342912:=Zi (i:=U) u0;have o2:a1.size<=2342912:=u1;have o3:a0.length<=2342912:=YA u0;(try dsimp only);refine⟨zAC,zAC,zAC,?_⟩;simp;omega))
 have c2:=sl 2342912 a0 (an u0 u1);exact rt [.tmp 4] (ms f e1)
theorem G5(a0:List ByteArray)(a1:ByteArray)(u0:Sm 2338816 a0)(u1:Sm 2338816 a1):Sa 180 [rL 1 sR a0,rS a1] [rS (PV a0 a1)]:=by
 have f:=me (PV.eq_1 a0 a1);refine so func180 ntmps180 ?_;refine cF f ?_ ?_<;>intro k1 h1 f
 ·exact rt [.tmp 4] f
 refine cRs (MH a0 a1 (sg u0) (sg u1)) ?_;exact rt [.tmp 4] f
theorem Lj(a0:ZT)(a1:ZD)(u0:Sm 1048576 a0)(u1:Sm 1048576 a1):Sa 104 [a0.row,a1.row] [rS (zR a0 a1)]:=by
 have f:=me (zR.eq_1 a0 a1);refine so func104 ntmps104 ?_;refine lp2 (zi.eq_2 a0 a1) (fun J U=>YM 24 [eX 2 (a0.row.map .d),(5,.one (.sref 5 0 0 J.length),[.arr false 1 (J.map sR)]),eL 9 16 a1.ZE ZO.row,eI 10 (a1.ZE.length:Int),eI 11 (U:Int)]) (fun n1 J U=>a1.ZE.length<n1+U/\U<=a1.ZE.length/\J.length<=U/\(∀x∈J,x.size<=400)) (a1.ZE.length+1) ([]:List ByteArray) 0 (fun p1 J U e1 j1=>?_) (hI:=by exact⟨zAC,zAC,Nat.zero_le _,Nat.zero_le _,fun x h=>by cases h⟩) (h0:=wkS [((5,0),none)] []);try dsimp only at j1
 refine cFf e1 ?_ ?_<;>intro k2 h1 e1
 ·have i1:=ix h1;have m2:=ml a1.ZE (k2 9 _ rfl);have c1:=sl 1048576 a1.ZE (an u0 u1);have w1:=wr U;simp[i1,ZB];refine rpS ?_;refine cRs (F0 a0 (nth a1.ZE U) (by(first|exact sg u0|exact sg (Zi (ZD.YD u1)))) (by(first|exact sg u0|exact sg (Zi (ZD.YD u1))))) ?_;exact nx2 e1 (hI:=by(refine⟨zAC,zAC,zAC,by simp;omega,fun x hx=>?_⟩;rcases List.mem_append.1 hx with hx|hx;exact j1.2.2.2.2 x hx;simp at hx;rw[hx];exact Is _ _)) (hw:=Yk [((5,0),some (20,0))] [] rfl zAe)
 have c2:=sl 1048576 a1.ZE (an u0 u1);have f:=ms f e1;refine cRs (G5 J (⟨#[59,32]⟩:ByteArray) zAq zAq) ?_;exact rt [.tmp 4] f
theorem CM(a0:List Int)(a1:Int)(u0:Sm 2338816 a0):Sa 295 [rL 1 iR a0,rI a1] [rL 1 iR (WD a0 a1)]:=by
 have f:=me (WD.eq_1 a0 a1);refine so func295 ntmps295 ?_;refine lp1 (PI.eq_2 a0 a1) (fun J=>YM 44 [eL 0 1 a0 iR,eI 1 a1,eI 5 (J:Int)]) (fun n1 J=>a0.length<n1+J/\J<=a0.length) (a0.length+1) 0 (fun p1 J e1 j1=>?_);refine gIf ?_ ?_<;>intro G
 ·have i1:=ik J a0;simp[i1,ZB,G];refine rpG ?_;refine cK e1 ?_ ?_<;>intro k2 h1 e1
  ·try(simp[G]at h1;done)
   all_goals
    have i2:J<a0.length:=zBq;have m2:=ml a0 (k2 0 _ rfl);have c1:=sl 2338816 a0 u0;have w1:=wr J;exact ny1 (an w1 G) e1
  ·try(simp[G]at h1;done)
   all_goals
    have c2:=sl 2338816 a0 u0;have f:=ms f e1;refine gJf G ?_ ?_<;>intro G
    ·try(simp at G;done)
     all_goals
      simp[i1,ZB,G];refine rpG ?_;refine cK f ?_ ?_<;>intro k3 h2 f
      ·try(simp[G]at h2;done)
       all_goals
        exact rtg [.tmp 4] f
      ·try(simp[G]at h2;done)
       all_goals
        refine dIg mixed ?_;have c3:=sl 2338816 (a0.take J) u0
        have c4:=sl 2338816 (a0.drop J) u0;refine cDg [false] (QN (a0.take J) (sg (Ol u0))) ?_ (hq:=by simp[-Bool.exists_bool,-Bool.forall_bool,-List.map_take]);exact rtg [.tmp 4] f
    ·try(simp at G;done)
     all_goals
      refine cK f ?_ ?_<;>intro k5 h3 f
      ·try(simp[G]at h3;done)
       all_goals
        exact rtg [.tmp 4] f
      ·try(simp[G]at h3;done)
       all_goals
        refine dIg mixed ?_;have c5:=sl 2338816 (a0.take J) u0
        have c6:=sl 2338816 (a0.drop J) u0;refine cDg [false] (QN (a0.take J) (sg (Ol u0))) ?_ (hq:=by simp[-Bool.exists_bool,-Bool.forall_bool,-List.map_take]);exact rtg [.tmp 4] f
 ·refine cK e1 ?_ ?_<;>intro k7 h4 e1
  ·try(simp[G]at h4;done)
   all_goals
    have i4:J<a0.length:=by(simp at h4;omega)
    have m4:=ml a0 (k7 0 _ rfl);have c7:=sl 2338816 a0 u0;have w2:=wr J;exact ny1 (an w2 G) e1
  ·try(simp[G]at h4;done)
   all_goals
    have c8:=sl 2338816 a0 u0;have f:=ms f e1;refine gJf G ?_ ?_<;>intro G
    ·try(simp at G;done)
     all_goals
      have i5:=ik J a0;simp[i5,ZB,G];refine rpG ?_;refine cK f ?_ ?_<;>intro k8 h5 f
      ·try(simp[G]at h5;done)
       all_goals
        exact rtg [.tmp 4] f
      ·try(simp[G]at h5;done)
       all_goals
        refine dIg mixed ?_;have c9:=sl 2338816 (a0.take J) u0
        have c10:=sl 2338816 (a0.drop J) u0;refine cDg [false] (QN (a0.take J) (sg (Ol u0))) ?_ (hq:=by simp[-Bool.exists_bool,-Bool.forall_bool,-List.map_take]);exact rtg [.tmp 4] f
    ·try(simp at G;done)
     all_goals
      refine cK f ?_ ?_<;>intro cv h6 f
      ·try(simp[G]at h6;done)
       all_goals
        exact rtg [.tmp 4] f
      ·try(simp[G]at h6;done)
       all_goals
        refine dIg mixed ?_;have c11:=sl 2338816 (a0.take J) u0
        have c12:=sl 2338816 (a0.drop J) u0;refine cDg [false] (QN (a0.take J) (sg (Ol u0))) ?_ (hq:=by simp[-Bool.exists_bool,-Bool.forall_bool,-List.map_take]);exact rtg [.tmp 4] f
theorem Cd(a0:ZO)(u0:Sm 2334720 a0):Sa 250 [a0.row] [rL 1 iR (kv a0)]:=by
 have f:=me (kv.eq_1 a0);refine so func250 ntmps250 ?_;refine lp2 (j7.eq_2 a0) (fun J U=>YM 24 [eL 3 1 J iR,eL 12 5 a0.ZN.ZR ZZ.row,eI 13 (a0.ZN.ZR.length:Int),eI 14 (U:Int)]) (fun n1 J U=>a0.ZN.ZR.length<n1+U/\U<=a0.ZN.ZR.length/\J.length<=1+U) (a0.ZN.ZR.length+1) ([a0.Sig.Method]:List Int) 0 (fun p1 J U e1 j1=>?_) (h0:=wkS [] [(9,0)]);try dsimp only at j1
 refine cFf e1 ?_ ?_<;>intro k2 h1 e1
 ·have i1:=ix h1;have m2:=ml a0.ZN.ZR (k2 12 _ rfl);have c1:=sl 2334720 a0.ZN.ZR u0;have w1:=wr U;simp[i1,ZB];refine rpS ?_;refine cRs (CM J (nth a0.ZN.ZR U).Method (by exact ZK (n:=2334720+1) zAF ⟨zAC,fun _ _=>trivial⟩)) ?_;exact ny2 w1 e1 (hI:=by(have z:=O4 J (nth a0.ZN.ZR U).Method;(try dsimp only);omega))
 have c2:=sl 2334720 a0.ZN.ZR u0;exact rt [.tmp 2] (ms f e1)
theorem Ms(a0:List Int)(a1:ZL)(a2:List Int)(u0:Sm 2322432 a0)(u1:Sm 2322432 a1)(u2:Sm 2322432 a2):Sd 249 [rL 1 iR a0,a1.row,rL 1 iR a2] [(Jh a0 a1 a2).1.row,rB (Jh a0 a1 a2).2]:=by
 have f:=me (Jh.eq_1 a0 a1 a2);refine soD func249 ntmps249 ?_;refine cRs (xM a1) ?_;refine cF f ?_ ?_<;>intro k1 h1 f
 ·exact rtD [.cell 6 210,.tmp 7] f
 refine dIs mixed ?_;refine cDs [false] (QN a0 (sg u0)) ?_;refine lp5 (X4.eq_2 a0 a1 a2) (fun J U ib iq hE=>YM 83 [eL 0 1 a0 iR,eL 2 1 a2 iR,eX 4 (a1.row.map .d),(6,.one (.bptr 6 0),[.box [.d (.int .i64 0),.nil 1,.nil 1,.nil 1,.nil 1,.nil 1]]),(8,.one (.bptr 8 0),[.box [.d (.int .i64 a1.KK),.sref 23 0 0 a0.length,.sref 8 3 0 U.length,.sref 8 4 0 ib.length,.sref 8 5 0 iq.length,.sref 8 6 0 hE.length],.none,.none,.arr false 1 (U.map lR),.arr false 1 (ib.map sR),.arr false 1 (iq.map iR),.arr true 1 (hE.map (slR 1 iR))]),(23,.any,[.arr false 1 (a0.map iR)]),eL 26 1 a1.Yf sR,eI 27 (a1.Yf.length:Int),eI 28 (J:Int)]) (fun n1 J U ib iq hE=>a1.Yf.length<n1+J/\J<=a1.Yf.length/\U.length<=J/\ib.length<=J/\iq.length<=J/\hE.length<=J) (a1.Yf.length+1) 0 ([]:List Bool) ([]:List ByteArray) ([]:List Int) ([]:List (List Int)) (fun p1 J U ib iq hE e1 j1=>?_) (h0:=wkS [((8,3),none),((8,4),none),((8,5),none),((8,6),none)] []);try dsimp only at j1
 refine cFf e1 ?_ ?_<;>intro k4 h2 e1
 ·have i1:=ix h2;have m2:=ml a1.Yf (k4 26 _ rfl);have c1:=sl 2322432 a1.Yf (an u0 (an u1 u2));have w1:=wr J;have i2:J<a1.Xl.length:=by(have z:=IE (a0:=a1) (by simpa using h1);omega)
  simp[i1,ZB,i2];refine rpS ?_;refine cRs (WA a2 (J:Int)) ?_;refine cF e1 ?_ ?_<;>intro k5 h3 e1
  ·refine okL fun k6=>?_;refine lp2 (K5.eq_2 a0 a1 J) (fun ia iZ=>YM 83 [eL 0 1 a0 iR,eL 2 1 a2 iR,eX 4 (a1.row.map .d),(6,.one (.bptr 6 0),[.box [.d (.int .i64 0),.nil 1,.nil 1,.nil 1,.nil 1,.nil 1]]),(8,.one (.bptr 8 0),[.box [.d (.int .i64 a1.KK),.sref 23 0 0 a0.length,.sref 8 3 0 U.length,.sref 8 4 0 ib.length,.sref 8 5 0 iq.length,.sref 8 6 0 hE.length],.none,.none,.arr false 1 (U.map lR),.arr false 1 (ib.map sR),.arr false 1 (iq.map iR),.arr true 1 (hE.map (slR 1 iR))]),(10,.one (.d (.str (nth a1.Yf J))),[]),eI 11 (nth a1.Xl J),(12,.one (.sref 12 0 0 ia.length),[.arr false 1 (ia.map iR)]),eB 13 (qc a2 (J:Int)),(23,.any,[.arr false 1 (a0.map iR)]),eL 26 1 a1.Yf sR,eI 27 (a1.Yf.length:Int),eI 28 (J:Int),eL 42 1 a0 iR,eI 43 (a0.length:Int),eI 44 (iZ:Int)]) (fun n2 ia iZ=>a0.length<n2+iZ/\iZ<=a0.length/\ia.length<=0+1*iZ) (a0.length+1) ([]:List Int) 0 (fun p2 ia iZ e2 j2=>?_) (h0:=wkS [((12,0),none)] []);try dsimp only at j2
   refine cFf e2 ?_ ?_<;>intro k7 h4 e2
   ·have i3:=ix h4;have m4:=ml a0 (k7 0 _ rfl);have c2:=sl 2322432 a0 (an u0 (an u1 u2));have w2:=wr iZ;simp[i3,ZB];refine rpS ?_;refine cRs (Ut (nth a0 iZ) (nth a1.Yf J) (nth a1.Xl J) (sg (Zi (ZL.UG u1)))) ?_;exact nx2 e2 (hw:=Yk [((12,0),some (54,0))] [] rfl zCC)
   have c3:=sl 2322432 a0 (an u0 (an u1 u2));have e1:=ms e1 e2;refine qv ?_;simp;refine W9 (im:=hE.map (slR 1 iR)) (news:=([ia]:List (List Int)).map (slR 1 iR)) (l1:=[(8,6)]) (l2:=[(12,0)]) (size:=1) ?_;simp;exact nx5 e1 (hw:=Yk [((8,3),some (61,0)),((8,4),some (67,0)),((8,5),some (73,0)),((8,6),some (79,0))] [] rfl zAe)
  refine qv ?_;simp;refine W9 (im:=hE.map (slR 1 iR)) (news:=([([]:List Int)]:List (List Int)).map (slR 1 iR)) (l1:=[(8,6)]) (l2:=[]) (size:=1) ?_;simp;exact nx5 e1 (hw:=Yk [((8,3),some (61,0)),((8,4),some (67,0)),((8,5),some (73,0)),((8,6),some (79,0))] [] rfl zAe)
 have c4:=sl 2322432 a1.Yf (an u0 (an u1 u2));exact rtD [.cell 6 210,.tmp 7] (ms f e1)
theorem FV(a0:ZO)(a1:List Int)(u0:Sm 2318336 a0)(u1:Sm 2318336 a1):Sd 181 [a0.row,rL 1 iR a1] [(JK a0 a1).1.row,rB (JK a0 a1).2]:=by have f:=me (JK.eq_1 a0 a1);refine soD func181 ntmps181 ?_;refine dIs mixed ?_;refine cRs (Cd a0 (by exact sg u0)) ?_;refine cDs [true,false,false,false,false] (Ms (kv a0) a0.Doc a1 zBM zBM zBM) ?_;exact rtD [.cell 4 210,.tmp 5] f
theorem yD(h:b)(k:a:=by(intros;first|omega|with_unfolding_all (first|(have o:(nth a0.Yf U).size<=2097152:=Zi (i:=U) u0.2.2.1;omega))|((try simp only[Yd,show ∀x,IntKind.i64.wrap x=W x from fun _=>rfl]at*);omega))):a/\b:=⟨k,h⟩
theorem Mq(a0:YO)(u0:Sm 2097152 a0):Sa 182 [a0.row] [rS (jT a0)]:=by
 have f:=me (jT.eq_1 a0);refine so func182 ntmps182 ?_;refine cRs (XG a0.KK) ?_;refine lp2 (QM.eq_2 a0) (fun J U=>YM 41 [eX 1 (a0.row.map .d),(3,.one (.d (.str J)),[]),eL 10 1 a0.Shown lR,eI 11 (a0.Shown.length:Int),eI 12 (U:Int)]) (fun n1 J U=>a0.Shown.length<n1+U/\J.size<=24+2097156*U) (a0.Shown.length+1) (Z8 a0.KK) 0 (fun p1 J U e1 j1=>?_) (hI:=by exact⟨zAC,zAE,YY a0.KK⟩);try dsimp only at j1
 refine cFf e1 ?_ ?_<;>intro k2 h1 e1
 ·have i1:=ix h1;have m2:=ml a0.Shown (k2 10 _ rfl);have c1:=sl 2097152 a0.Shown u0;have w1:=wr U;simp[i1,ZB];repeat with_reducible refine yD ?_
  refine cFf e1 ?_ ?_<;>intro k3 h2 e1
  ·simp;repeat with_reducible refine yD ?_
   exact ny2 w1 e1 (hI:=by(have o:(nth a0.Yf U).size<=2097152:=Zi (i:=U) u0.2.2.1;(try dsimp only);refine⟨zAC,zAC,?_⟩;simp;omega))
  refine cFo e1 ?_ ?_<;>intro k4 h3 e1
  ·have i2:=ix h3;have m4:=ml a0.Yf (k4 27 _ rfl);have c2:=sl 2097152 a0.Yf u0;have w2:=wr U;simp[i2,ZB];repeat with_reducible refine yD ?_
   exact ny2 w2 e1 (hI:=by(have o:(nth a0.Yf U).size<=2097152:=Zi (i:=U) u0.2.2.1;(try dsimp only);refine⟨zAC,zAC,?_⟩;simp;omega))
  have c3:=sl 2097152 a0.Yf u0;simp;repeat with_reducible refine yD ?_
  exact ny2 w1 e1 (hI:=by(have o:(nth a0.Yf U).size<=2097152:=Zi (i:=U) u0.2.2.1;(try dsimp only);refine⟨zAC,zAC,?_⟩;simp;omega))
 have c4:=sl 2097152 a0.Shown u0;exact rt [.tmp 2] (ms f e1)
theorem Fc(a0:YO)(u0:Sm 2334720 a0):Sa 335 [a0.row] [rB (jO a0)]:=by
 have f:=me (jO.eq_1 a0);refine so func335 ntmps335 ?_;refine cRs (Zu (a0.Shown.length:Int) 1 6) ?_;refine cFo f ?_ ?_<;>intro k1 h1 f
 ·have q1:=h1;try simp[ZP]at q1
  simp;exact rt [.tmp 2] f
 have q1:=h1;try simp[ZP]at q1
 simp;refine lp3 (JT.eq_2 a0) (fun J U ib=>YM 113 [eX 1 (a0.row.map .d),(4,.one (.bptr 4 0),[.box [.d (.int .i64 a0.KK),.sref 4 2 0 U.length,.sref 4 3 0 ib.length],.none,.arr false 1 (U.map sR),.arr false 1 (ib.map iR)]),eL 38 1 a0.Shown lR,eI 39 (a0.Shown.length:Int),eI 40 (J:Int)]) (fun n1 J U ib=>a0.Shown.length<n1+J/\J<=a0.Shown.length/\U.length<=0+1*J/\ib.length<=0+1*J) (a0.Shown.length+1) 0 ([]:List ByteArray) ([]:List Int) (fun p1 J U ib e1 j1=>?_) (h0:=wkS [((4,2),none),((4,3),none)] []);refine cFf e1 ?_ ?_<;>intro k3 h2 e1
 ·have i1:=ix h2;have m2:=ml a0.Shown (k3 38 _ rfl);have c1:=sl 2334720 a0.Shown u0;have w1:=wr J;simp[i1,ZB];refine rpS ?_;refine cFf e1 ?_ ?_<;>intro k4 h3 e1
  ·have i2:=ik J a0.Ja;simp[i2,ZB];refine rpS ?_;refine cF e1 ?_ ?_<;>intro k5 h4 e1
   ·exact rt [.tmp 2] (ms f e1)
   refine dIo mixed ?_;have i3:=ik J a0.Yf
   simp[i3,ZB];refine rpS ?_;refine dIo mixed ?_;have i4:=ik J a0.Xl
   simp[i4,ZB];refine rpS ?_;exact nx3 e1 (hw:=Yk [((4,2),some (61,0)),((4,3),some (71,0))] [] rfl zAe)
  refine dIo mixed ?_;have i5:=ik J a0.Yf
  simp[i5,ZB];refine rpS ?_;refine gIf ?_ ?_<;>intro G
  ·have i6:=ik J a0.Xl;simp[i6,ZB,G];refine rpG ?_;refine gJf G ?_ ?_<;>intro G
   ·try(simp at G;done)
    all_goals
     have i7:=ik J a0.Ja;simp[i7,ZB,G];refine rpG ?_;refine cK e1 ?_ ?_<;>intro k9 h5 e1
     ·try(simp[G]at h5;done)
      all_goals
       exact rtg [.tmp 2] (ms f e1)
     ·try(simp[G]at h5;done)
      all_goals
       exact ny3 (an w1 G) e1
   ·try(simp at G;done)
    all_goals
     refine cK e1 ?_ ?_<;>intro cv h6 e1
     ·try(simp[G]at h6;done)
      all_goals
       exact rtg [.tmp 2] (ms f e1)
     ·try(simp[G]at h6;done)
      all_goals
       exact ny3 (an w1 G) e1
  ·refine gJf G ?_ ?_<;>intro G
   ·try(simp at G;done)
    all_goals
     have i10:=ik J a0.Ja;simp[i10,ZB,G];refine rpG ?_;refine cK e1 ?_ ?_<;>intro aK h7 e1
     ·try(simp[G]at h7;done)
      all_goals
       exact rtg [.tmp 2] (ms f e1)
     ·try(simp[G]at h7;done)
      all_goals
       exact ny3 (an w1 G) e1
   ·try(simp at G;done)
    all_goals
     refine cK e1 ?_ ?_<;>intro k12 h8 e1
     ·try(simp[G]at h8;done)
      all_goals
       exact rtg [.tmp 2] (ms f e1)
     ·try(simp[G]at h8;done)
      all_goals
       exact ny3 (an w1 G) e1
 have c2:=sl 2334720 a0.Shown u0;have f:=ms f e1;refine cRs (xM (ZL.mk a0.KK U ib)) ?_;refine cGs (fun gg=>Zu a0.KK 0 999) ?_;exact rt [.tmp 2] f
theorem EB(a0:YO):Sa 336 [a0.row] [rI (jH a0)]:=by
 have f:=me (jH.eq_1 a0);refine so func336 ntmps336 ?_;refine lp2 (JM.eq_2 a0) (fun J U=>YM 18 [eI 3 J,eL 7 1 a0.Shown lR,eI 8 (a0.Shown.length:Int),eI 9 (U:Int)]) (fun n1 J U=>a0.Shown.length<n1+U/\U<=a0.Shown.length) (a0.Shown.length+1) 0 0 (fun p1 J U e1 j1=>?_);refine cFf e1 ?_ ?_<;>intro k2 h1 e1
 ·have i1:=ix h1;have m2:=ml a0.Shown (k2 7 _ rfl);have w1:=wr U;simp[i1,ZB];refine rpS ?_;refine cF e1 ?_ ?_<;>intro k3 h2 e1
  ·exact ny2 w1 e1
  exact ny2 w1 e1
 exact rt [.tmp 2] (ms f e1)
theorem yC(h:b)(k:a:=by(intros;first|omega|with_unfolding_all (first|first|omega|(have z:=Iy h1 (v:=U) i1;first|omega|(have y:=z.2.2.2 zCc;omega)))|((try simp only[Yd,show ∀x,IntKind.i64.wrap x=W x from fun _=>rfl]at*);omega))):a/\b:=⟨k,h⟩
theorem Uz(a0:Int)(a1:YO)(u0:Sm 2322432 a1):Sa 297 [rI a0,a1.row] [rI (yg a0 a1)]:=by
 have f:=me (yg.eq_1 a0 a1);refine so func297 ntmps297 ?_;refine cRs (HP a1.Methods a0) ?_;refine dIs mixed ?_;refine cRs (Fc a1 (sg u0)) ?_;refine cGs (fun gg=>EB a1) ?_;refine cF f ?_ ?_<;>intro k2 h1 f
 ·exact rt [.tmp 4] f
 refine lp2 (xE.eq_2 a0 a1) (fun J U=>YM 70 [eI 0 a0,eX 3 (a1.row.map .d),eI 5 (yf a1.Methods a0),(6,.one (.sref 6 0 0 J.length),[.arr false 1 (J.map iR)]),eL 32 1 a1.Shown lR,eI 33 (a1.Shown.length:Int),eI 34 (U:Int)]) (fun n1 J U=>a1.Shown.length<n1+U/\U<=a1.Shown.length/\J.length<=1+1*U) (a1.Shown.length+1) ([a1.KK]:List Int) 0 (fun p1 J U e1 j1=>?_) (h0:=wkS [((6,0),some (30,0))] []);try dsimp only at j1
 refine cFf e1 ?_ ?_<;>intro k4 h2 e1
 ·have i1:=ix h2;have m2:=ml a1.Shown (k4 32 _ rfl);have c1:=sl 2322432 a1.Shown u0;have w1:=wr U;simp[i1,ZB];repeat with_reducible refine yC ?_
  refine cFt e1 ?_ ?_<;>intro k5 h3 e1
  ·refine okD fun k6=>?_;refine dIo mixed ?_;have i2:U<a1.Yf.length:=zBL
   have i3:U<a1.Xl.length:=zBL;simp[i2,ZB,i3];repeat with_reducible refine yC ?_
   refine cR (Ut a0 (nth a1.Yf U) (nth a1.Xl U) (sg (Zi (YO.UG u0)))) ?_;simp;repeat with_reducible refine yC ?_
   exact nx2 e1 (hw:=Yk [((6,0),some (54,0))] [] rfl zAe)
  have i4:U<a1.Ja.length:=zBL;have i5:(yf a1.Methods a0).toNat<(nth a1.Ja U).length:=by have:=Hc a1.Methods a0;(have z:=Iy h1 (v:=U) i1;first|omega|(have y:=z.2.2.2 zCc;omega))
  simp[i4,ZB,i5];repeat with_reducible refine yC ?_
  exact nx2 e1 (hw:=Yk [((6,0),some (65,0))] [] rfl zAe)
 have c2:=sl 2322432 a1.Shown u0;have f:=ms f e1;refine cRs (JI a0 J zAN) ?_;exact rt [.tmp 4] f
theorem MM(a0:ZU)(a1:YO)(u0:Sm 2318336 a0)(u1:Sm 2318336 a1):Sd 334 [a0.row,a1.row] [rL 1 iR (KL a0 a1)]:=by
 have f:=me (KL.eq_1 a0 a1);refine soD func334 ntmps334 ?_;refine lp2 (KZ.eq_2 a0 a1) (fun J U=>YM 24 [eX 3 (a1.row.map .d),(5,.one (.sref 5 0 0 J.length),[.arr false 1 (J.map iR)]),eL 9 5 a0.ZR ZZ.row,eI 10 (a0.ZR.length:Int),eI 11 (U:Int)]) (fun n1 J U=>a0.ZR.length<n1+U/\U<=a0.ZR.length/\J.length<=0+1*U) (a0.ZR.length+1) ([]:List Int) 0 (fun p1 J U e1 j1=>?_) (h0:=wkS [((5,0),none)] []);refine cFf e1 ?_ ?_<;>intro k2 h1 e1
 ·have i1:=ix h1;have m2:=ml a0.ZR (k2 9 _ rfl);have c1:=sl 2318336 a0.ZR (an u0 u1);have w1:=wr U;simp[i1,ZB];refine rpS ?_;refine cRs (Uz (nth a0.ZR U).Method a1 (sg u1)) ?_;exact nx2 e1 (hw:=Yk [((5,0),some (21,0))] [] rfl zAe)
 have c2:=sl 2318336 a0.ZR (an u0 u1);exact rtD [.tmp 4] (ms f e1)
theorem Pc(h:b)(k:a:=by(intros;first|omega|with_unfolding_all (first|(first|omega|(have z:=YA (Zh.Xc u0);omega)))|((try simp only[Yd,show ∀x,IntKind.i64.wrap x=W x from fun _=>rfl]at*);omega))):a/\b:=⟨k,h⟩
theorem Pe(a0:Zh)(a1:YO)(u0:Sm 2314240 a0)(u1:Sm 2314240 a1):Sd 296 [a0.row,a1.row] [rL 1 (slR 1 iR) (J1 a0 a1)]:=by
 have f:=me (J1.eq_1 a0 a1);refine soD func296 ntmps296 ?_;refine lp2 (JQ.eq_2 a0 a1) (fun J U=>YM 23 [eX 3 (a1.row.map .d),(5,.one (.sref 5 0 0 J.length),[.arr true 1 (J.map (slR 1 iR))]),eL 9 2 a0.Zg ZU.row,eI 10 (a0.Zg.length:Int),eI 11 (U:Int)]) (fun n1 J U=>a0.Zg.length<n1+U/\U<=a0.Zg.length/\J.length<=U) (a0.Zg.length+1) ([]:List (List Int)) 0 (fun p1 J U e1 j1=>?_) (h0:=wkS [((5,0),none)] []);try dsimp only at j1
 refine cFf e1 ?_ ?_<;>intro k2 h1 e1
 ·have i1:=ix h1;have m2:=ml a0.Zg (k2 9 _ rfl);have c1:=sl 2314240 a0.Zg (an u0 u1);have w1:=wr U;simp[i1,ZB];repeat with_reducible refine Pc ?_
  refine cDs [false] (MM (nth a0.Zg U) a1 (sg (Zi (Zh.Xc u0))) (sg u1)) ?_;refine qv ?_;simp;refine na (im:=J.map (slR 1 iR)) (news:=([KL (nth a0.Zg U) a1]:List (List Int)).map (slR 1 iR)) (l1:=[(5,0)]) (l2:=[(18,0)]) (size:=1) rfl rfl rfl rfl zAE zAE zAE zAE zAE (by simp;(first|omega|(have z:=YA (Zh.Xc u0);omega))) ?_;simp;exact nx2 e1 (hw:=Yk [((5,0),some (20,0))] [] rfl zAe)
 have c2:=sl 2314240 a0.Zg (an u0 u1);exact rtD [.tmp 4] (ms f e1)
theorem Lw(a0:ZT)(a1:Zh)(a2:YO)(a3:Zs)(u0:Sm 2277376 a0)(u1:Sm 2277376 a1)(u2:Sm 2277376 a2)(u3:pw a1<=2097152):Sa 251 [a0.row,a1.row,a2.row,a3.row] [(Uw a0 a1 a2 a3).row]:=by have f:=me (Uw.eq_1 a0 a1 a2 a3);refine so func251 ntmps251 ?_;refine dIs mixed ?_;refine cRs (YN.rd (Pe a1 a2 zAi zAi)) ?_;refine cRs (Uz a3.Method a2 zAi) ?_;refine cRs (RI a0 a1 (J1 a1 a2) (yg a3.Method a2) a3 zAi zAi zAi zAi) ?_;exact rt [.cell 8 161] f
theorem H3(a0:ZT)(a1:ZO)(a2:YO)(u0:Sm 2273280 a0)(u1:Sm 2097152 a1)(u2:Sm 2273280 a2):Sa 183 [a0.row,a1.row,a2.row] [(jy a0 a1 a2).row]:=by have f:=me (jy.eq_1 a0 a1 a2);refine so func183 ntmps183 ?_;refine dIs mixed ?_;refine cRs (YN.rd (S5 a1 zAI)) ?_;refine cRs (Lw a0 (KH a1) a2 a1.Sig zAI zAI zAI zAI) ?_;exact rt [.cell 6 161] f
theorem Rg(h:b)(k:a:=by(intros;first|omega|with_unfolding_all (first|first|omega|(have z:=NA (xP (n:=1048576) (a0:=nth (nth a0.ZA (ZW a0 a1).1.toNat).ZE (ZW a0 a1).2.toNat) (a1:=[a2]) (Zi (ZD.YD (Zi (ZF.Z6 u0)))));omega)|(have h0:0<=(ZW a0 a1).1:=(by simp at h1;omega);have fi:=QH a0 a1 h0;omega))|((try simp only[Yd,show ∀x,IntKind.i64.wrap x=W x from fun _=>rfl]at*);omega))):a/\b:=⟨k,h⟩
theorem Bb(a0:ZF)(a1 a2:Int)(u0:Sm 1048576 a0):Sa 105 [a0.row,rI a1,rI a2] [rS (Vg a0 a1 a2)]:=by
 have f:=me (Vg.eq_1 a0 a1 a2);refine so func105 ntmps105 ?_;refine cRs (UM a0 a1) ?_;refine cFt f ?_ ?_<;>intro k1 h1 f
 ·exact rt [.tmp 6] f
 have i1:(ZW a0 a1).1.toNat<a0.ZA.length:=zBo;have i2:(ZW a0 a1).2.toNat<(nth a0.ZA (ZW a0 a1).1.toNat).ZE.length:=zBo;simp[i1,ZB,i2];repeat with_reducible refine Rg ?_
 refine cDs [true,false,false,false,false] (FV (nth (nth a0.ZA (ZW a0 a1).1.toNat).ZE (ZW a0 a1).2.toNat) ([a2]:List Int) (by exact sg (Zi (ZD.YD (Zi (ZF.Z6 u0))))) (by exact⟨Nat.le_of_ble_eq_true rfl,fun _ _=>trivial⟩)) ?_;refine cF f ?_ ?_<;>intro k2 h2 f
 ·exact rt [.tmp 6] f
 refine dIs mixed ?_;refine cR (Mq (JK (nth (nth a0.ZA (ZW a0 a1).1.toNat).ZE (ZW a0 a1).2.toNat) ([a2]:List Int)).1 (by exact ZK (n:=1048577) zAF (xP (n:=1048576) (Zi (ZD.YD (Zi (ZF.Z6 u0))))))) ?_;simp;repeat with_reducible refine Rg ?_
 refine cRs (H3 a0.Frame (nth (nth a0.ZA (ZW a0 a1).1.toNat).ZE (ZW a0 a1).2.toNat) (JK (nth (nth a0.ZA (ZW a0 a1).1.toNat).ZE (ZW a0 a1).2.toNat) ([a2]:List Int)).1 zAw zAw zAw) ?_;refine cR (km (jy a0.Frame (nth (nth a0.ZA (ZW a0 a1).1.toNat).ZE (ZW a0 a1).2.toNat) (JK (nth (nth a0.ZA (ZW a0 a1).1.toNat).ZE (ZW a0 a1).2.toNat) ([a2]:List Int)).1)) ?_;have o1:=qU (jy a0.Frame (nth (nth a0.ZA (ZW a0 a1).1.toNat).ZE (ZW a0 a1).2.toNat) (JK (nth (nth a0.ZA (ZW a0 a1).1.toNat).ZE (ZW a0 a1).2.toNat) ([a2]:List Int)).1)
 simp;repeat with_reducible refine Rg ?_
 exact rt [.tmp 6] f
theorem Gs(a0:ZO):Sa 252 [a0.row] [(xf a0).1.row,rB (xf a0).2]:=by
 have f:=me (xf.eq_1 a0);refine so func252 ntmps252 ?_;refine cFt f ?_ ?_<;>intro k1 h1 f
 ·exact rt [.cell 2 87,.tmp 3] f
 have i1:=ik (a0.ZN.ZR.length-1) a0.ZN.ZR;have m1:=ml a0.ZN.ZR (k1 7 _ rfl);have w1:IntKind.i64.wrap ((a0.ZN.ZR.length:Int)-1)=(a0.ZN.ZR.length:Int)-1:=YQ zAC zAC;simp[i1,ZB,w1,kT];refine rpS ?_;exact rt [.cell 2 87,.tmp 3] f
theorem L0(a0:ZT)(a1:Int):Sa 186 [a0.row,rI a1] [rI (OM a0 a1)]:=by
 have f:=me (OM.eq_1 a0 a1);refine so func186 ntmps186 ?_;refine cRs (Uu a0.Methods a1) ?_;refine cFf f ?_ ?_<;>intro k1 h1 f
 ·have i1:(QF a0.Methods a1).toNat<a0.Methods.length:=by have:=kQ a0.Methods a1;exact il
  simp[i1,ZB];refine rpS ?_;exact rt [.tmp 4] f
 exact rt [.tmp 4] f
theorem vn(a0:ZT)(a1:ZZ):Sa 253 [a0.row,a1.row] [rI (DU a0 a1)]:=by
 have f:=me (DU.eq_1 a0 a1);refine so func253 ntmps253 ?_;refine cRs (L0 a0 a1.Method) ?_;refine lp2 (Lm.eq_2 a0 a1) (fun J U=>YM 41 [eX 2 (a0.row.map .d),eI 5 J,eL 14 5 a1.YK ZX.row,eI 15 (a1.YK.length:Int),eI 16 (U:Int)]) (fun n1 J U=>a1.YK.length<n1+U/\U<=a1.YK.length) (a1.YK.length+1) (OM a0 a1.Method) 0 (fun p1 J U e1 j1=>?_);refine cFf e1 ?_ ?_<;>intro k2 h1 e1
 ·have i1:=ix h1;have m2:=ml a1.YK (k2 14 _ rfl);have w1:=wr U;simp[i1,ZB];refine rpS ?_;refine dIs mixed ?_;refine cRs (Vz a0.ZC (nth a1.YK U)) ?_;refine cRs (QJ a0.Zz (Xj a0.ZC (nth a1.YK U))) ?_;refine cF e1 ?_ ?_<;>intro k4 h2 e1
  ·exact rt [.tmp 4] (ms f e1)
  refine dIo mixed ?_;have i2:(YU a0.Zz (Xj a0.ZC (nth a1.YK U))).toNat<a0.Zz.length:=by have:=Js a0.Zz (Xj a0.ZC (nth a1.YK U));exact il
  simp[i2,ZB];refine rpS ?_;refine cRs (L0 a0 (nth a0.Zz (YU a0.Zz (Xj a0.ZC (nth a1.YK U))).toNat).Method) ?_;exact ny2 w1 e1
 exact rt [.tmp 4] (ms f e1)
theorem HJ(a0:ZT)(a1:ZO)(a2:Int):Sa 184 [a0.row,a1.row,rI a2] [rB (SL a0 a1 a2)]:=by have f:=me (SL.eq_1 a0 a1 a2);refine so func184 ntmps184 ?_;refine cRs (Gs a1) ?_;refine dIs mixed ?_;refine cGs (fun gg=>vn a0 (xf a1).1) ?_;exact rt [.tmp 6] f
theorem BF(a0:ZT)(a1:ZD)(a2:Int)(u0:Sm 2326528 a0)(u1:Sm 2326528 a1):Sd 107 [a0.row,a1.row,rI a2] [rL 1 iR (ke a0 a1 a2)]:=by
 have f:=me (ke.eq_1 a0 a1 a2);refine soD func107 ntmps107 ?_;refine lp2 (jP.eq_2 a0 a1 a2) (fun J U=>YM 28 [eI 2 a2,eX 3 (a0.row.map .d),(7,.one (.sref 7 0 0 J.length),[.arr false 1 (J.map iR)]),eL 11 16 a1.ZE ZO.row,eI 12 (a1.ZE.length:Int),eI 13 (U:Int)]) (fun n1 J U=>a1.ZE.length<n1+U/\U<=a1.ZE.length/\J.length<=0+1*U) (a1.ZE.length+1) ([]:List Int) 0 (fun p1 J U e1 j1=>?_) (h0:=wkS [((7,0),none)] []);refine cFf e1 ?_ ?_<;>intro k2 h1 e1
 ·have i1:=ix h1;have m2:=ml a1.ZE (k2 11 _ rfl);have c1:=sl 2326528 a1.ZE (an u0 u1);have w1:=wr U;simp[i1,ZB];refine rpS ?_;refine cRs (HJ a0 (nth a1.ZE U) a2) ?_;refine cF e1 ?_ ?_<;>intro k3 h2 e1
  ·exact nx2 e1 (hw:=Yk [((7,0),some (25,0))] [] rfl zAe)
  exact ny2 w1 e1
 have c2:=sl 2326528 a1.ZE (an u0 u1);exact rtD [.tmp 6] (ms f e1)
theorem Rs(a0:List Int)(u0:Sm 2334720 a0):Sa 106 [rL 1 iR a0] [rS (zt a0)]:=by
 have f:=me (zt.eq_1 a0);refine so func106 ntmps106 ?_;refine lp2 (VE.eq_2 a0) (fun J U=>YM 20 [(3,.one (.sref 3 0 0 J.length),[.arr false 1 (J.map sR)]),eL 6 1 a0 iR,eI 7 (a0.length:Int),eI 8 (U:Int)]) (fun n1 J U=>a0.length<n1+U/\U<=a0.length/\J.length<=U/\(∀x∈J,x.size<=24)) (a0.length+1) ([]:List ByteArray) 0 (fun p1 J U e1 j1=>?_) (hI:=by exact⟨zAC,zAC,Nat.zero_le _,Nat.zero_le _,fun x h=>by cases h⟩) (h0:=wkS [((3,0),none)] []);try dsimp only at j1
 refine cFf e1 ?_ ?_<;>intro k2 h1 e1
 ·have i1:=ix h1;have m2:=ml a0 (k2 6 _ rfl);have c1:=sl 2334720 a0 u0;have w1:=wr U;simp[i1,ZB];refine rpS ?_;refine cRs (XG (nth a0 U)) ?_;exact nx2 e1 (hI:=by(refine⟨zAC,zAC,zAC,by simp;omega,fun x hx=>?_⟩;rcases List.mem_append.1 hx with hx|hx;exact j1.2.2.2.2 x hx;simp at hx;rw[hx];exact YY _)) (hw:=Yk [((3,0),some (16,0))] [] rfl zAe)
 have c2:=sl 2334720 a0 u0;have f:=ms f e1;refine cRs (G5 J (⟨#[32]⟩:ByteArray) zAq zAq) ?_;exact rt [.tmp 2] f
theorem Ag(a0:List Z9)(a1 a2:Int):Sa 185 [rL 4 Z9.row a0,rI a1,rI a2] [rB (GA a0 a1 a2)]:=by
 have f:=me (GA.eq_1 a0 a1 a2);refine so func185 ntmps185 ?_;refine cRs (Uu a0 a1) ?_;refine gIf ?_ ?_<;>intro G
 ·have i1:(QF a0 a1).toNat<a0.length:=by have:=kQ a0 a1;exact il
  simp[i1,ZB,G];refine rpG ?_;refine gJf G ?_ ?_<;>intro G
  ·all_goals
    simp[i1,ZB,G];refine rpG ?_;exact rtg [.tmp 6] f
  ·all_goals
    exact rtg [.tmp 6] f
 ·refine gJf G ?_ ?_<;>intro G
  ·try(simp at G;done)
   all_goals
    have i3:(QF a0 a1).toNat<a0.length:=by have:=kQ a0 a1;exact il
    simp[i3,ZB,G];refine rpG ?_;exact rtg [.tmp 6] f
  ·all_goals
    exact rtg [.tmp 6] f
theorem MA(a0:ZT)(u0:Sm 2334720 a0):Sd 108 [a0.row] [rL 1 iR (Qe a0)]:=by
 have f:=me (Qe.eq_1 a0);refine soD func108 ntmps108 ?_;refine lp2 (Qd.eq_2 a0) (fun J U=>YM 57 [eX 1 (a0.row.map .d),(3,.one (.sref 3 0 0 J.length),[.arr false 1 (J.map iR)]),eL 9 3 a0.ZC Za.row,eI 10 (a0.ZC.length:Int),eI 11 (U:Int)]) (fun n1 J U=>a0.ZC.length<n1+U/\U<=a0.ZC.length/\J.length<=0+1*U) (a0.ZC.length+1) ([]:List Int) 0 (fun p1 J U e1 j1=>?_) (h0:=wkS [((3,0),none)] []);refine cFf e1 ?_ ?_<;>intro k2 h1 e1
 ·have i1:=ix h1;have m2:=ml a0.ZC (k2 9 _ rfl);have c1:=sl 2334720 a0.ZC u0;have w1:=wr U;simp[i1,ZB];refine rpS ?_;refine cRs (QJ a0.Zz (nth a0.ZC U).Key) ?_;refine cFt e1 ?_ ?_<;>intro k3 h2 e1
  ·exact ny2 w1 e1
  have i2:(YU a0.Zz (nth a0.ZC U).Key).toNat<a0.Zz.length:=by have:=Js a0.Zz (nth a0.ZC U).Key;exact il
  simp[i2,ZB];refine rpS ?_;refine dIs mixed ?_;refine cGs (fun gg=>Ag a0.Methods (nth a0.Zz (YU a0.Zz (nth a0.ZC U).Key).toNat).Method a0.Now) ?_;refine cGs (fun gg=>L0 a0 (nth a0.Zz (YU a0.Zz (nth a0.ZC U).Key).toNat).Method) ?_;refine cF e1 ?_ ?_<;>intro k5 h3 e1
  ·exact nx2 e1 (hw:=Yk [((3,0),some (54,0))] [] rfl zAe)
  exact ny2 w1 e1
 exact rtD [.tmp 2] (ms f e1)
theorem wA(h:b)(k:a:=by(intros;first|omega|with_unfolding_all (first|(have d:=vP (l:=a0.ZA) (i:=U) zAX;omega))|((try simp only[Yd,show ∀x,IntKind.i64.wrap x=W x from fun _=>rfl]at*);omega))):a/\b:=⟨k,h⟩
theorem ON(a0:ZF)(u0:Sm 2342912 a0)(u1:itn a0.ZA<=1048576):So 188 [a0.row] [rL 16 ZO.row (Yn a0)]:=by
 have f:=me (Yn.eq_1 a0);refine so func188 ntmps188 ?_;refine lp2 (RU.eq_2 a0) (fun J U=>YM 19 [(3,.one (.sref 3 0 0 J.length),[.arr false 16 (J.map ZO.row)]),eL 7 2 a0.ZA ZD.row,eI 8 (a0.ZA.length:Int),eI 9 (U:Int)]) (fun n1 J U=>a0.ZA.length<n1+U/\U<=a0.ZA.length/\J.length+itn (a0.ZA.drop U)<=1048576) (a0.ZA.length+1) ([]:List ZO) 0 (fun p1 J U e1 j1=>?_) (hI:=by((try dsimp only);simp only[List.length_nil,List.drop_zero];omega)) (h0:=wkS [((3,0),none)] []);refine cFf e1 ?_ ?_<;>intro k2 h1 e1
 ·have i1:=ix h1;have m2:=ml a0.ZA (k2 7 _ rfl);have c1:=sl 2342912 a0.ZA (an u0 u1);have w1:=wr U;simp[i1,ZB];refine evI rfl rfl rfl ?_;have c2:=sl 2342912 (nth a0.ZA U).ZE (an u0 u1);simp;repeat with_reducible refine wA ?_
  exact nx2 e1 (hI:=by(have d:=vP (l:=a0.ZA) (i:=U) zAX;(try dsimp only);simp only[List.length_append];omega)) (hw:=Yk [((3,0),some (16,0))] [] rfl zAe)
 exact rtO [.tmp 2] (ms f e1)
theorem Pq(a0 a1:List ZX)(u0:Sm 2342912 a0)(u1:a0.length+a1.length<=67108900):G2 prog 256 [rL 5 ZX.row a0] [.sl 5 (a1.map ZX.row)] [.sl 5 ((Kn a0 a1).map ZX.row)]:=by
 refine AN func256 rfl zAZ [false] zAE (fun v=>?_);simp[ntmps256];refine okL fun k1=>?_;refine nK (ι:={s:Nat×Nat×(List ZX)//X8 a0 s.1 s.2.1 s.2.2=X8 a0 (a0.length+1) 0 a1/\(1<=s.1/\a0.length<s.1+s.2.1/\s.2.1<=a0.length/\s.2.2.length<=a1.length+s.2.1)}) (fun s=>YM 34 [(1,.fix v (.one (.bptr 1 0)),[.box [.sref 1 1 0 s.1.2.2.length],.arr false 5 (s.1.2.2.map ZX.row)]),eL 8 5 a0 ZX.row,eI 9 (a0.length:Int),eI 10 (s.1.2.1:Int)]) (fun s=>s.1.1) ⟨(a0.length+1,0,a1),rfl,by first|omega|(dsimp only;omega)|simp⟩ (Qs zAE) ?_;rintro⟨⟨n1,J,U⟩,e1,j1⟩;try dsimp only at e1 j1
 obtain⟨p1,rfl⟩:∃p,n1=p+1:=⟨n1-1,zAC⟩;simp;refine cC (decide ((J:Int)<(a0.length:Int))) (fun k2 h1=>?_) (fun k2 h1=>?_)
 ·have q1:=h1;try simp at q1
  have i1:J<a0.length:=by simpa using h1
  have m2:a0.length<=9223372036854775807:=by simpa using k2 8 _ rfl
  have c1:a0.length<=2342912:=YA (xs (an u0 u1));have w1:IntKind.i64.wrap ((J:Int)+1)=(J:Int)+1:=YQ zAC zAC;simp[i1,ZB];refine rpS ?_;refine okL fun k3=>?_;refine nK (ι:={s:Nat×Bool×Nat//KQ a0 J U s.1 s.2.1 s.2.2=KQ a0 J U (U.length+1) false 0/\(1<=s.1/\U.length<s.1+s.2.2/\s.2.2<=U.length)}) (fun s=>YM 34 [(1,.fix v (.one (.bptr 1 0)),[.box [.sref 1 1 0 U.length],.arr false 5 (U.map ZX.row)]),eX 4 ((nth a0 J).row.map .d),eB 5 s.1.2.1,eL 8 5 a0 ZX.row,eI 9 (a0.length:Int),eI 10 (J:Int),(14,.one (.sref 1 1 0 U.length),[]),eI 15 (U.length:Int),eI 16 (s.1.2.2:Int)]) (fun s=>s.1.1) ⟨(U.length+1,false,0),rfl,by first|omega|(dsimp only;omega)|simp⟩ (Qs zAE) ?_;rintro⟨⟨n2,ia,iZ⟩,e2,j2⟩;try dsimp only at e2 j2
  obtain⟨p2,rfl⟩:∃p,n2=p+1:=⟨n2-1,zAC⟩;simp;refine cC (decide ((iZ:Int)<(U.length:Int))) (fun k4 h2=>?_) (fun k4 h2=>?_)
  ·have q2:=h2;try simp at q2
   have i2:iZ<U.length:=zCS;have m4:U.length<=9223372036854775807:=by simpa using k4 14 _ rfl
   have w2:IntKind.i64.wrap ((iZ:Int)+1)=(iZ:Int)+1:=YQ zAC zAC;simp[i2,ZB];refine rpS ?_;refine n8 ⟨(p2,ia||(((nth U iZ).Authority==(nth a0 J).Authority)&&(((nth U iZ).Seq==(nth a0 J).Seq)&&(((nth U iZ).Time==(nth a0 J).Time)&&(((nth U iZ).Y6==(nth a0 J).Y6)&&((nth U iZ).Mark==(nth a0 J).Mark))))),iZ+1),?_,?_⟩ zAE (Qs zCC)
   · rw[<-e2];simp only[KQ,h2,Qy,Qo]
   · first|omega|(simp at*;omega)
  ·have q2:=h2;try simp at q2
   have x1:KQ a0 J U (U.length+1) false 0=ia:=by rw[<-e2];simp only[KQ,h2,Qy,Qo]
   simp;refine cC (!ia) (fun k5 h3=>?_) (fun k5 h3=>?_)
   ·have q3:=h3;try simp at q3
    simp;refine rpS ?_;refine n8 ⟨(p1,J+1,U++([nth a0 J]:List ZX)),?_,?_⟩ zAE (Yk [((1,1),some (32,0))] [] rfl zAe)
    · rw[<-e1];simp only[X8,h1,x1,h3,Qy,Qo]
    · first|omega|(simp at*;omega)
   ·have q3:=h3;try simp at q3
    simp;refine n8 ⟨(p1,J+1,U),?_,?_⟩ zAE (Qs zAe)
    · rw[<-e1];simp only[X8,h1,x1,h3,Qy,Qo]
    · first|omega|(simp at*;omega)
 ·have q1:=h1;try simp at q1
  have c2:a0.length<=2342912:=YA (xs (an u0 u1));have x2:X8 a0 (a0.length+1) 0 a1=U:=by rw[<-e1];simp only[X8,h1,Qy,Qo]
  simp;refine nv (dm:=[.sref 1 1 0 U.length]) rfl ?_ (.inr rfl);have f1:=Kn.eq_1 a0 a1
  simp only[x2,Qy,Qo]at f1;simp[f1]
theorem BG(a0:Zh)(u0:Sm 2338816 a0)(u1:EC a0<=67108900):Sd 189 [a0.row] [rL 5 ZX.row (SS a0)]:=by
 have f:=me (SS.eq_1 a0);refine soD func189 ntmps189 ?_;refine nO (t:=3) (cells:=[.nil 5]) rfl rfl rfl rfl zAE zAE ?_;simp;refine lp2 (jD.eq_2 a0) (fun J U=>YM 44 [eX 1 (a0.row.map .d),(3,.one (.bptr 3 0),[.box [.sref 3 1 0 U.length],.arr false 5 (U.map ZX.row)]),(4,.one (.fn 256 3),[]),eL 13 2 a0.Zg ZU.row,eI 14 (a0.Zg.length:Int),eI 15 (J:Int)]) (fun n1 J U=>a0.Zg.length<n1+J/\J<=a0.Zg.length/\U.length+cnL stc (a0.Zg.drop J)+cnL List.length a0.Yl<=67108900) (a0.Zg.length+1) 0 ([]:List ZX) (fun p1 J U e1 j1=>?_) (hI:=by((try dsimp only);have u:=u1;simp only[EC]at u;simp only[List.length_nil,List.drop_zero];omega)) (h0:=wkS [((3,1),none)] []);try dsimp only at j1
 refine cFf e1 ?_ ?_<;>intro k2 h1 e1
 ·have i1:=ix h1;have m2:=ml a0.Zg (k2 13 _ rfl);have c1:=sl 2338816 a0.Zg (an u0 u1);have w1:=wr J;simp[i1,ZB];refine rpS ?_;refine lp2 (qu.eq_2 a0 J) (fun ia iZ=>YM 44 [eX 1 (a0.row.map .d),(3,.one (.bptr 3 0),[.box [.sref 3 1 0 iZ.length],.arr false 5 (iZ.map ZX.row)]),(4,.one (.fn 256 3),[]),eL 13 2 a0.Zg ZU.row,eI 14 (a0.Zg.length:Int),eI 15 (J:Int),eL 20 5 (nth a0.Zg J).ZR ZZ.row,eI 21 ((nth a0.Zg J).ZR.length:Int),eI 22 (ia:Int)]) (fun n2 ia iZ=>(nth a0.Zg J).ZR.length<n2+ia/\ia<=(nth a0.Zg J).ZR.length/\iZ.length+cnL (fun r=>r.YK.length) ((nth a0.Zg J).ZR.drop ia)+cnL stc (a0.Zg.drop (J+1))+cnL List.length a0.Yl<=67108900) ((nth a0.Zg J).ZR.length+1) 0 U (fun p2 ia iZ e2 j2=>?_) (hI:=by(have d:=vM (l:=a0.Zg) (i:=J) zAX;(try dsimp only);simp only[stc,List.drop_zero]at d⊢;omega));try dsimp only at j2
  refine cFf e2 ?_ ?_<;>intro k4 h2 e2
  ·have i2:=ix h2;have m4:=ml (nth a0.Zg J).ZR (k4 20 _ rfl);have c2:=sl 2338816 (nth a0.Zg J).ZR (an u0 u1);have w2:=wr ia;simp[i2,ZB];refine rpS ?_;refine Ip (tf:=26) (u:=3) (row:=[.sl 5 (iZ.map ZX.row)]) (iu:=[.sl 5 ((Kn (nth (nth a0.Zg J).ZR ia).YK iZ).map ZX.row)]) (cells:=[.sref 3 1 0 iZ.length]) [false] rfl rfl rfl rfl (Pq (nth (nth a0.Zg J).ZR ia).YK iZ (sg (ZZ.Mc (Zi (ZU.KE (Zi (Zh.Xc u0)))))) zA4) zAE zAE zAE zAE zAE zAE zAE zAE zAE zAE zCR zAE zAE ?_;simp;exact ny2 (an w1 w2) e2 (hI:=by(have d:=Hg (l:=(nth a0.Zg J).ZR) (i:=ia) zAX;have z:=Wy (nth (nth a0.Zg J).ZR ia).YK iZ;(try dsimp only);omega))
  have c3:=sl 2338816 (nth a0.Zg J).ZR (an u0 u1);have e1:=ms e1 e2;exact ny2 w1 e1 (hI:=by(first|omega|((try dsimp only);omega)|(simp at*;omega)))
 have c4:=sl 2338816 a0.Zg (an u0 u1);have f:=ms f e1;refine lp2 (WU.eq_2 a0) (fun hC hQ=>YM 44 [(3,.one (.bptr 3 0),[.box [.sref 3 1 0 hQ.length],.arr false 5 (hQ.map ZX.row)]),(4,.one (.fn 256 3),[]),eL 33 1 a0.Yl (slR 5 ZX.row),eI 34 (a0.Yl.length:Int),eI 35 (hC:Int)]) (fun n3 hC hQ=>a0.Yl.length<n3+hC/\hC<=a0.Yl.length/\hQ.length+cnL List.length (a0.Yl.drop hC)<=67108900) (a0.Yl.length+1) 0 U (fun p3 hC hQ e3 j3=>?_) (hI:=by((try dsimp only);simp only[List.drop_zero];omega));try dsimp only at j3
 refine cFf e3 ?_ ?_<;>intro k6 h3 e3
 ·have i3:=ix h3;have m6:=ml a0.Yl (k6 33 _ rfl);have c5:=sl 2338816 a0.Yl (an u0 u1);have w3:=wr hC;simp[i3,ZB];refine rpS ?_;refine Ip (tf:=39) (u:=3) (row:=[.sl 5 (hQ.map ZX.row)]) (iu:=[.sl 5 ((Kn (nth a0.Yl hC) hQ).map ZX.row)]) (cells:=[.sref 3 1 0 hQ.length]) [false] rfl rfl rfl rfl (Pq (nth a0.Yl hC) hQ (sg (Zi (Zh.NT u0))) zA4) zAE zAE zAE zAE zAE zAE zAE zAE zAE zAE zCR zAE zAE ?_;simp;exact ny2 w3 e3 (hI:=by(have d:=DC (l:=a0.Yl) (i:=hC) zAX;have z:=Wy (nth a0.Yl hC) hQ;(try dsimp only);omega))
 have c6:=sl 2338816 a0.Yl (an u0 u1);exact rtD [.tmp 2] (ms f e3)
theorem Nd(h:b)(k:a:=by(intros;first|omega|with_unfolding_all (first|(have z:=Rw a0;omega))|((try simp only[Yd,show ∀x,IntKind.i64.wrap x=W x from fun _=>rfl]at*);omega))):a/\b:=⟨k,h⟩
theorem Ep(a0:ZF)(u0:Sm 2334720 a0)(u1:itn a0.ZA<=1048576)(u2:EC (Zh.mk (Xa a0) [])<=67108900):Sd 110 [a0.row] [rL 5 ZX.row (yo a0)]:=by
 have f:=me (yo.eq_1 a0);refine soD func110 ntmps110 ?_;refine cRs (ON a0 zBa zBa) ?_;refine lp2 (xh.eq_2 a0) (fun J U=>YM 23 [(3,.one (.bptr 3 0),[.box [.sref 3 1 0 U.length,.nil 1],.arr false 2 (U.map ZU.row)]),eL 7 16 (Yn a0) ZO.row,eI 8 ((Yn a0).length:Int),eI 9 (J:Int)]) (fun n1 J U=>(Yn a0).length<n1+J/\J<=(Yn a0).length/\U.length<=J) ((Yn a0).length+1) 0 ([]:List ZU) (fun p1 J U e1 j1=>?_) (h0:=wkS [((3,1),none)] []);try dsimp only at j1
 refine cFf e1 ?_ ?_<;>intro k2 h1 e1
 ·have i1:=ix h1;have m2:=ml (Yn a0) (k2 7 _ rfl);have w1:=wr J;simp[i1,ZB];repeat with_reducible refine Nd ?_
  refine eIs ?_;refine evI rfl rfl rfl ?_;simp;repeat with_reducible refine Nd ?_
  exact nx2 e1 (hw:=Yk [((3,1),some (18,0))] [] rfl zAe)
 have f:=ms f e1;refine cDs [false] (BG (Zh.mk U ([]:List (List ZX))) zBi zBi) ?_;exact rtD [.tmp 2] f
theorem Gq(a0:List Yg)(a1:List Za)(a2 a3:ZX)(u0:Sm 2310144 a0)(u1:Sm 2310144 a1):Sa 187 [rL 5 Yg.row a0,rL 3 Za.row a1,a2.row,a3.row] [rB (Ru a0 a1 a2 a3)]:=by
 have f:=me (Ru.eq_1 a0 a1 a2 a3);refine so func187 ntmps187 ?_;refine cGs (fun gg=>Ui a0 a1 a2 (sg u0) (sg u1)) ?_;refine cGs (fun gg=>Ui a0 a1 a3 (sg u0) (sg u1)) ?_;refine cF f ?_ ?_<;>intro k1 h1 f
 ·exact rt [.tmp 8] f
 refine cF f ?_ ?_<;>intro k2 h2 f
 ·exact rt [.tmp 8] f
 exact rt [.tmp 8] f
theorem wy(a0:List Yg)(a1:List Za)(a2:List ZX)(u0:Sm 2306048 a0)(u1:Sm 2306048 a1)(u2:Sm 67108900 a2):Sd 109 [rL 5 Yg.row a0,rL 3 Za.row a1,rL 5 ZX.row a2] [rL 1 iR (Vt a0 a1 a2)]:=by
 have f:=me (Vt.eq_1 a0 a1 a2);refine soD func109 ntmps109 ?_;refine lp2 (MR.eq_2 a0 a1 a2) (fun J U=>YM 57 [eL 0 5 a0 Yg.row,eL 1 3 a1 Za.row,eL 2 5 a2 ZX.row,eX 7 (SJ U),eL 15 5 a2 ZX.row,eI 16 (a2.length:Int),eI 17 (J:Int)]) (fun n1 J U=>a2.length<n1+J/\J<=a2.length/\U.length=100) (a2.length+1) 0 (zB 100) (fun p1 J U e1 j1=>?_) (hI:=by first|omega|(simp;done)|(simp;omega)|(refine⟨zAC,zAC,?_⟩;first|(simp;done)|omega));try dsimp only at j1
 refine cFo e1 ?_ ?_<;>intro k2 h1 e1
 ·have i1:=ix h1;have m2:=ml a2 (k2 2 _ rfl);have c1:=sl 67108900 a2 (an u0 (an u1 u2));have w1:=wr J;simp[i1,ZB];refine rpS ?_;refine lp2 (S6.eq_2 a0 a1 a2 J) (fun ia iZ=>YM 57 [eL 0 5 a0 Yg.row,eL 1 3 a1 Za.row,eL 2 5 a2 ZX.row,eX 7 (SJ iZ),eX 9 ((nth a2 J).row.map .d),eL 15 5 a2 ZX.row,eI 16 (a2.length:Int),eI 17 (J:Int),eL 24 5 (a2.take J) ZX.row,eI 25 ((a2.take J).length:Int),eI 26 (ia:Int)]) (fun n2 ia iZ=>(a2.take J).length<n2+ia/\ia<=(a2.take J).length/\iZ.length=U.length/\iZ.length=100) ((a2.take J).length+1) 0 U (fun p2 ia iZ e2 j2=>?_) (hI:=by first|omega|(simp;done)|(simp;omega)|(refine⟨zAC,zAC,?_⟩;first|(simp;done)|omega));try dsimp only at j2
  refine cFf e2 ?_ ?_<;>intro k4 h2 e2
  ·have i2:=ix h2;have m4:=ml (a2.take J) (k4 24 _ rfl);have c2:=sl 67108900 (a2.take J) (an u0 (an u1 u2));have w2:=wr ia;have i2m:=sT i2;simp[i2,E9 i2,i2m,ZB];refine rpS ?_;refine cRs (Zu (nth a2 J).Authority 0 99) ?_;refine cGs (fun gg=>Gq a0 a1 (nth a2 J) (nth (a2.take J) ia) zB9 zB9) ?_;refine cFo e2 ?_ ?_<;>intro k5 h3 e2
   ·have q3:=h3;try simp[ZP]at q3
    have i3:(nth a2 J).Authority.toNat<iZ.length:=zBS;simp[uC i3,sY i3,RF];refine rpS ?_;exact ny2 (an w1 w2) e2 (hI:=by first|omega|(simp;done)|(simp;omega)|(refine⟨zAC,zAC,?_⟩;first|omega|(rw[List.length_set];omega)))
   have q3:=h3;try simp[ZP]at q3
   simp;exact ny2 (an w1 w2) e2 (hI:=by first|omega|(simp;done)|(simp;omega)|(refine⟨zAC,zAC,?_⟩;first|omega|(rw[List.length_set];omega)))
  have c3:=sl 67108900 (a2.take J) (an u0 (an u1 u2));have e1:=ms e1 e2;exact ny2 w1 e1 (hI:=by first|omega|(simp;done)|(simp;omega)|(refine⟨zAC,zAC,?_⟩;first|omega|(rw[List.length_set];omega)))
 have c4:=sl 67108900 a2 (an u0 (an u1 u2));have f:=ms f e1;have i4:U.length=100:=zBS;simp[rm i4,RF,i4];refine rpS ?_;refine lp2 (WC.eq_2 U) (fun hC hQ=>YM 57 [(12,.one (.sref 12 0 0 hC.length),[.arr false 1 (hC.map iR)]),eG 45 (SJ U),eI 46 (hQ:Int)]) (fun n3 hC hQ=>100<n3+hQ/\hC.length<=0+1*hQ) 101 ([]:List Int) 0 (fun p3 hC hQ e3 j3=>?_) (h0:=wkS [((12,0),none)] []);refine cFf e3 ?_ ?_<;>intro k7 h4 e3
 ·have w3:=wr hQ;have i6:hQ<U.length:=zBS;simp[pc i6,RF];refine rpS ?_;refine cF e3 ?_ ?_<;>intro k8 h5 e3
  ·exact nx2 e3 (hw:=Yk [((12,0),some (54,0))] [] rfl (by simp[w3]))
  exact ny2 w3 e3
 exact rtD [.tmp 6] (ms f e3)
theorem Hu(a0:ZZ):Sa 51 [a0.row] [rI (Rm a0)]:=by have f:=me (Rm.eq_1 a0);refine so func51 ntmps51 ?_;exact rt [.tmp 2] f
theorem FT(a0:ZU):Sa 15 [a0.row] [rI (Oj a0)]:=by
 have f:=me (Oj.eq_1 a0);refine so func15 ntmps15 ?_;refine lp2 (T9.eq_2 a0) (fun J U=>YM 35 [eX 1 (a0.row.map .d),eI 3 J,eL 9 5 a0.ZR ZZ.row,eI 10 (a0.ZR.length:Int),eI 11 (U:Int)]) (fun n1 J U=>a0.ZR.length<n1+U/\U<=a0.ZR.length) (a0.ZR.length+1) 0 0 (fun p1 J U e1 j1=>?_);refine cFf e1 ?_ ?_<;>intro k2 h1 e1
 ·have i1:=ix h1;have m2:=ml a0.ZR (k2 9 _ rfl);have w1:=wr U;simp[i1,ZB];refine rpS ?_;refine cRs (Hu (nth a0.ZR U)) ?_;exact ny2 w1 e1
 have f:=ms f e1;refine lp2 (T6.eq_2 a0) (fun ia iZ=>YM 35 [eI 3 ia,eL 21 3 a0.ZM ZV.row,eI 22 (a0.ZM.length:Int),eI 23 (iZ:Int)]) (fun n2 ia iZ=>a0.ZM.length<n2+iZ/\iZ<=a0.ZM.length) (a0.ZM.length+1) J 0 (fun p2 ia iZ e2 j2=>?_);refine cFf e2 ?_ ?_<;>intro k4 h2 e2
 ·have i2:=ix h2;have m4:=ml a0.ZM (k4 21 _ rfl);have w2:=wr iZ;simp[i2,ZB];refine rpS ?_;exact ny2 w2 e2
 exact rt [.tmp 2] (ms f e2)
theorem GH(a0:ZD):Sa 16 [a0.row] [rI (xa a0)]:=by
 have f:=me (xa.eq_1 a0);refine so func16 ntmps16 ?_;refine lp2 (Ug.eq_2 a0) (fun J U=>YM 20 [eI 3 J,eL 7 16 a0.ZE ZO.row,eI 8 (a0.ZE.length:Int),eI 9 (U:Int)]) (fun n1 J U=>a0.ZE.length<n1+U/\U<=a0.ZE.length) (a0.ZE.length+1) 0 0 (fun p1 J U e1 j1=>?_);refine cFf e1 ?_ ?_<;>intro k2 h1 e1
 ·have i1:=ix h1;have m2:=ml a0.ZE (k2 7 _ rfl);have w1:=wr U;simp[i1,ZB];refine rpS ?_;refine cRs (FT (nth a0.ZE U).ZN) ?_;exact ny2 w1 e1
 exact rt [.tmp 2] (ms f e1)
theorem Ls(a0:ZF)(a1:Int)(u0:Sm 1048576 a0)(u1:itn a0.ZA<=1048576):Sa 190 [a0.row,rI a1] [rI (kK a0 a1)]:=by
 have f:=me (kK.eq_1 a0 a1);refine so func190 ntmps190 ?_;refine cRs (ON a0 (sg u0) zAY) ?_;refine lp2 (xr.eq_2 a0 a1) (fun J U=>YM 26 [eI 1 a1,eX 2 (a0.row.map .d),eI 5 J,eL 9 16 (Yn a0) ZO.row,eI 10 ((Yn a0).length:Int),eI 11 (U:Int)]) (fun n1 J U=>(Yn a0).length<n1+U/\U<=(Yn a0).length) ((Yn a0).length+1) 0 0 (fun p1 J U e1 j1=>?_);refine cFf e1 ?_ ?_<;>intro k2 h1 e1
 ·have i1:=ix h1;have m2:=ml (Yn a0) (k2 9 _ rfl);have w1:=wr U;simp[i1,ZB];refine rpS ?_;refine cRs (VQ a0 (nth (Yn a0) U).Id u0) ?_;refine cF e1 ?_ ?_<;>intro k3 h2 e1
  ·exact ny2 w1 e1
  exact ny2 w1 e1
 exact rt [.tmp 4] (ms f e1)
theorem Jg(h:b)(k:a:=by(intros;first|omega|with_unfolding_all (first|(first|omega|(have z1:=Rt (l:=J) (b:=⟨#[43]⟩) rfl j1.2.2.2.2;have z2:=Rt (l:=ia) (b:=⟨#[47]⟩) rfl j2.2.2.2.2.2;omega)|(have z1:=Rt (l:=J) (b:=⟨#[43]⟩) rfl j1.2.2.2.2;omega)))|((try simp only[Yd,show ∀x,IntKind.i64.wrap x=W x from fun _=>rfl]at*);omega))):a/\b:=⟨k,h⟩
theorem H6(a0:ZF)(u0:Sm 1048576 a0)(u1:itn a0.ZA<=1048576):Sa 111 [a0.row] [rS (xV a0)]:=by
 have f:=me (xV.eq_1 a0);refine so func111 ntmps111 ?_;refine lp2 (Uh.eq_2 a0) (fun J U=>YM 52 [eX 1 (a0.row.map .d),(3,.one (.sref 3 0 0 J.length),[.arr false 1 (J.map sR)]),(4,.one (.nil 1),[]),eL 9 2 a0.ZA ZD.row,eI 10 (a0.ZA.length:Int),eI 11 (U:Int)]) (fun n1 J U=>a0.ZA.length<n1+U/\U<=a0.ZA.length/\J.length<=U/\(∀x∈J,x.size<=24)) (a0.ZA.length+1) ([]:List ByteArray) 0 (fun p1 J U e1 j1=>?_) (hI:=by exact⟨zAC,zAC,Nat.zero_le _,Nat.zero_le _,fun x h=>by cases h⟩) (h0:=wkS [((3,0),none)] []);try dsimp only at j1
 refine cFf e1 ?_ ?_<;>intro k2 h1 e1
 ·have i1:=ix h1;have m2:=ml a0.ZA (k2 9 _ rfl);have c1:=sl 1048576 a0.ZA (an u0 u1);have w1:=wr U;simp[i1,ZB];repeat with_reducible refine Jg ?_
  refine cR (XG ((nth a0.ZA U).ZE.length:Int)) ?_;simp;repeat with_reducible refine Jg ?_
  exact nx2 e1 (hI:=by(refine⟨zAC,zAC,zAC,by simp;omega,fun x hx=>?_⟩;rcases List.mem_append.1 hx with hx|hx;exact j1.2.2.2.2 x hx;simp at hx;rw[hx];exact YY _)) (hw:=Yk [((3,0),some (21,0))] [] rfl zAe)
 have c2:=sl 1048576 a0.ZA (an u0 u1);have f:=ms f e1;refine lp2 (Ub.eq_2 a0) (fun ia iZ=>YM 52 [eX 1 (a0.row.map .d),(3,.one (.sref 3 0 0 J.length),[.arr false 1 (J.map sR)]),(4,.one (.sref 4 0 0 ia.length),[.arr false 1 (ia.map sR)]),eI 7 (iZ:Int)]) (fun n2 ia iZ=>4<n2+iZ/\iZ<=4/\1<=iZ/\ia.length<=iZ/\(∀x∈ia,x.size<=24)) 5 ([]:List ByteArray) 1 (fun p2 ia iZ e2 j2=>?_) (hI:=by exact⟨zAC,zAC,zAC,zAC,Nat.zero_le _,fun x h=>by cases h⟩) (h0:=wkS [((4,0),none)] []);try dsimp only at j2
 refine cF e2 ?_ ?_<;>intro k4 h2 e2
 ·have w2:=wr iZ;refine cRs (Ls a0 (iZ:Int) zBa zBa) ?_;refine cR (XG (kK a0 (iZ:Int))) ?_;simp;repeat with_reducible refine Jg ?_
  exact nx2 e2 (hI:=by(have hh:=h2;simp at hh;refine⟨zAC,zAC,zAC,zAC,by simp;omega,fun x hx=>?_⟩;rcases List.mem_append.1 hx with hx|hx;exact j2.2.2.2.2.2 x hx;simp at hx;rw[hx];exact YY _)) (hw:=Yk [((4,0),some (33,0))] [] rfl (by simp[w2]))
 have f:=ms f e2;refine dIs mixed ?_;refine cR (XG a0.Frame.Now) ?_;have o1:=YY a0.Frame.Now;simp;repeat with_reducible refine Jg ?_
 refine cR (MH J (⟨#[43]⟩:ByteArray) zAd zAd) ?_;simp;repeat with_reducible refine Jg ?_
 refine cR (MH ia (⟨#[47]⟩:ByteArray) zAd zAd) ?_;simp;repeat with_reducible refine Jg ?_
 refine cR (XG (a0.Ym.length:Int)) ?_;have o2:=YY (a0.Ym.length:Int)
 simp;repeat with_reducible refine Jg ?_
 exact rt [.tmp 2] f
theorem jM(h:b)(k:a:=by(intros;first|omega|with_unfolding_all (first|first|omega|(have o:(nth a0.ZA iZ).ZE.length<=2310144:=YA (xs u0);have o2:a0.ZA.length<=2310144:=YA (xs u0);omega))|((try simp only[Yd,show ∀x,IntKind.i64.wrap x=W x from fun _=>rfl]at*);omega))):a/\b:=⟨k,h⟩
theorem xG(h:b)(k:a:=by(intros;first|omega|with_unfolding_all (first|first|omega|(have o:(nth a0.ZA iZ).ZE.length<=2310144:=YA (xs u0);have o2:a0.ZA.length<=2310144:=YA (xs u0);omega))|(simp_all;done)|(simp_all;omega)|grind|((try simp only[Yd,show ∀x,IntKind.i64.wrap x=W x from fun _=>rfl]at*);omega))):a/\b:=⟨k,h⟩
theorem wc(a0:ZF)(u0:Sm 2310144 a0):Sa 192 [a0.row] [rB (GL a0)]:=by
 have f:=me (GL.eq_1 a0);refine so func192 ntmps192 ?_;refine cRs (Ig a0.Frame) ?_;refine cGs (fun gg=>Zu (a0.ZA.length:Int) 1 4) ?_;refine cGs (fun gg=>SF a0.XA) ?_;refine cGs (fun gg=>SF a0.Ym) ?_;refine cFo f ?_ ?_<;>intro k1 h1 f
 ·have q1:=h1;try simp[ZP]at q1
  simp;exact rt [.tmp 2] f
 have q1:=h1;try simp[ZP]at q1
 simp;refine lp1 (Ng.eq_2 a0) (fun J=>YM 167 [eX 1 (a0.row.map .d),eX 3 (a0.Frame.row.map .d),eL 71 7 a0.Zd YL.row,eI 72 (a0.Zd.length:Int),eI 73 (J:Int)]) (fun n1 J=>a0.Zd.length<n1+J/\J<=a0.Zd.length) (a0.Zd.length+1) 0 (fun p1 J e1 j1=>?_);try dsimp only at j1
 refine cFf e1 ?_ ?_<;>intro k3 h2 e1
 ·have i1:=ix h2;have m2:=ml a0.Zd (k3 71 _ rfl);have c1:=sl 2310144 a0.Zd u0;have w1:=wr J;simp[i1,ZB];repeat with_reducible refine jM ?_
  refine cRs (NY a0.Frame.Zz (nth a0.Zd J) (sg (ZT.XD (ZF.Yx u0)))) ?_;refine cGs (fun gg=>LC a0.Zd (nth a0.Zd J).Zk) ?_;refine gIo ?_ ?_<;>intro G
  ·have fk:=G;have g1:=G;try simp at g1
   have i2:=ik J a0.YW;simp[i2,ZB,G];repeat with_reducible refine xG ?_
   refine cGo (fun gg=>Zu (nth a0.YW J) (-1) 10001) ?_;simp[G];repeat with_reducible refine xG ?_
   refine cKo e1 ?_ ?_<;>intro k4 h3 e1
   ·have q3:=h3;try simp[ZP]at q3
    have f:=ms f e1;simp[G];repeat with_reducible refine xG ?_
    exact rtg [.tmp 2] f
   ·have q3:=h3;try simp[ZP]at q3
    simp[G];repeat with_reducible refine xG ?_
    exact ny1 (an w1 G) e1
  ·have fk:=G;simp[G];repeat with_reducible refine xG ?_
   refine sGo ?_;simp[G];repeat with_reducible refine xG ?_
   refine cKo e1 ?_ ?_<;>intro k5 h4 e1
   ·have q4:=h4;try simp[ZP]at q4
    have f:=ms f e1;simp[G];repeat with_reducible refine xG ?_
    exact rtg [.tmp 2] f
   ·simp[G]at h4
 have c2:=sl 2310144 a0.Zd u0;have f:=ms f e1;refine lp2 (NX.eq_2 a0) (fun ia iZ=>YM 167 [eX 1 (a0.row.map .d),eX 3 (a0.Frame.row.map .d),(6,.one (.sref 6 0 0 ia.length),[.arr false 1 (ia.map iR)]),eL 103 2 a0.ZA ZD.row,eI 104 (a0.ZA.length:Int),eI 105 (iZ:Int)]) (fun n2 ia iZ=>a0.ZA.length<n2+iZ/\ia.length<=2310144*iZ) (a0.ZA.length+1) ([]:List Int) 0 (fun p2 ia iZ e2 j2=>?_) (h0:=wkS [((6,0),none)] []);try dsimp only at j2
 refine cFf e2 ?_ ?_<;>intro k7 h5 e2
 ·have i4:=ix h5;have m4:=ml a0.ZA (k7 103 _ rfl);have c3:=sl 2310144 a0.ZA u0;have w2:=wr iZ;simp[i4,ZB];repeat with_reducible refine jM ?_
  refine cRs (yY (nth a0.ZA iZ)) ?_;refine cF e2 ?_ ?_<;>intro k8 h6 e2
  ·exact rt [.tmp 2] (ms f e2)
  refine lp2 (NV.eq_2 a0 iZ) (fun hC hQ=>YM 167 [eX 1 (a0.row.map .d),eX 3 (a0.Frame.row.map .d),(6,.one (.sref 6 0 0 hC.length),[.arr false 1 (hC.map iR)]),eL 103 2 a0.ZA ZD.row,eI 104 (a0.ZA.length:Int),eI 105 (iZ:Int),eL 120 16 (nth a0.ZA iZ).ZE ZO.row,eI 121 ((nth a0.ZA iZ).ZE.length:Int),eI 122 (hQ:Int)]) (fun n3 hC hQ=>(nth a0.ZA iZ).ZE.length<n3+hQ/\hQ<=(nth a0.ZA iZ).ZE.length/\hC.length<=2310144*iZ+hQ) ((nth a0.ZA iZ).ZE.length+1) ia 0 (fun p3 hC hQ e3 j3=>?_);try dsimp only at j3
  refine cFf e3 ?_ ?_<;>intro cv h7 e3
  ·have i5:=ix h7;have m6:=ml (nth a0.ZA iZ).ZE (cv 120 _ rfl);have c4:=sl 2310144 (nth a0.ZA iZ).ZE u0;have w3:=wr hQ;simp[i5,ZB];repeat with_reducible refine jM ?_
   refine cRs (WA hC (nth (nth a0.ZA iZ).ZE hQ).Id) ?_;refine cFt e3 ?_ ?_<;>intro aK h8 e3
   ·have e2:=ms e2 e3;exact rt [.tmp 2] (ms f e2)
   simp;repeat with_reducible refine jM ?_
   exact nx2 e3 (hI:=by(have o:(nth a0.ZA iZ).ZE.length<=2310144:=YA (xs u0);first|omega|(simp at*;omega))) (hw:=Yk [((6,0),some (141,0))] [] rfl (by simp[w2,w3]))
  have c5:=sl 2310144 (nth a0.ZA iZ).ZE u0;have e2:=ms e2 e3;exact ny2 w2 e2 (hI:=by(have o:(nth a0.ZA iZ).ZE.length<=2310144:=YA (xs u0);first|omega|(simp at*;omega)))
 have c6:=sl 2310144 a0.ZA u0;have f:=ms f e2;refine lp1 (N7.eq_2 a0) (fun eE=>YM 167 [eX 1 (a0.row.map .d),eX 3 (a0.Frame.row.map .d),eL 145 1 a0.XW iR,eI 146 (a0.XW.length:Int),eI 147 (eE:Int)]) (fun n4 eE=>a0.XW.length<n4+eE/\eE<=a0.XW.length) (a0.XW.length+1) 0 (fun p4 eE e4 j4=>?_);try dsimp only at j4
 refine cFf e4 ?_ ?_<;>intro aL h9 e4
 ·have i6:=ix h9;have m8:=ml a0.XW (aL 145 _ rfl);have c7:=sl 2310144 a0.XW u0;have w4:=wr eE;simp[i6,ZB];repeat with_reducible refine jM ?_
  refine cF e4 ?_ ?_<;>intro k14 dT e4
  ·exact rt [.tmp 2] (ms f e4)
  exact ny1 w4 e4
 have c8:=sl 2310144 a0.XW u0;have f:=ms f e4;refine lp1 (Nj.eq_2 a0) (fun dJ=>YM 167 [eX 3 (a0.Frame.row.map .d),eL 155 1 a0.XA iR,eI 156 (a0.XA.length:Int),eI 157 (dJ:Int)]) (fun n5 dJ=>a0.XA.length<n5+dJ/\dJ<=a0.XA.length) (a0.XA.length+1) 0 (fun p5 dJ e5 j5=>?_);try dsimp only at j5
 refine cFf e5 ?_ ?_<;>intro k16 h11 e5
 ·have i7:=ix h11;have m10:=ml a0.XA (k16 155 _ rfl);have c9:=sl 2310144 a0.XA u0;have w5:=wr dJ;simp[i7,ZB];repeat with_reducible refine jM ?_
  refine cRs (K9 a0.Frame.ZC (nth a0.XA dJ)) ?_;refine cF e5 ?_ ?_<;>intro k17 h12 e5
  ·exact rt [.tmp 2] (ms f e5)
  exact ny1 w5 e5
 have c10:=sl 2310144 a0.XA u0;exact rt [.tmp 2] (ms f e5)
theorem EL(h:b)(k:a:=by(intros;first|omega|with_unfolding_all (first|(first|omega|(have z:=Rw a0;omega)))|((try simp only[Yd,show ∀x,IntKind.i64.wrap x=W x from fun _=>rfl]at*);omega))):a/\b:=⟨k,h⟩
theorem F8(a0:ZF)(u0:Sm 1048576 a0)(u1:itn a0.ZA<=1048576):Sd 260 [a0.row] [rL 1 iR (Xt a0)]:=by
 have f:=me (Xt.eq_1 a0);refine soD func260 ntmps260 ?_;refine cRs (ON a0 (sg u0) zAY) ?_;refine lp2 (qX.eq_2 a0) (fun J U=>YM 26 [eX 1 (a0.row.map .d),(3,.one (.sref 3 0 0 J.length),[.arr false 1 (J.map iR)]),eL 7 16 (Yn a0) ZO.row,eI 8 ((Yn a0).length:Int),eI 9 (U:Int)]) (fun n1 J U=>(Yn a0).length<n1+U/\U<=(Yn a0).length/\J.length<=U) ((Yn a0).length+1) ([]:List Int) 0 (fun p1 J U e1 j1=>?_) (h0:=wkS [((3,0),none)] []);refine cFf e1 ?_ ?_<;>intro k2 h1 e1
 ·have i1:=ix h1;have m2:=ml (Yn a0) (k2 7 _ rfl);have w1:=wr U;simp[i1,ZB];refine cRs (VQ a0 (nth (Yn a0) U).Id u0) ?_;refine cFf e1 ?_ ?_<;>intro k3 h2 e1
  ·simp;repeat with_reducible refine EL ?_
   exact nx2 e1 (hw:=Yk [((3,0),some (23,0))] [] rfl zAe)
  exact ny2 w1 e1
 exact rtD [.tmp 2] (ms f e1)
theorem Hw(h:b)(k:a:=by(intros;first|omega|with_unfolding_all (first|(first|omega|(have z:=H8 a0;omega)))|((try simp only[Yd,show ∀x,IntKind.i64.wrap x=W x from fun _=>rfl]at*);omega))):a/\b:=⟨k,h⟩
theorem Ga(a0:ZF)(u0:Sm 1048576 a0)(u1:itn a0.ZA<=1048576):Sd 193 [a0.row] [rL 1 iR (PD a0)]:=by
 have f:=me (PD.eq_1 a0);refine soD func193 ntmps193 ?_;refine cRs (YN.rd (F8 a0 u0 zAY)) ?_;refine lp2 (kL.eq_2 a0) (fun J U=>YM 23 [eX 1 (a0.row.map .d),(3,.one (.sref 3 0 0 J.length),[.arr false 1 (J.map iR)]),eL 7 1 (Xt a0) iR,eI 8 ((Xt a0).length:Int),eI 9 (U:Int)]) (fun n1 J U=>(Xt a0).length<n1+U/\U<=(Xt a0).length/\J.length<=0+1*U) ((Xt a0).length+1) ([]:List Int) 0 (fun p1 J U e1 j1=>?_) (h0:=wkS [((3,0),none)] []);refine cFf e1 ?_ ?_<;>intro k2 h1 e1
 ·have i1:=ix h1;have m2:=ml (Xt a0) (k2 7 _ rfl);have w1:=wr U;simp[i1,ZB];refine cRs (WA a0.Ym (nth (Xt a0) U)) ?_;refine cFf e1 ?_ ?_<;>intro k3 h2 e1
  ·simp;repeat with_reducible refine Hw ?_
   exact nx2 e1 (hw:=Yk [((3,0),some (20,0))] [] rfl zAe)
  exact ny2 w1 e1
 exact rtD [.tmp 2] (ms f e1)
theorem vA(a0:ZF)(u0:Sm 1048576 a0)(u1:itn a0.ZA<=1048576):Sa 112 [a0.row] [rS (kx a0)]:=by
 have f:=me (kx.eq_1 a0);refine so func112 ntmps112 ?_;refine cRs (wc a0 (sg u0)) ?_;refine cF f ?_ ?_<;>intro k1 h1 f
 ·exact rt [.tmp 2] f
 refine cRs (YN.rd (Ga a0 u0 zAY)) ?_;refine cF f ?_ ?_<;>intro k2 h2 f
 ·exact rt [.tmp 2] f
 exact rt [.tmp 2] f
theorem JP(h:b)(k:a:=by(intros;first|omega|with_unfolding_all (first|first|omega|(have z:=Qh u1;have z2:=YY (a2.length:Int);omega)|(simp[YH,ZP,Yd]at*;omega))|((try simp only[Yd,show ∀x,IntKind.i64.wrap x=W x from fun _=>rfl]at*);omega))):a/\b:=⟨k,h⟩
theorem Am(a0:ZF)(a1:ByteArray)(a2:List Int)(u0:Sm 1048576 a0)(u1:Sm 1048577 a1)(u2:Sm 1048577 a2)(u3:itn a0.ZA<=1048576)(u4:EC (Zh.mk (Xa a0) [])<=67108900):Sa 62 [a0.row,rS a1,rL 1 iR a2] [rS (Pb a0 a1 a2)]:=by
 have f:=me (Pb.eq_1 a0 a1 a2);refine vF func62 rfl zAZ ?_;simp[ntmps62];refine zCp ?_;refine cR (XG (a2.length:Int)) ?_;have o1:=YY (a2.length:Int);simp;refine zCp ?_;refine cF f ?_ ?_<;>intro k1 h1 f
 ·refine cY h1 ?_;refine dIo mixed ?_;have i1:0<a2.length:=zAa
  simp[i1,ZB];refine zCp ?_;refine cRs (JC a0 (nth a2 0)) ?_;have c1:=sl 1048576 a0.ZA (an u0 (an u1 (an u2 (an u3 u4))))
  have w1:IntKind.i64.wrap ((a0.ZA.length:Int)-1)=(a0.ZA.length:Int)-1:=YQ zAC zAC;refine cFo f ?_ ?_<;>intro k3 h2 f
  ·have q2:=h2;try simp[w1,YH,ZP]at q2
   simp;exact rt [.tmp 6] f
  have q2:=h2;try simp[w1,YH,ZP]at q2
  simp;refine cZ (lx (b:=(⟨#[106,117,100,103,101,32,49]⟩:ByteArray)) h1) ?_;refine cY h1 ?_;refine dIo mixed ?_;have i2:(nth a2 0).toNat<a0.ZA.length:=zAa
  simp[i1,ZB,i2];refine zCp ?_;refine cRs (Lj a0.Frame (nth a0.ZA (nth a2 0).toNat) (ZF.Yx u0) (Zi (ZF.Z6 u0))) ?_;exact rt [.tmp 6] f
 refine cF f ?_ ?_<;>intro k5 h3 f
 ·refine cY h3 ?_;refine dIo mixed ?_;have i3:0<a2.length:=zAa
  simp[i3,ZB];refine zCp ?_;refine cRs (JC a0 (nth a2 0)) ?_;have c2:=sl 1048576 a0.ZA (an u0 (an u1 (an u2 (an u3 u4))))
  have w2:IntKind.i64.wrap ((a0.ZA.length:Int)-1)=(a0.ZA.length:Int)-1:=YQ zAC zAC;refine cFo f ?_ ?_<;>intro k7 h4 f
  ·have q4:=h4;try simp[w2,YH,ZP]at q4
   simp;exact rt [.tmp 6] f
  have q4:=h4;try simp[w2,YH,ZP]at q4
  simp;refine cZ (lx (b:=(⟨#[106,117,100,103,101,32,49]⟩:ByteArray)) h3) ?_;refine cZ h1 ?_;refine cZ (lx (b:=(⟨#[104,105,100,101,32,50]⟩:ByteArray)) h3) ?_;refine cY h3 ?_;refine dIo mixed ?_;have i4:(nth a2 0).toNat<a0.ZA.length:=zAa
  have i5:1<a2.length:=zAa;simp[i3,ZB,i4,i5];refine zCp ?_;refine cRs (YN.rd (BF a0.Frame (nth a0.ZA (nth a2 0).toNat) (nth a2 1) (sg (ZF.Yx u0)) (sg (Zi (ZF.Z6 u0))))) ?_;refine cRs (Rs (ke a0.Frame (nth a0.ZA (nth a2 0).toNat) (nth a2 1)) zAy) ?_;exact rt [.tmp 6] f
 refine cF f ?_ ?_<;>intro k9 h5 f
 ·refine okD fun cv=>?_;refine dIo mixed ?_;have i6:0<a2.length:=zAa
  simp[i6,ZB];refine zCp ?_;refine cRs (JC a0 (nth a2 0)) ?_;have c3:=sl 1048576 a0.ZA (an u0 (an u1 (an u2 (an u3 u4))))
  have w3:IntKind.i64.wrap ((a0.ZA.length:Int)-1)=(a0.ZA.length:Int)-1:=YQ zAC zAC;refine cFo f ?_ ?_<;>intro aK h6 f
  ·have q6:=h6;try simp[w3,YH,ZP]at q6
   simp;exact rt [.tmp 6] f
  have q6:=h6;try simp[w3,YH,ZP]at q6
  simp;refine cZ (lx (b:=(⟨#[106,117,100,103,101,32,49]⟩:ByteArray)) h5) ?_;refine cZ h1 ?_;refine cZ (lx (b:=(⟨#[104,105,100,101,32,50]⟩:ByteArray)) h5) ?_;refine cZ h3 ?_;refine cZ (lx (b:=(⟨#[112,108,97,110,32,48]⟩:ByteArray)) h5) ?_;refine cZ (lx (b:=(⟨#[108,105,97,114,115,32,48]⟩:ByteArray)) h5) ?_;refine cY h5 ?_;refine dIo mixed ?_;have i7:(nth a2 0).toNat<a0.ZA.length:=zAa
  simp[i6,ZB,i7];refine zCp ?_;refine cRs (GH (nth a0.ZA (nth a2 0).toNat)) ?_;refine cRs (XG (xa (nth a0.ZA (nth a2 0).toNat))) ?_;exact rt [.tmp 6] f
 refine cF f ?_ ?_<;>intro aL h7 f
 ·refine okD fun k14=>?_;refine dIo mixed ?_;have i8:0<a2.length:=zAa
  simp[i8,ZB];refine zCp ?_;refine cRs (UM a0 (nth a2 0)) ?_;refine cF f ?_ ?_<;>intro k15 h8 f
  ·exact rt [.tmp 6] f
  refine dIo mixed ?_;simp[i8,ZB];refine zCp ?_;refine cRs (VQ a0 (nth a2 0) u0) ?_;refine cRs (km (Qp a0 (nth a2 0))) ?_;exact rt [.tmp 6] f
 refine cZ h1 ?_;refine cF f ?_ ?_<;>intro k17 h9 f
 ·refine okD fun k18=>?_;refine dIo mixed ?_;have i9:0<a2.length:=zAa
  have i10:1<a2.length:=zAa;simp[i9,ZB,i10];refine zCp ?_;refine cRs (Bb a0 (nth a2 0) (nth a2 1) u0) ?_;exact rt [.tmp 6] f
 refine cZ h3 ?_;refine cF f ?_ ?_<;>intro k19 dT f
 ·refine cRs (YN.rd (MA a0.Frame (sg (ZF.Yx u0)))) ?_;refine cRs (Rs (Qe a0.Frame) zAy) ?_;exact rt [.tmp 6] f
 refine cF f ?_ ?_<;>intro k20 h11 f
 ·refine okD fun k21=>?_;refine dIs mixed ?_;refine cRs (YN.rd (Ep a0 zBH zBH zBH)) ?_;refine cRs (YN.rd (wy a0.Frame.Zz a0.Frame.ZC (yo a0) zA0 zA0 zA0)) ?_;refine cRs (Rs (Vt a0.Frame.Zz a0.Frame.ZC (yo a0)) zAy) ?_;exact rt [.tmp 6] f
 refine cZ h5 ?_;refine cF f ?_ ?_<;>intro k22 h12 f
 ·refine cRs (H6 a0 zBH zBH) ?_;exact rt [.tmp 6] f
 refine cF f ?_ ?_<;>intro k23 h13 f
 ·refine cRs (vA a0 zBH zBH) ?_;refine cF f ?_ ?_<;>intro k24 h14 f
  ·exact rt [.tmp 6] f
  exact rt [.tmp 6] f
 exact rt [.tmp 6] f
theorem Qt(h:b)(k:a:=by(intros;first|omega|with_unfolding_all (first|first|omega|(have z:=Qh (Zi (i:=0) (QK (n:=1048577) (a0:=a1) zBJ));have z2:=YY ((Ze (Zq a1).tail).1.length:Int);omega)|(have z:0<(Zq a1).length:=(by exact List.length_pos_iff.2 (fun e=>by rw[e]at h1;simp at h1));omega))|((try simp only[Yd,show ∀x,IntKind.i64.wrap x=W x from fun _=>rfl]at*);omega))):a/\b:=⟨k,h⟩
theorem Ar(a0:ZF)(a1:ByteArray)(u0:Sm 1048576 a0)(u1:Sm 1048576 a1)(u2:itn a0.ZA<=1048576)(u3:EC (Zh.mk (Xa a0) [])<=67108900):Sa 23 [a0.row,rS a1] [(QU a0 a1).1.row,rS (QU a0 a1).2]:=by
 have f:=me (QU.eq_1 a0 a1);refine so func23 ntmps23 ?_;refine cRs (YN.rd (wj a1 (by exact sg u1))) ?_;refine cFt f ?_ ?_<;>intro k1 h1 f
 ·exact rt [.cell 4 33,.tmp 5] f
 have i1:0<(Zq a1).length:=zAM;simp[i1,ZB];refine zCn ?_;refine cF f ?_ ?_<;>intro k2 h2 f
 ·refine cRs (LV a0 (Zq a1) 4 zAc zAc zAc) ?_;exact rt [.cell 4 33,.tmp 5] f
 refine cF f ?_ ?_<;>intro k3 h3 f
 ·refine cRs (LV a0 (Zq a1) 3 zAc zAc zAc) ?_;exact rt [.cell 4 33,.tmp 5] f
 refine cFt f ?_ ?_<;>intro k4 h4 f
 ·refine cRs (Cc a0 (Zq a1) zA3 zA3 zA3) ?_;exact rt [.cell 4 33,.tmp 5] f
 simp;refine zCn ?_;refine cRs (YN.rd (TQ ((Zq a1).tail) (by exact ZK (n:=1048577) zAF (tx (QK (n:=1048577) (a0:=a1) zBJ))))) ?_;refine cF f ?_ ?_<;>intro k5 h5 f
 ·exact rt [.cell 4 33,.tmp 5] f
 refine dIo mixed ?_;simp[i1,ZB];refine zCn ?_;refine cR (XG ((Ze ((Zq a1).tail)).1.length:Int)) ?_;have o1:=YY ((Ze ((Zq a1).tail)).1.length:Int)
 simp;refine zCn ?_;refine cF f ?_ ?_<;>intro k7 h6 f
 ·refine okD fun k8=>?_;refine dIo mixed ?_;have i2:0<(Ze ((Zq a1).tail)).1.length:=zAM
  simp[i2,ZB];refine zCn ?_;refine cRs (JR a0 (Zo.mk 1 (nth (Ze ((Zq a1).tail)).1 0) 0 0 0 (ZL.mk 0 ([]:List ByteArray) ([]:List Int)) ([]:List Int)) zAU zAU) ?_;exact rt [.cell 4 33,.tmp 5] f
 refine cF f ?_ ?_<;>intro k9 h7 f
 ·refine okD fun cv=>?_;refine dIo mixed ?_;have i3:0<(Ze ((Zq a1).tail)).1.length:=zAM
  simp[i3,ZB];refine zCn ?_;refine cRs (JR a0 (Zo.mk 3 (nth (Ze ((Zq a1).tail)).1 0) 0 0 0 (ZL.mk 0 ([]:List ByteArray) ([]:List Int)) ([]:List Int)) zAU zAU) ?_;exact rt [.cell 4 33,.tmp 5] f
 refine cF f ?_ ?_<;>intro aK h8 f
 ·refine okD fun k12=>?_;refine dIo mixed ?_;have i4:0<(Ze ((Zq a1).tail)).1.length:=zAM
  simp[i4,ZB];refine zCn ?_;refine cRs (JR a0 (Zo.mk 4 (nth (Ze ((Zq a1).tail)).1 0) 0 0 0 (ZL.mk 0 ([]:List ByteArray) ([]:List Int)) ([]:List Int)) zAU zAU) ?_;exact rt [.cell 4 33,.tmp 5] f
 refine cF f ?_ ?_<;>intro aL h9 f
 ·refine okD fun k14=>?_;refine dIo mixed ?_;have i5:0<(Ze ((Zq a1).tail)).1.length:=zAM
  simp[i5,ZB];refine zCn ?_;refine cRs (JR a0 (Zo.mk 7 (nth (Ze ((Zq a1).tail)).1 0) 0 0 0 (ZL.mk 0 ([]:List ByteArray) ([]:List Int)) ([]:List Int)) zAU zAU) ?_;exact rt [.cell 4 33,.tmp 5] f
 refine cF f ?_ ?_<;>intro k15 dT f
 ·refine okD fun k16=>?_;refine dIo mixed ?_;have i6:0<(Ze ((Zq a1).tail)).1.length:=zAM
  have i7:1<(Ze ((Zq a1).tail)).1.length:=zAM;have i8:2<(Ze ((Zq a1).tail)).1.length:=zAM;simp[i6,ZB,i7,i8];refine zCn ?_;refine cRs (JR a0 (Zo.mk 6 (nth (Ze ((Zq a1).tail)).1 0) (nth (Ze ((Zq a1).tail)).1 1) (nth (Ze ((Zq a1).tail)).1 2) 0 (ZL.mk 0 ([]:List ByteArray) ([]:List Int)) ([]:List Int)) zAU zAU) ?_;exact rt [.cell 4 33,.tmp 5] f
 refine cF f ?_ ?_<;>intro k17 h11 f
 ·refine okD fun k18=>?_;refine dIo mixed ?_;have i9:0<(Ze ((Zq a1).tail)).1.length:=zAM
  have i10:1<(Ze ((Zq a1).tail)).1.length:=zAM;simp[i9,ZB,i10];refine zCn ?_;refine cRs (JR a0 (Zo.mk 9 (nth (Ze ((Zq a1).tail)).1 0) (nth (Ze ((Zq a1).tail)).1 1) 0 0 (ZL.mk 0 ([]:List ByteArray) ([]:List Int)) ([]:List Int)) zAU zAU) ?_;exact rt [.cell 4 33,.tmp 5] f
 refine cF f ?_ ?_<;>intro k19 h12 f
 ·refine okD fun k20=>?_;refine dIo mixed ?_;have i11:0<(Ze ((Zq a1).tail)).1.length:=zAM
  have i12:1<(Ze ((Zq a1).tail)).1.length:=zAM;simp[i11,ZB,i12];refine zCn ?_;refine cRs (JR a0 (Zo.mk 10 (nth (Ze ((Zq a1).tail)).1 0) (nth (Ze ((Zq a1).tail)).1 1) 0 0 (ZL.mk 0 ([]:List ByteArray) ([]:List Int)) ([]:List Int)) zAU zAU) ?_;exact rt [.cell 4 33,.tmp 5] f
 refine dIo mixed ?_;simp[i1,ZB];refine zCn ?_;refine cRs (Am a0 (nth (Zq a1) 0) (Ze ((Zq a1).tail)).1 (by first|exact u0|exact u2|exact u3) (by exact Zi (QK (n:=1048576+1) zBJ)) (by exact jW (by have z:=YA (QK (n:=1048577) (a0:=a1) zBJ);rw[List.length_tail];omega)) zAY zAY) ?_;exact rt [.cell 4 33,.tmp 5] f
theorem jX(a0:ZF)(a1:ByteArray)(u0:Sm 1048576 a0)(u1:Sm 1048576 a1)(u2:itn a0.ZA<=1048576)(u3:EC (Zh.mk (Xa a0) [])<=67108900):Sd 7 [a0.row,rS a1] [(Zm a0 a1).1.row,rS (Zm a0 a1).2]:=by have f:=me (Zm.eq_1 a0 a1);refine soD func7 ntmps7 ?_;refine cRs (Ar a0 a1 zBb zBb zBb zBb) ?_;refine cDs [false,false,false,true,true,false,false,true,false,false,true,false] (YT (QU a0 a1).1 (by exact ZK (n:=1048577) zAF (P6 (n:=1048576) zAF u0 (fun h=>zAC) zAF))) ?_;exact rtD [.cell 4 33,.tmp 5] f
theorem Gz(a0 a1:ZT):Sa 25 [a0.row,a1.row] [rB (jq a0 a1)]:=by
 have f:=me (jq.eq_1 a0 a1);refine so func25 ntmps25 ?_;refine cF f ?_ ?_<;>intro k1 h1 f
 ·exact rt [.tmp 4] f
 refine okL fun k2=>?_;refine lp1 (kO.eq_2 a0 a1) (fun J=>YM 101 [eX 2 (a0.row.map .d),eX 3 (a1.row.map .d),eI 49 (a0.Zz.length:Int),eI 50 (J:Int)]) (fun n1 J=>a0.Zz.length<n1+J/\J<=a0.Zz.length) (a0.Zz.length+1) 0 (fun p1 J e1 j1=>?_);refine cF e1 ?_ ?_<;>intro k3 h2 e1
 ·have i1:=ix h2;have m2:=ml a0.Zz (k2 9 _ rfl);have w1:=wr J;refine dIo mixed ?_;have i2:=ik J a1.Zz;simp[i1,ZB,i2];refine rpS ?_;refine cF e1 ?_ ?_<;>intro k5 h3 e1
  ·exact rt [.tmp 4] (ms f e1)
  exact ny1 w1 e1
 have f:=ms f e1;refine okL fun k6=>?_;refine lp1 (kB.eq_2 a0 a1) (fun ia=>YM 101 [eX 2 (a0.row.map .d),eX 3 (a1.row.map .d),eI 67 (a0.ZC.length:Int),eI 68 (ia:Int)]) (fun n2 ia=>a0.ZC.length<n2+ia/\ia<=a0.ZC.length) (a0.ZC.length+1) 0 (fun p2 ia e2 j2=>?_);refine cF e2 ?_ ?_<;>intro k7 h4 e2
 ·have i3:=ix h4;have m4:=ml a0.ZC (k6 66 _ rfl);have w2:=wr ia;refine dIo mixed ?_;have i4:=ik ia a1.ZC;simp[i3,ZB,i4];refine rpS ?_;refine cF e2 ?_ ?_<;>intro k9 h5 e2
  ·exact rt [.tmp 4] (ms f e2)
  exact ny1 w2 e2
 have f:=ms f e2;refine okL fun cv=>?_;refine lp1 (kR.eq_2 a0 a1) (fun hC=>YM 101 [eX 2 (a0.row.map .d),eX 3 (a1.row.map .d),eI 85 (a0.Methods.length:Int),eI 86 (hC:Int)]) (fun n3 hC=>a0.Methods.length<n3+hC/\hC<=a0.Methods.length) (a0.Methods.length+1) 0 (fun p3 hC e3 j3=>?_);refine cF e3 ?_ ?_<;>intro aK h6 e3
 ·have i5:=ix h6;have m6:=ml a0.Methods (cv 84 _ rfl);have w3:=wr hC;refine dIo mixed ?_;have i6:=ik hC a1.Methods;simp[i5,ZB,i6];refine rpS ?_;refine cF e3 ?_ ?_<;>intro aL h7 e3
  ·exact rt [.tmp 4] (ms f e3)
  exact ny1 w3 e3
 exact rt [.tmp 4] (ms f e3)
theorem Iz(a0 a1:List ByteArray):Sa 194 [rL 1 sR a0,rL 1 sR a1] [rB (VC a0 a1)]:=by
 have f:=me (VC.eq_1 a0 a1);refine so func194 ntmps194 ?_;refine cF f ?_ ?_<;>intro k1 h1 f
 ·exact rt [.tmp 4] f
 refine lp1 (jR.eq_2 a0 a1) (fun J=>YM 26 [eL 0 1 a0 sR,eL 1 1 a1 sR,eI 12 (a0.length:Int),eI 13 (J:Int)]) (fun n1 J=>a0.length<n1+J/\J<=a0.length) (a0.length+1) 0 (fun p1 J e1 j1=>?_);refine cF e1 ?_ ?_<;>intro k3 h2 e1
 ·have i1:=ix h2;have m2:=ml a0 (k3 0 _ rfl);have w1:=wr J;refine dIo mixed ?_;have i2:=ik J a1;simp[i1,ZB,i2];refine rpS ?_;refine cF e1 ?_ ?_<;>intro k5 h3 e1
  ·exact rt [.tmp 4] (ms f e1)
  exact ny1 w1 e1
 exact rt [.tmp 4] (ms f e1)
theorem Mw(a0 a1:ZL):Sa 113 [a0.row,a1.row] [rB (yM a0 a1)]:=by have f:=me (yM.eq_1 a0 a1);refine so func113 ntmps113 ?_;refine cGs (fun gg=>Iz a0.Yf a1.Yf) ?_;refine cGs (fun gg=>yP a0.Xl a1.Xl) ?_;exact rt [.tmp 4] f
theorem ME(a0 a1:List ZV):Sa 195 [rL 3 ZV.row a0,rL 3 ZV.row a1] [rB (xv a0 a1)]:=by
 have f:=me (xv.eq_1 a0 a1);refine so func195 ntmps195 ?_;refine cF f ?_ ?_<;>intro k1 h1 f
 ·exact rt [.tmp 4] f
 refine lp1 (yE.eq_2 a0 a1) (fun J=>YM 27 [eL 0 3 a0 ZV.row,eL 1 3 a1 ZV.row,eI 12 (a0.length:Int),eI 13 (J:Int)]) (fun n1 J=>a0.length<n1+J/\J<=a0.length) (a0.length+1) 0 (fun p1 J e1 j1=>?_);refine cF e1 ?_ ?_<;>intro k3 h2 e1
 ·have i1:=ix h2;have m2:=ml a0 (k3 0 _ rfl);have w1:=wr J;refine dIo mixed ?_;have i2:=ik J a1;simp[i1,ZB,i2];refine rpS ?_;refine cRs (jS (nth a0 J) (nth a1 J)) ?_;refine cF e1 ?_ ?_<;>intro k5 h3 e1
  ·exact rt [.tmp 4] (ms f e1)
  exact ny1 w1 e1
 exact rt [.tmp 4] (ms f e1)
theorem GS(a0 a1:List ZX):Sa 261 [rL 5 ZX.row a0,rL 5 ZX.row a1] [rB (V9 a0 a1)]:=by
 have f:=me (V9.eq_1 a0 a1);refine so func261 ntmps261 ?_;refine cF f ?_ ?_<;>intro k1 h1 f
 ·exact rt [.tmp 4] f
 refine lp1 (kG.eq_2 a0 a1) (fun J=>YM 26 [eL 0 5 a0 ZX.row,eL 1 5 a1 ZX.row,eI 12 (a0.length:Int),eI 13 (J:Int)]) (fun n1 J=>a0.length<n1+J/\J<=a0.length) (a0.length+1) 0 (fun p1 J e1 j1=>?_);refine cF e1 ?_ ?_<;>intro k3 h2 e1
 ·have i1:=ix h2;have m2:=ml a0 (k3 0 _ rfl);have w1:=wr J;refine dIo mixed ?_;have i2:=ik J a1;simp[i1,ZB,i2];refine rpS ?_;refine cF e1 ?_ ?_<;>intro k5 h3 e1
  ·exact rt [.tmp 4] (ms f e1)
  exact ny1 w1 e1
 exact rt [.tmp 4] (ms f e1)
theorem Ly(a0 a1:ZZ):Sa 196 [a0.row,a1.row] [rB (zV a0 a1)]:=by
 have f:=me (zV.eq_1 a0 a1);refine so func196 ntmps196 ?_;refine cF f ?_ ?_<;>intro k1 h1 f
 ·exact rt [.tmp 4] f
 refine okL fun k2=>?_;refine lp1 (xp.eq_2 a0 a1) (fun J=>YM 57 [eX 2 (a0.row.map .d),eX 3 (a1.row.map .d),eI 36 (a0.Path.length:Int),eI 37 (J:Int)]) (fun n1 J=>a0.Path.length<n1+J/\J<=a0.Path.length) (a0.Path.length+1) 0 (fun p1 J e1 j1=>?_);refine cF e1 ?_ ?_<;>intro k3 h2 e1
 ·have i1:=ix h2;have m2:=ml a0.Path (k2 35 _ rfl);have w1:=wr J;refine dIo mixed ?_;have i2:=ik J a1.Path;simp[i1,ZB,i2];refine rpS ?_;refine cF e1 ?_ ?_<;>intro k5 h3 e1
  ·exact rt [.tmp 4] (ms f e1)
  exact ny1 w1 e1
 have f:=ms f e1;refine cRs (GS a0.YK a1.YK) ?_;exact rt [.tmp 4] f
theorem Hi(a0 a1:ZU):Sa 114 [a0.row,a1.row] [rB (qL a0 a1)]:=by
 have f:=me (qL.eq_1 a0 a1);refine so func114 ntmps114 ?_;refine cRs (ME a0.ZM a1.ZM) ?_;refine cF f ?_ ?_<;>intro k1 h1 f
 ·exact rt [.tmp 4] f
 refine okL fun k2=>?_;refine lp1 (jJ.eq_2 a0 a1) (fun J=>YM 40 [eX 2 (a0.row.map .d),eX 3 (a1.row.map .d),eI 23 (a0.ZR.length:Int),eI 24 (J:Int)]) (fun n1 J=>a0.ZR.length<n1+J/\J<=a0.ZR.length) (a0.ZR.length+1) 0 (fun p1 J e1 j1=>?_);refine cF e1 ?_ ?_<;>intro k3 h2 e1
 ·have i1:=ix h2;have m2:=ml a0.ZR (k2 22 _ rfl);have w1:=wr J;refine dIo mixed ?_;have i2:=ik J a1.ZR;simp[i1,ZB,i2];refine rpS ?_;refine cRs (Ly (nth a0.ZR J) (nth a1.ZR J)) ?_;refine cF e1 ?_ ?_<;>intro k5 h3 e1
  ·exact rt [.tmp 4] (ms f e1)
  exact ny1 w1 e1
 exact rt [.tmp 4] (ms f e1)
theorem ED(a0 a1:ZO):Sa 65 [a0.row,a1.row] [rB (qx a0 a1)]:=by have f:=me (qx.eq_1 a0 a1);refine so func65 ntmps65 ?_;refine cGs (fun gg=>Mw a0.Doc a1.Doc) ?_;refine cGs (fun gg=>Hi a0.ZN a1.ZN) ?_;exact rt [.tmp 4] f
theorem IB(a0 a1:ZD):Sa 27 [a0.row,a1.row] [rB (zT a0 a1)]:=by
 have f:=me (zT.eq_1 a0 a1);refine so func27 ntmps27 ?_;refine cF f ?_ ?_<;>intro k1 h1 f
 ·exact rt [.tmp 4] f
 refine okL fun k2=>?_;refine lp1 (xx.eq_2 a0 a1) (fun J=>YM 39 [eX 2 (a0.row.map .d),eX 3 (a1.row.map .d),eI 22 (a0.ZE.length:Int),eI 23 (J:Int)]) (fun n1 J=>a0.ZE.length<n1+J/\J<=a0.ZE.length) (a0.ZE.length+1) 0 (fun p1 J e1 j1=>?_);refine cF e1 ?_ ?_<;>intro k3 h2 e1
 ·have i1:=ix h2;have m2:=ml a0.ZE (k2 21 _ rfl);have w1:=wr J;refine dIo mixed ?_;have i2:=ik J a1.ZE;simp[i1,ZB,i2];refine rpS ?_;refine cRs (ED (nth a0.ZE J) (nth a1.ZE J)) ?_;refine cF e1 ?_ ?_<;>intro k5 h3 e1
  ·exact rt [.tmp 4] (ms f e1)
  exact ny1 w1 e1
 exact rt [.tmp 4] (ms f e1)
theorem PS(a0 a1:ZF):Sa 8 [a0.row,a1.row] [rB (z6 a0 a1)]:=by
 have f:=me (z6.eq_1 a0 a1);refine so func8 ntmps8 ?_;refine cRs (Gz a0.Frame a1.Frame) ?_;refine cGs (fun gg=>yP a0.YW a1.YW) ?_;refine cGs (fun gg=>yP a0.XW a1.XW) ?_;refine cGs (fun gg=>yP a0.XA a1.XA) ?_;refine cGs (fun gg=>yP a0.Ym a1.Ym) ?_;refine cF f ?_ ?_<;>intro k1 h1 f
 ·exact rt [.tmp 4] f
 refine okL fun k2=>?_;refine lp1 (kH.eq_2 a0 a1) (fun J=>YM 107 [eX 2 (a0.row.map .d),eX 3 (a1.row.map .d),eI 72 (a0.Zd.length:Int),eI 73 (J:Int)]) (fun n1 J=>a0.Zd.length<n1+J/\J<=a0.Zd.length) (a0.Zd.length+1) 0 (fun p1 J e1 j1=>?_);refine cF e1 ?_ ?_<;>intro k3 h2 e1
 ·have i1:=ix h2;have m2:=ml a0.Zd (k2 71 _ rfl);have w1:=wr J;refine dIo mixed ?_;have i2:=ik J a1.Zd;simp[i1,ZB,i2];refine rpS ?_;refine cF e1 ?_ ?_<;>intro k5 h3 e1
  ·exact rt [.tmp 4] (ms f e1)
  exact ny1 w1 e1
 have f:=ms f e1;refine okL fun k6=>?_;refine lp1 (kA.eq_2 a0 a1) (fun ia=>YM 107 [eX 2 (a0.row.map .d),eX 3 (a1.row.map .d),eI 90 (a0.ZA.length:Int),eI 91 (ia:Int)]) (fun n2 ia=>a0.ZA.length<n2+ia/\ia<=a0.ZA.length) (a0.ZA.length+1) 0 (fun p2 ia e2 j2=>?_);refine cF e2 ?_ ?_<;>intro k7 h4 e2
 ·have i3:=ix h4;have m4:=ml a0.ZA (k6 89 _ rfl);have w2:=wr ia;refine dIo mixed ?_;have i4:=ik ia a1.ZA;simp[i3,ZB,i4];refine rpS ?_;refine cRs (IB (nth a0.ZA ia) (nth a1.ZA ia)) ?_;refine cF e2 ?_ ?_<;>intro k9 h5 e2
  ·exact rt [.tmp 4] (ms f e2)
  exact ny1 w2 e2
 exact rt [.tmp 4] (ms f e2)
theorem Du:Sd 66 [] [rL 5 Yg.row JD]:=by have f:=me (JD.eq_1);refine soD func66 ntmps66 ?_;exact rtD [.tmp 0] f
theorem IX:Sd 67 [] [rL 4 Z9.row Qq]:=by have f:=me (Qq.eq_1);refine soD func67 ntmps67 ?_;exact rtD [.tmp 0] f
theorem CE(a0:List Yg)(a1:YL)(u0:Sm 2318336 a0):Sa 68 [rL 5 Yg.row a0,a1.row] [(RG a0 a1).1.row,rB (RG a0 a1).2]:=by
 have f:=me (RG.eq_1 a0 a1);refine so func68 ntmps68 ?_;refine dIs mixed ?_;refine cRs (YN.rd (PJ a1)) ?_;refine cRs (UT a0 a1.YG (zE a1) (sg u0) (by simp(maxDischargeDepth:=12) [Rp,ZK (m:=2322432) zAF u0];try omega)) ?_;refine cRs (FR a1) ?_;refine cGs (fun gg=>QJ a0 a1.Key) ?_;refine cF f ?_ ?_<;>intro k2 h1 f
 ·exact rt [.cell 4 72,.tmp 5] f
 exact rt [.cell 4 72,.tmp 5] f
theorem LA(a0:Int):Sd 31 [rI a0] [(YC a0).row]:=by
 have f:=me (YC.eq_1 a0);refine soD func31 ntmps31 ?_;refine dIs mixed ?_;refine cDs [false] (Du) ?_;refine cDs [false] (IX) ?_;refine qv ?_;simp;refine lp2 (Wt.eq_2) (fun J U=>YM 73 [eI 0 (if(if a0<1 then a0 else 1)>0 then(if a0<1 then a0 else 1)else 0),(2,.one (.bptr 2 0),[.box [.nil 5,.nil 3,.nil 4,.d (.int .i64 0),.d (.int .i64 0),.nil 7,.nil 1,.nil 2,.nil 1,.nil 1,.d (.int .i64 0),.nil 1]]),(3,.one (.bptr 3 0),[.box [.sref 13 0 0 JD.length,.sref 3 2 0 U.length,.sref 14 0 0 Qq.length,.d (.int .i64 (if(if a0<1 then a0 else 1)>0 then(if a0<1 then a0 else 1)else 0)),.d (.int .i64 0),.nil 7,.sref 18 0 0 3,.sref 21 0 0 2,.sref 17 0 0 4,.nil 1,.d (.int .i64 1),.nil 1],.none,.arr false 3 (U.map Za.row)]),(13,.any,[.arr false 5 (JD.map Yg.row)]),(14,.any,[.arr false 4 (Qq.map Z9.row)]),(17,.any,[.arr false 1 ((List.replicate 4 0).map iR)]),(18,.any,[.arr false 1 (([-1,-1,-1]:List Int).map iR)]),(21,.any,[.arr true 2 (([ZD.mk 0 ([]:List ZO),ZD.mk 1 ([]:List ZO)]:List ZD).map ZD.row)]),(23,.one (.sref 23 0 0 4),[.arr false 1 (([1,2,1,0]:List Int).map iR)]),eI 24 4,eI 25 (J:Int)]) (fun n1 J U=>4<n1+J/\U.length<=0+1*J) 5 0 ([]:List Za) (fun p1 J U e1 j1=>?_) (h0:=mN (t:=21) (size:=2) (rows:=[[.d (.int .i64 0),.nil 16],[.d (.int .i64 1),.nil 16]]) (news:=([ZD.mk 0 ([]:List ZO),ZD.mk 1 ([]:List ZO)]:List ZD).map ZD.row) (L:=[]) zAE zAE zAE zAE zAE zAE (wkS [((3,2),none)] []));refine cFf e1 ?_ ?_<;>intro k3 h1 e1
 ·have w1:=wr J;have i2:=ik J ([1,2,1,0]:List Int);have r1:=ZB (f:=iR) i2;try simp at r1
  simp[i2,r1,ZB];refine rpS ?_;exact nx2 e1 (hw:=Yk [((3,2),some (40,0))] [] rfl zAe)
 have f:=ms f e1;refine lp2 (WN.eq_2) (fun ia iZ=>YM 73 [eI 0 (if(if a0<1 then a0 else 1)>0 then(if a0<1 then a0 else 1)else 0),(2,.one (.bptr 2 0),[.box [.nil 5,.nil 3,.nil 4,.d (.int .i64 0),.d (.int .i64 0),.nil 7,.nil 1,.nil 2,.nil 1,.nil 1,.d (.int .i64 0),.nil 1]]),(3,.one (.bptr 3 0),[.box [.sref 13 0 0 JD.length,.sref 3 2 0 U.length,.sref 14 0 0 Qq.length,.d (.int .i64 (if(if a0<1 then a0 else 1)>0 then(if a0<1 then a0 else 1)else 0)),.d (.int .i64 0),.sref 3 6 0 iZ.length,.sref 18 0 0 3,.sref 21 0 0 2,.sref 17 0 0 4,.nil 1,.d (.int .i64 1),.nil 1],.none,.arr false 3 (U.map Za.row),.none,.none,.none,.arr false 7 (iZ.map YL.row)]),(13,.any,[.arr false 5 (JD.map Yg.row)]),(14,.any,[.arr false 4 (Qq.map Z9.row)]),(17,.any,[.arr false 1 ((List.replicate 4 0).map iR)]),(18,.any,[.arr false 1 (([-1,-1,-1]:List Int).map iR)]),(21,.any,[.arr true 2 (([ZD.mk 0 ([]:List ZO),ZD.mk 1 ([]:List ZO)]:List ZD).map ZD.row)]),(47,.one (.sref 47 0 0 3),[.arr false 7 (([YL.mk 1 11 1 0 60 1 0,YL.mk 2 12 1 20 100 1 0,YL.mk 3 13 2 40 150 2 0]:List YL).map YL.row)]),eI 48 3,eI 49 (ia:Int)]) (fun n2 ia iZ=>3<n2+ia/\iZ.length<=0+1*ia) 4 0 ([]:List YL) (fun p2 ia iZ e2 j2=>?_) (h0:=wkS [((3,6),none)] []);refine cFf e2 ?_ ?_<;>intro k5 h2 e2
 ·have w2:=wr ia;have i4:=ik ia ([YL.mk 1 11 1 0 60 1 0,YL.mk 2 12 1 20 100 1 0,YL.mk 3 13 2 40 150 2 0]:List YL);have r2:=ZB (f:=YL.row) i4;try simp at r2
  simp[i4,r2,ZB];refine rpS ?_;refine cRs (CE JD (nth ([YL.mk 1 11 1 0 60 1 0,YL.mk 2 12 1 20 100 1 0,YL.mk 3 13 2 40 150 2 0]:List YL) ia) (by simp(maxDischargeDepth:=12) [D1];try omega)) ?_;exact nx2 e2 (hw:=Yk [((3,6),some (65,0))] [] rfl (by simp[w2]))
 have f:=ms f e2;refine cF f ?_ ?_<;>intro k6 h3 f
 ·exact rtD [.cell 2 33] f
 exact rtD [.cell 2 33] f
theorem zO(h:b)(k:a:=by(intros;first|omega|with_unfolding_all (first|first|omega|(have z:=LH a0 10;omega))|((try simp only[Yd,show ∀x,IntKind.i64.wrap x=W x from fun _=>rfl]at*);omega))):a/\b:=⟨k,h⟩
theorem EU(a0:ByteArray)(u0:Sm 1048576 a0):Sd 10 [rS a0] [rL 1 sR (Xf a0).1,rB (Xf a0).2]:=by
 have f:=me (Xf.eq_1 a0);refine soD func10 ntmps10 ?_;refine cR (YN.rd (HI a0 10 (by exact sg u0))) ?_;have i1:((Zb a0 10).length-1)<(Zb a0 10).length:=by first|omega|(have z:=LH a0 10;omega)
 have mz:=YA (OX (n:=1048577) (a0:=a0) (a1:=10) (by have:=Qh u0;omega));have w1:IntKind.i64.wrap (((Zb a0 10).length:Int)-1)=((Zb a0 10).length:Int)-1:=YQ zAC zAC;simp[i1,ZB,w1,kT];repeat with_reducible refine zO ?_
 refine cFf f ?_ ?_<;>intro k1 h1 f
 ·simp[w1,kT];repeat with_reducible refine zO ?_
  refine cF f ?_ ?_<;>intro k2 h2 f
  ·exact rtD [.tmp 2,.tmp 3] f
  refine cRs (YN.rd (LA 1)) ?_;refine mL (yd.eq_2 a0) (fun J U ib iq hE gR gS gT gU gd gC gD gE gq=>YM 48 [(5,.one (.bptr 5 0),[.box [.d (.sl 5 (ib.map Yg.row)),.d (.sl 3 (iq.map Za.row)),.d (.sl 4 (hE.map Z9.row)),.d (.int .i64 gR),.d (.int .i64 gS),.d (.sl 7 (gT.map YL.row)),.d (.sl 1 (gU.map iR)),.d (.sl 2 (gd.map ZD.row)),.d (.sl 1 (gC.map iR)),.d (.sl 1 (gD.map iR)),.d (.int .i64 gE),.d (.sl 1 (gq.map iR))]]),(6,.one (.sref 6 0 0 J.length),[.arr false 1 (J.map sR)]),eL 29 1 ((Zb a0 10).take ((Zb a0 10).length-1)) sR,eI 30 (((Zb a0 10).take ((Zb a0 10).length-1)).length:Int),eI 31 (U:Int)]) (fun n1 J U ib iq hE gR gS gT gU gd gC gD gE gq=>((Zb a0 10).take ((Zb a0 10).length-1)).length<n1+U/\U<=((Zb a0 10).take ((Zb a0 10).length-1)).length/\J.length<=U/\((Zb a0 10).take ((Zb a0 10).length-1)).length<=60/\Sm (210+U) (ZF.mk (ZT.mk ib iq hE gR gS) gT gU gd gC gD gE gq)/\gd.length=2) (((Zb a0 10).take ((Zb a0 10).length-1)).length+1) ([]:List ByteArray) 0 (YC 1).Frame.Zz (YC 1).Frame.ZC (YC 1).Frame.Methods (YC 1).Frame.Jb (YC 1).Frame.Now (YC 1).Zd (YC 1).YW (YC 1).ZA (YC 1).XW (YC 1).XA (YC 1).Next (YC 1).Ym (fun p1 J U ib iq hE gR gS gT gU gd gC gD gE gq e1 j1=>?_) (hI:=by exact⟨zAC,zAC,Nat.zero_le _,Nat.zero_le _,by first|(have hh:=of_decide_eq_false h2;omega)|(have hh:=of_decide_eq_false h4;omega),LG 1 zAF,Pr 1⟩) (h0:=wkS [((6,0),none)] []);try dsimp only at j1
  refine cFf e1 ?_ ?_<;>intro k4 h3 e1
  ·have i2:=ix h3;have m2:=ml ((Zb a0 10).take ((Zb a0 10).length-1)) (k4 29 _ rfl);have w2:=wr U;have i2m:=sT i2;simp[i2,E9 i2,i2m,ZB];repeat with_reducible refine zO ?_
   refine cR (YN.rd (jX (ZF.mk (ZT.mk ib iq hE gR gS) gT gU gd gC gD gE gq) (nth ((Zb a0 10).take ((Zb a0 10).length-1)) U) zAD zAD zAD zAD)) ?_;simp;repeat with_reducible refine zO ?_
   exact mY e1 (hI:=by((try dsimp only);refine⟨zAC,zAC,zAC,by simp;omega,zAC,?_,?_⟩;exact Pd (n:=210+U) zAC j1.2.2.2.2.2.1 zAC;exact(jh _ _).trans j1.2.2.2.2.2.2)) (hw:=Yk [((6,0),some (45,0))] [] rfl zCC)
  exact rtD [.tmp 2,.tmp 3] (ms f e1)
 refine cF f ?_ ?_<;>intro k5 h4 f
 ·exact rtD [.tmp 2,.tmp 3] f
 refine cRs (YN.rd (LA 1)) ?_;refine mL (Sb.eq_2 a0) (fun ia iZ gI gJ gZ fW fX fY fZ fQ gr gu gv gw=>YM 48 [(5,.one (.bptr 5 0),[.box [.d (.sl 5 (gI.map Yg.row)),.d (.sl 3 (gJ.map Za.row)),.d (.sl 4 (gZ.map Z9.row)),.d (.int .i64 fW),.d (.int .i64 fX),.d (.sl 7 (fY.map YL.row)),.d (.sl 1 (fZ.map iR)),.d (.sl 2 (fQ.map ZD.row)),.d (.sl 1 (gr.map iR)),.d (.sl 1 (gu.map iR)),.d (.int .i64 gv),.d (.sl 1 (gw.map iR))]]),(6,.one (.sref 6 0 0 ia.length),[.arr false 1 (ia.map sR)]),eL 29 1 (Zb a0 10) sR,eI 30 ((Zb a0 10).length:Int),eI 31 (iZ:Int)]) (fun n2 ia iZ gI gJ gZ fW fX fY fZ fQ gr gu gv gw=>(Zb a0 10).length<n2+iZ/\iZ<=(Zb a0 10).length/\ia.length<=iZ/\(Zb a0 10).length<=60/\Sm (210+iZ) (ZF.mk (ZT.mk gI gJ gZ fW fX) fY fZ fQ gr gu gv gw)/\fQ.length=2) ((Zb a0 10).length+1) ([]:List ByteArray) 0 (YC 1).Frame.Zz (YC 1).Frame.ZC (YC 1).Frame.Methods (YC 1).Frame.Jb (YC 1).Frame.Now (YC 1).Zd (YC 1).YW (YC 1).ZA (YC 1).XW (YC 1).XA (YC 1).Next (YC 1).Ym (fun p2 ia iZ gI gJ gZ fW fX fY fZ fQ gr gu gv gw e2 j2=>?_) (hI:=by exact⟨zAC,zAC,Nat.zero_le _,Nat.zero_le _,by first|(have hh:=of_decide_eq_false h2;omega)|(have hh:=of_decide_eq_false h4;omega),LG 1 zAF,Pr 1⟩) (h0:=wkS [((6,0),none)] []);try dsimp only at j2
 refine cFf e2 ?_ ?_<;>intro k7 h5 e2
 ·have i3:=ix h5;have m4:=ml (Zb a0 10) (k7 29 _ rfl);have w3:=wr iZ;simp[i3,ZB];repeat with_reducible refine zO ?_
  refine cR (YN.rd (jX (ZF.mk (ZT.mk gI gJ gZ fW fX) fY fZ fQ gr gu gv gw) (nth (Zb a0 10) iZ) zAD zAD zAD zAD)) ?_;simp;repeat with_reducible refine zO ?_
  exact mY e2 (hI:=by((try dsimp only);refine⟨zAC,zAC,zAC,by simp;omega,zAC,?_,?_⟩;exact Pd (n:=210+iZ) zAC j2.2.2.2.2.2.1 zAC;exact(jh _ _).trans j2.2.2.2.2.2.2)) (hw:=Yk [((6,0),some (45,0))] [] rfl (by simp[w1,w3]))
 exact rtD [.tmp 2,.tmp 3] (ms f e2)
end Go.Proofs.YtdffgedmahdehaaGreat
