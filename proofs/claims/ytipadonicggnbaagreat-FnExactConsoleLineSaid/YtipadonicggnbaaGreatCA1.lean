/- Contracts of the functions Hb the abstract machine, part A1. No condition. -/
import Derived.Test.YtipadonicggnbaaGreatL
import Derived.Test.YtipadonicggnbaaGreatTy
namespace Go.Proofs.YtipadonicggnbaaGreat
open Tryz
open Go.Vm Go.Mo
set_option maxHeartbeats 1000000
set_option maxRecDepth 100000
set_option linter.unusedSimpArgs false
set_option linter.unusedVariables false
theorem ob(A:List YZ)(E:Int):Sa 39 [Z 5 YZ.row A,rI E] [rI (Ug A E)]:=have f:=me (Ug.eq_1 A E);so func39 ntmps39∘cQ f<|fun k1 I f=>rt _ f
theorem Fz(A:List ZX)(E:Int):Sa 40 [Z 3 ZX.row A,rI E] [rI (xA A E)]:=have f:=me (xA.eq_1 A E);so func40 ntmps40∘cQ f<|fun k1 I f=>rt _ f
theorem tD(A:List Z8)(E:Int):Sa 41 [Z 4 Z8.row A,rI E] [rI (SR A E)]:=have f:=me (SR.eq_1 A E);so func41 ntmps41∘cQ f<|fun k1 I f=>rt _ f
theorem oN(A:ZP)(E:Int):Sa 11 [A.row,rI E] [rI (QD A E)]:=have f:=me (QD.eq_1 A E);so func11 ntmps11∘aa (ob A.a E)∘cQ f<|fun k1 I f=>aa (Fz A.b (Ug A.a E))∘cQ f<|fun k2 X f=>aa (tD A.c (xA A.b (Ug A.a E)))∘cQ f<|fun k3 h3 f=>rt _ f
theorem mW(A:List Yv)(E:Int):Sa 12 [Z 7 Yv.row A,rI E] [rI (Qp A E)]:=have f:=me (Qp.eq_1 A E);so func12 ntmps12∘cQ f<|fun k1 I f=>rt _ f
theorem V6(A:List Int)(E:Int):Sa 13 [Z 1 S A,rI E] [rI (Xp A E)]:=have f:=me (Xp.eq_1 A E);so func13 ntmps13∘cQ f<|fun k1 I f=>rt _ f
theorem uY(A:List ByteArray)(E:Int):Sa 325 [Z 1 sR A,rI E] [rI (WG A E)]:=by
 have f:=me (WG.eq_1 A E);refine so func325 ntmps325∘cQ f<|fun k1 I f=>(ap (Tt.eq_2 A) (fun J U=>Z3 28 [eL 0 1 A sR,eI 1 J,eI 5 (U:Int)]) (fun D J U=>A.length<D+U/\U<=A.length) (A.length+1) (W (E-(A.length:Int))) 0)<|fun p1 J U H T=>(ae H) ?_ ?_<;>intro k3 X H
 ·have N:=ix X;have m2:=ml A (k3 0 _ rfl);have K:=wr U;refine(xp N)<|(cF H) ?_ ?_<;>intro k4 h3 H
  ·exact rt _ (ms f H)
  exact au K H
 exact rt _ (ms f H)
theorem BE(A:ZV)(E:Int):Sa 247 [A.row,rI E] [rI (jR A E)]:=have f:=me (jR.eq_1 A E);so func247 ntmps247∘aa (uY A.a E)∘cQ f<|fun k1 I f=>aa (V6 A.d (WG A.a E))∘cQ f<|fun k2 X f=>rt _ f
theorem nU(A:ZS)(E:Int):Sa 406 [A.row,rI E] [rI (NV A E)]:=have f:=me (NV.eq_1 A E);so func406 ntmps406∘aa (V6 A.a E)∘cQ f<|fun k1 I f=>rt _ f
theorem tM(A:List ZS)(E:Int):Sa 326 [Z 3 ZS.row A,rI E] [rI (Vs A E)]:=by
 have f:=me (Vs.eq_1 A E);refine so func326 ntmps326∘cQ f<|fun k1 I f=>(ap (RU.eq_2 A) (fun J U=>Z3 27 [eL 0 3 A ZS.row,eI 1 J,eI 5 (U:Int)]) (fun D J U=>A.length<D+U/\U<=A.length) (A.length+1) (W (E-(A.length:Int))) 0)<|fun p1 J U H T=>(ae H) ?_ ?_<;>intro k3 X H
 ·have N:=ix X;have m2:=ml A (k3 0 _ rfl);have K:=wr U;refine xp N∘aa (nU (C A U) J)<|(cF H) ?_ ?_<;>intro k4 h3 H
  ·exact rt _ (ms f H)
  exact au K H
 exact rt _ (ms f H)
theorem rQ(A:List Y9)(E:Int):Sa 468 [Z 2 Y9.row A,rI E] [rI (TQ A E)]:=have f:=me (TQ.eq_1 A E);so func468 ntmps468∘cQ f<|fun k1 I f=>rt _ f
theorem tj(A:List ZW)(E:Int):Sa 469 [Z 5 ZW.row A,rI E] [rI (Pu A E)]:=have f:=me (Pu.eq_1 A E);so func469 ntmps469∘cQ f<|fun k1 I f=>rt _ f
theorem vw(A:Zc)(E:Int):Sa 407 [A.row,rI E] [rI (SZ A E)]:=have f:=me (SZ.eq_1 A E);so func407 ntmps407∘aa (rQ A.c E)∘cQ f<|fun k1 I f=>aa (tj A.a (TQ A.c E))∘cQ f<|fun k2 X f=>rt _ f
theorem AS(A:List Zc)(E:Int):Sa 327 [Z 5 Zc.row A,rI E] [rI (Ux A E)]:=by
 have f:=me (Ux.eq_1 A E);refine so func327 ntmps327∘cQ f<|fun k1 I f=>(ap (U8.eq_2 A) (fun J U=>Z3 27 [eL 0 5 A Zc.row,eI 1 J,eI 5 (U:Int)]) (fun D J U=>A.length<D+U/\U<=A.length) (A.length+1) (W (E-(A.length:Int))) 0)<|fun p1 J U H T=>(ae H) ?_ ?_<;>intro k3 X H
 ·have N:=ix X;have m2:=ml A (k3 0 _ rfl);have K:=wr U;refine xp N∘aa (vw (C A U) J)<|(cF H) ?_ ?_<;>intro k4 h3 H
  ·exact rt _ (ms f H)
  exact au K H
 exact rt _ (ms f H)
theorem sL(A:ZY)(E:Int):Sa 248 [A.row,rI E] [rI (PZ A E)]:=have f:=me (PZ.eq_1 A E);so func248 ntmps248∘aa (tM A.a E)∘cQ f<|fun k1 I f=>aa (AS A.b (Vs A.a E))∘cQ f<|fun k2 X f=>rt _ f
theorem oP(A:ZU)(E:Int):Sa 156 [A.row,rI E] [rI (Po A E)]:=have f:=me (Po.eq_1 A E);so func156 ntmps156∘aa (BE A.c E)∘cQ f<|fun k1 I f=>aa (sL A.a (jR A.c E))∘cQ f<|fun k2 X f=>rt _ f
theorem nl(A:List ZU)(E:Int):Sa 88 [Z 16 ZU.row A,rI E] [rI (Wr A E)]:=by
 have f:=me (Wr.eq_1 A E);refine so func88 ntmps88∘cQ f<|fun k1 I f=>(ap (SS.eq_2 A) (fun J U=>Z3 27 [eL 0 16 A ZU.row,eI 1 J,eI 5 (U:Int)]) (fun D J U=>A.length<D+U/\U<=A.length) (A.length+1) (W (E-(A.length:Int))) 0)<|fun p1 J U H T=>(ae H) ?_ ?_<;>intro k3 X H
 ·have N:=ix X;have m2:=ml A (k3 0 _ rfl);have K:=wr U;refine xp N∘aa (oP (C A U) J)<|(cF H) ?_ ?_<;>intro k4 h3 H
  ·exact rt _ (ms f H)
  exact au K H
 exact rt _ (ms f H)
theorem D4(A:ZE)(E:Int):Sa 42 [A.row,rI E] [rI (jB A E)]:=have f:=me (jB.eq_1 A E);so func42 ntmps42∘aa (nl A.a E)∘cQ f<|fun k1 I f=>rt _ f
theorem Ac(A:List ZE)(E:Int):Sa 14 [Z 2 ZE.row A,rI E] [rI (Qv A E)]:=by
 have f:=me (Qv.eq_1 A E);refine so func14 ntmps14∘cQ f<|fun k1 I f=>(ap (WO.eq_2 A) (fun J U=>Z3 27 [eL 0 2 A ZE.row,eI 1 J,eI 5 (U:Int)]) (fun D J U=>A.length<D+U/\U<=A.length) (A.length+1) (W (E-(A.length:Int))) 0)<|fun p1 J U H T=>(ae H) ?_ ?_<;>intro k3 X H
 ·have N:=ix X;have m2:=ml A (k3 0 _ rfl);have K:=wr U;refine xp N∘aa (D4 (C A U) J)<|(cF H) ?_ ?_<;>intro k4 h3 H
  ·exact rt _ (ms f H)
  exact au K H
 exact rt _ (ms f H)
theorem mw(A:ZF)(E:Int):Sa 4 [A.row,rI E] [rI (Rp A E)]:=have f:=me (Rp.eq_1 A E);so func4 ntmps4∘aa (oN A.b E)∘cQ f<|fun k1 I f=>aa (mW A.c (QD A.b E))∘cQ f<|fun k2 X f=>aa (V6 A.d (Qp A.c (QD A.b E)))∘cQ f<|fun k3 h3 f=>aa (Ac A.a (Xp A.d (Qp A.c (QD A.b E))))∘cQ f<|fun k4 h4 f=>aa (V6 A.e (Qv A.a (Xp A.d (Qp A.c (QD A.b E)))))∘cQ f<|fun k5 h5 f=>aa (V6 A.f (Xp A.e (Qv A.a (Xp A.d (Qp A.c (QD A.b E))))))∘cQ f<|fun k6 h6 f=>aa (V6 A.g (Xp A.f (Xp A.e (Qv A.a (Xp A.d (Qp A.c (QD A.b E)))))))∘cQ f<|fun c h7 f=>rt _ f
theorem lC(a:YZ):Sa 123 [a.row] [a.row]:=(so func123 ntmps123)<|rt _ e
theorem lE(a:List YZ)(u:R 2097152 a):y 60 [Z 5 YZ.row a] [Z 5 YZ.row a]:=by have c:=sl 2097152 a u;refine ao func60 ntmps60∘aN a.length (fun r i=>Z3 23 [eL 0 5 a YZ.row,(3,.one (.O 7 0 0 a.length),[]),eI 4 (i:Int),(7,.any,[.arr false 5 r])]) (Ti YZ.row (YZ.row (YZ.mk 0 0 0 0 0)) a) _ Ti.zero<|fun r i l j=>(cS (i<a.length)) (fun m h=>?_) (fun h=>ag _ (j.done h));obtain⟨F,j⟩:=j.lt h;have m:=ml a (m 0 _ rfl);refine aK F∘cH F (lC (C a i))<|?_;exact b3 F j
theorem Dc(a:ZX):Sa 124 [a.row] [a.row]:=(so func124 ntmps124)<|rt _ e
theorem Fj(a:List ZX)(u:R 2097152 a):y 61 [Z 3 ZX.row a] [Z 3 ZX.row a]:=by have c:=sl 2097152 a u;refine ao func61 ntmps61∘aN a.length (fun r i=>Z3 23 [eL 0 3 a ZX.row,(3,.one (.O 7 0 0 a.length),[]),eI 4 (i:Int),(7,.any,[.arr false 3 r])]) (Ti ZX.row (ZX.row (ZX.mk 0 0 0)) a) _ Ti.zero<|fun r i l j=>(cS (i<a.length)) (fun m h=>?_) (fun h=>ag _ (j.done h));obtain⟨F,j⟩:=j.lt h;have m:=ml a (m 0 _ rfl);refine aK F∘cH F (Dc (C a i))<|?_;exact b3 F j
theorem tx(a:Z8):Sa 125 [a.row] [a.row]:=(so func125 ntmps125)<|rt _ e
theorem uf(a:List Z8)(u:R 2097152 a):y 62 [Z 4 Z8.row a] [Z 4 Z8.row a]:=by have c:=sl 2097152 a u;refine ao func62 ntmps62∘aN a.length (fun r i=>Z3 23 [eL 0 4 a Z8.row,(3,.one (.O 7 0 0 a.length),[]),eI 4 (i:Int),(7,.any,[.arr false 4 r])]) (Ti Z8.row (Z8.row (Z8.mk 0 0 0 0)) a) _ Ti.zero<|fun r i l j=>(cS (i<a.length)) (fun m h=>?_) (fun h=>ag _ (j.done h));obtain⟨F,j⟩:=j.lt h;have m:=ml a (m 0 _ rfl);refine aK F∘cH F (tx (C a i))<|?_;exact b3 F j
theorem nQ(a:ZP)(u:R 2097152 a):y 21 [a.row] [a.row]:=ao func21 ntmps21∘ah [false] (lE a.a (ZP.Yb u))∘ah [false] (Fj a.b (ZP.Yi u))∘ah [false] (uf a.c (ZP.Yt u))<|ag _ e
theorem JI(a:Yv):Sa 63 [a.row] [a.row]:=(so func63 ntmps63)<|rt _ e
theorem r9(a:List Yv)(u:R 2097152 a):y 22 [Z 7 Yv.row a] [Z 7 Yv.row a]:=by have c:=sl 2097152 a u;refine ao func22 ntmps22∘aN a.length (fun r i=>Z3 23 [eL 0 7 a Yv.row,(3,.one (.O 7 0 0 a.length),[]),eI 4 (i:Int),(7,.any,[.arr false 7 r])]) (Ti Yv.row (Yv.row (Yv.mk 0 0 0 0 0 0 0)) a) _ Ti.zero<|fun r i l j=>(cS (i<a.length)) (fun m h=>?_) (fun h=>ag _ (j.done h));obtain⟨F,j⟩:=j.lt h;have m:=ml a (m 0 _ rfl);refine aK F∘cH F (JI (C a i))<|?_;exact b3 F j
theorem UN(a:List Int)(u:R 2097152 a):y 23 [Z 1 S a] [Z 1 S a]:=by have c:=sl 2097152 a u;refine ao func23 ntmps23∘aN a.length (fun r i=>Z3 22 [eL 0 1 a S,(3,.one (.O 7 0 0 a.length),[]),eI 4 (i:Int),(7,.any,[.arr false 1 r])]) (Ti S (S 0) a) _ Ti.zero<|fun r i l j=>(cS (i<a.length)) (fun m h=>?_) (fun h=>ag _ (j.done h));obtain⟨F,j⟩:=j.lt h;have m:=ml a (m 0 _ rfl);refine(aK F)<|?_;exact b3 F j
theorem vt(a:List ByteArray)(u:R 2097152 a):y 359 [Z 1 sR a] [Z 1 sR a]:=by have c:=sl 2097152 a u;refine ao func359 ntmps359∘aN a.length (fun r i=>Z3 22 [eL 0 1 a sR,(3,.one (.O 7 0 0 a.length),[]),eI 4 (i:Int),(7,.any,[.arr false 1 r])]) (Ti sR (sR (⟨#[]⟩:ByteArray)) a) _ Ti.zero<|fun r i l j=>(cS (i<a.length)) (fun m h=>?_) (fun h=>ag _ (j.done h));obtain⟨F,j⟩:=j.lt h;have m:=ml a (m 0 _ rfl);refine(aK F)<|?_;exact b3 F j
theorem Al(a:ZV)(u:R 2097152 a):y 284 [a.row] [a.row]:=ao func284 ntmps284∘ah [false] (vt a.a (ZV.xy u))∘ah [false] (UN a.d (ZV.L3 u))<|ag _ e
theorem DW(a:Zu):Sa 285 [a.row] [a.row]:=(so func285 ntmps285)<|rt _ e
theorem mg(a:ZS)(u:R 2097152 a):y 428 [a.row] [a.row]:=ao func428 ntmps428∘ah [false] (UN a.a (ZS.T5 u))<|ag _ e
theorem rG(a:List ZS)(u:R 2097152 a):y 360 [Z 3 ZS.row a] [Z 3 ZS.row a]:=by have c:=sl 2097152 a u;refine(ao func360 ntmps360)<|?_;refine eo (n:=a.length) rfl rfl rfl rfl rfl rfl ab ab a0 Y ?_;simp;refine(aN a.length (fun r i=>Z3 23 [eL 0 3 a ZS.row,(3,.one (.O 7 0 0 a.length),[]),eI 4 (i:Int),(7,.any,[.arr true 3 r])]) (Ti ZS.row (ZS.row (ZS.mk 0 ([]:List Int) 0)) a) _ Ti.zero)<|fun r i l j=>(cS (i<a.length)) (fun m h=>?_) (fun h=>ag _ (j.done h));obtain⟨F,j⟩:=j.lt h;have m:=ml a (m 0 _ rfl);refine aK F∘cr F [true,false] (mg (C a i) (Zh u))∘TF (t:=7) (j:=0) (i:=i) (Q:=3) (M:=r) (ds:=(C a i).row) (L:=[(20,1)]) (hi:=F.2.1)∘aK F<|?_;exact b3 F j
theorem Ki(a:Y9):Sa 514 [a.row] [a.row]:=(so func514 ntmps514)<|rt _ e
theorem nK(a:List Y9)(u:R 2097152 a):y 486 [Z 2 Y9.row a] [Z 2 Y9.row a]:=by have c:=sl 2097152 a u;refine ao func486 ntmps486∘aN a.length (fun r i=>Z3 23 [eL 0 2 a Y9.row,(3,.one (.O 7 0 0 a.length),[]),eI 4 (i:Int),(7,.any,[.arr false 2 r])]) (Ti Y9.row (Y9.row (Y9.mk 0 false)) a) _ Ti.zero<|fun r i l j=>(cS (i<a.length)) (fun m h=>?_) (fun h=>ag _ (j.done h));obtain⟨F,j⟩:=j.lt h;have m:=ml a (m 0 _ rfl);refine aK F∘cH F (Ki (C a i))<|?_;exact b3 F j
theorem Kr(a:ZW):Sa 515 [a.row] [a.row]:=(so func515 ntmps515)<|rt _ e
theorem rN(a:List ZW)(u:R 2097152 a):y 487 [Z 5 ZW.row a] [Z 5 ZW.row a]:=by have c:=sl 2097152 a u;refine ao func487 ntmps487∘aN a.length (fun r i=>Z3 23 [eL 0 5 a ZW.row,(3,.one (.O 7 0 0 a.length),[]),eI 4 (i:Int),(7,.any,[.arr false 5 r])]) (Ti ZW.row (ZW.row (ZW.mk 0 0 0 0 0)) a) _ Ti.zero<|fun r i l j=>(cS (i<a.length)) (fun m h=>?_) (fun h=>ag _ (j.done h));obtain⟨F,j⟩:=j.lt h;have m:=ml a (m 0 _ rfl);refine aK F∘cH F (Kr (C a i))<|?_;exact b3 F j
theorem wb(a:Zc)(u:R 2097152 a):y 429 [a.row] [a.row]:=ao func429 ntmps429∘ah [false] (nK a.c (Zc.eN u))∘ah [false] (rN a.a (Zc.Tk u))<|ag _ e
theorem AA(a:List Zc)(u:R 2097152 a):y 361 [Z 5 Zc.row a] [Z 5 Zc.row a]:=by have c:=sl 2097152 a u;refine(ao func361 ntmps361)<|?_;refine eo (n:=a.length) rfl rfl rfl rfl rfl rfl ab ab a0 Y ?_;simp;refine(aN a.length (fun r i=>Z3 23 [eL 0 5 a Zc.row,(3,.one (.O 7 0 0 a.length),[]),eI 4 (i:Int),(7,.any,[.arr true 5 r])]) (Ti Zc.row (Zc.row (Zc.mk 0 0 0 ([]:List Y9) ([]:List ZW))) a) _ Ti.zero)<|fun r i l j=>(cS (i<a.length)) (fun m h=>?_) (fun h=>ag _ (j.done h));obtain⟨F,j⟩:=j.lt h;have m:=ml a (m 0 _ rfl);refine aK F∘cr F [true,true,true,false,false] (wb (C a i) (Zh u))∘TF (t:=7) (j:=0) (i:=i) (Q:=5) (M:=r) (ds:=(C a i).row) (L:=[(20,3),(20,4)]) (hi:=F.2.1)∘aK F<|?_;exact b3 F j
theorem sF(a:ZY)(u:R 2097152 a):y 286 [a.row] [a.row]:=ao func286 ntmps286∘ah [] (rG a.a (ZY.Yw u))∘ah [] (AA a.b (ZY.Qf u))<|ag _ e
theorem p4(a:ZU)(u:R 2097152 a):y 202 [a.row] [a.row]:=ao func202 ntmps202∘ah [true,false,false] (Al a.c (ZU.Q6 u))∘aa (DW a.d)∘ah [] (sF a.a (ZU.YU u))<|ag _ e
theorem BX(a:List ZU)(u:R 2097152 a):y 126 [Z 16 ZU.row a] [Z 16 ZU.row a]:=by have c:=sl 2097152 a u;refine(ao func126 ntmps126)<|?_;refine eo (n:=a.length) rfl rfl rfl rfl rfl rfl ab ab a0 Y ?_;simp;refine(aN a.length (fun r i=>Z3 23 [eL 0 16 a ZU.row,(3,.one (.O 7 0 0 a.length),[]),eI 4 (i:Int),(7,.any,[.arr true 16 r])]) (Ti ZU.row (ZU.row (ZU.mk 0 0 (ZV.mk 0 ([]:List ByteArray) ([]:List Int)) (Zu.mk 0 0 0 0 0 0 0 0 0) (ZY.mk ([]:List ZS) ([]:List Zc)))) a) _ Ti.zero)<|fun r i l j=>(cS (i<a.length)) (fun m h=>?_) (fun h=>ag _ (j.done h));obtain⟨F,j⟩:=j.lt h;have m:=ml a (m 0 _ rfl);refine aK F∘cr F [true,true,true,false,false] (p4 (C a i) (Zh u))∘TF (t:=7) (j:=0) (i:=i) (Q:=16) (M:=r) (ds:=(C a i).row) (L:=[(20,3),(20,4),(20,14),(20,15)]) (hi:=F.2.1)∘aK F<|?_;exact b3 F j
theorem wi(a:ZE)(u:R 2097152 a):y 64 [a.row] [a.row]:=ao func64 ntmps64∘ah [] (BX a.a (ZE.YO u))<|ag _ e
theorem Bj(a:List ZE)(u:R 2097152 a):y 24 [Z 2 ZE.row a] [Z 2 ZE.row a]:=by have c:=sl 2097152 a u;refine(ao func24 ntmps24)<|?_;refine eo (n:=a.length) rfl rfl rfl rfl rfl rfl ab ab a0 Y ?_;simp;refine(aN a.length (fun r i=>Z3 23 [eL 0 2 a ZE.row,(3,.one (.O 7 0 0 a.length),[]),eI 4 (i:Int),(7,.any,[.arr true 2 r])]) (Ti ZE.row (ZE.row (ZE.mk 0 ([]:List ZU))) a) _ Ti.zero)<|fun r i l j=>(cS (i<a.length)) (fun m h=>?_) (fun h=>ag _ (j.done h));obtain⟨F,j⟩:=j.lt h;have m:=ml a (m 0 _ rfl);refine aK F∘cr F [] (wi (C a i) (Zh u))∘TF (t:=7) (j:=0) (i:=i) (Q:=2) (M:=r) (ds:=(C a i).row) (L:=[(20,1)]) (hi:=F.2.1)∘aK F<|?_;exact b3 F j
theorem w0(a:ZF)(u:R 2097152 a):y 6 [a.row] [a.row]:=ao func6 ntmps6∘ah [false,false,false] (nQ a.b (ZF.YW u))∘ah [false] (r9 a.c (ZF.iX u))∘ah [false] (UN a.d (ZF.vz u))∘ah [] (Bj a.a (ZF.Zz u))∘ah [false] (UN a.e (ZF.Aq u))∘ah [false] (UN a.f (ZF.w7 u))∘ah [false] (UN a.g (ZF.NR u))<|ag _ e
theorem va(a:YZ):Sa 146 [a.row,a.row] [rB true]:=(sw func146 ntmps146 e)<|rt _ e
theorem Dw(a:List YZ):Sa 75 [Z 5 YZ.row a,Z 5 YZ.row a] [rB true]:=by
 refine sw func75 ntmps75 e∘aN a.length (fun(_:Unit) i=>Z3 27 [eL 0 5 a YZ.row,eL 1 5 a YZ.row,eI 5 (i:Int)]) (fun _ _=>True) () trivial<|fun _ i l _=>(cS (i<a.length)) (fun m h=>?_) (fun h=>rt _ e);have m:=ml a (m 0 _ rfl)
 refine ac P∘aK h∘cH h (va (C a i))<|?_;exact b4 h
theorem D2(a:ZX):Sa 147 [a.row,a.row] [rB true]:=(sw func147 ntmps147 e)<|rt _ e
theorem Fv(a:List ZX):Sa 76 [Z 3 ZX.row a,Z 3 ZX.row a] [rB true]:=by
 refine sw func76 ntmps76 e∘aN a.length (fun(_:Unit) i=>Z3 27 [eL 0 3 a ZX.row,eL 1 3 a ZX.row,eI 5 (i:Int)]) (fun _ _=>True) () trivial<|fun _ i l _=>(cS (i<a.length)) (fun m h=>?_) (fun h=>rt _ e);have m:=ml a (m 0 _ rfl)
 refine ac P∘aK h∘cH h (D2 (C a i))<|?_;exact b4 h
theorem sn(a:Z8):Sa 148 [a.row,a.row] [rB true]:=(sw func148 ntmps148 e)<|rt _ e
theorem v5(a:List Z8):Sa 77 [Z 4 Z8.row a,Z 4 Z8.row a] [rB true]:=by
 refine sw func77 ntmps77 e∘aN a.length (fun(_:Unit) i=>Z3 27 [eL 0 4 a Z8.row,eL 1 4 a Z8.row,eI 5 (i:Int)]) (fun _ _=>True) () trivial<|fun _ i l _=>(cS (i<a.length)) (fun m h=>?_) (fun h=>rt _ e);have m:=ml a (m 0 _ rfl)
 refine ac P∘aK h∘cH h (sn (C a i))<|?_;exact b4 h
theorem ot(a:ZP):Sa 27 [a.row,a.row] [rB true]:=sw func27 ntmps27 e∘cH e (Dw a.a)∘cH e (Fv a.b)∘cH e (v5 a.c)<|rt _ e
theorem oh(a:Yv):Sa 78 [a.row,a.row] [rB true]:=(sw func78 ntmps78 e)<|rt _ e
theorem mX(a:List Yv):Sa 28 [Z 7 Yv.row a,Z 7 Yv.row a] [rB true]:=by
 refine sw func28 ntmps28 e∘aN a.length (fun(_:Unit) i=>Z3 27 [eL 0 7 a Yv.row,eL 1 7 a Yv.row,eI 5 (i:Int)]) (fun _ _=>True) () trivial<|fun _ i l _=>(cS (i<a.length)) (fun m h=>?_) (fun h=>rt _ e);have m:=ml a (m 0 _ rfl)
 refine ac P∘aK h∘cH h (oh (C a i))<|?_;exact b4 h
theorem V5(a:List Int):Sa 29 [Z 1 S a,Z 1 S a] [rB true]:=by
 refine sw func29 ntmps29 e∘aN a.length (fun(_:Unit) i=>Z3 26 [eL 0 1 a S,eL 1 1 a S,eI 5 (i:Int)]) (fun _ _=>True) () trivial<|fun _ i l _=>(cS (i<a.length)) (fun m h=>?_) (fun h=>rt _ e);have m:=ml a (m 0 _ rfl)
 refine ac P∘aK h<|?_;exact b4 h
theorem uX(a:List ByteArray):Sa 403 [Z 1 sR a,Z 1 sR a] [rB true]:=by
 refine sw func403 ntmps403 e∘aN a.length (fun(_:Unit) i=>Z3 26 [eL 0 1 a sR,eL 1 1 a sR,eI 5 (i:Int)]) (fun _ _=>True) () trivial<|fun _ i l _=>(cS (i<a.length)) (fun m h=>?_) (fun h=>rt _ e);have m:=ml a (m 0 _ rfl)
 refine ac P∘aK h<|?_;exact b4 h
theorem Am(a:ZV):Sa 322 [a.row,a.row] [rB true]:=sw func322 ntmps322 e∘cH e (uX a.a)∘cH e (V5 a.d)<|rt _ e
theorem CU(a:Zu):Sa 323 [a.row,a.row] [rB true]:=(sw func323 ntmps323 e)<|rt _ e
theorem An(a:ZS):Sa 466 [a.row,a.row] [rB true]:=sw func466 ntmps466 e∘cH e (V5 a.a)<|rt _ e
theorem sk(a:List ZS):Sa 404 [Z 3 ZS.row a,Z 3 ZS.row a] [rB true]:=by
 refine sw func404 ntmps404 e∘aN a.length (fun(_:Unit) i=>Z3 27 [eL 0 3 a ZS.row,eL 1 3 a ZS.row,eI 5 (i:Int)]) (fun _ _=>True) () trivial<|fun _ i l _=>(cS (i<a.length)) (fun m h=>?_) (fun h=>rt _ e);have m:=ml a (m 0 _ rfl)
 refine ac P∘aK h∘cH h (An (C a i))<|?_;exact b4 h
theorem sp(a:Y9):Sa 530 [a.row,a.row] [rB true]:=(sw func530 ntmps530 e)<|rt _ e
theorem ry(a:List Y9):Sa 504 [Z 2 Y9.row a,Z 2 Y9.row a] [rB true]:=by
 refine sw func504 ntmps504 e∘aN a.length (fun(_:Unit) i=>Z3 27 [eL 0 2 a Y9.row,eL 1 2 a Y9.row,eI 5 (i:Int)]) (fun _ _=>True) () trivial<|fun _ i l _=>(cS (i<a.length)) (fun m h=>?_) (fun h=>rt _ e);have m:=ml a (m 0 _ rfl)
 refine ac P∘aK h∘cH h (sp (C a i))<|?_;exact b4 h
theorem p8(a:ZW):Sa 531 [a.row,a.row] [rB true]:=(sw func531 ntmps531 e)<|rt _ e
theorem tt(a:List ZW):Sa 505 [Z 5 ZW.row a,Z 5 ZW.row a] [rB true]:=by
 refine sw func505 ntmps505 e∘aN a.length (fun(_:Unit) i=>Z3 27 [eL 0 5 a ZW.row,eL 1 5 a ZW.row,eI 5 (i:Int)]) (fun _ _=>True) () trivial<|fun _ i l _=>(cS (i<a.length)) (fun m h=>?_) (fun h=>rt _ e);have m:=ml a (m 0 _ rfl)
 refine ac P∘aK h∘cH h (p8 (C a i))<|?_;exact b4 h
theorem wY(a:Zc):Sa 467 [a.row,a.row] [rB true]:=sw func467 ntmps467 e∘cH e (ry a.c)∘cH e (tt a.a)<|rt _ e
theorem Bk(a:List Zc):Sa 405 [Z 5 Zc.row a,Z 5 Zc.row a] [rB true]:=by
 refine sw func405 ntmps405 e∘aN a.length (fun(_:Unit) i=>Z3 27 [eL 0 5 a Zc.row,eL 1 5 a Zc.row,eI 5 (i:Int)]) (fun _ _=>True) () trivial<|fun _ i l _=>(cS (i<a.length)) (fun m h=>?_) (fun h=>rt _ e);have m:=ml a (m 0 _ rfl)
 refine ac P∘aK h∘cH h (wY (C a i))<|?_;exact b4 h
theorem sD(a:ZY):Sa 324 [a.row,a.row] [rB true]:=sw func324 ntmps324 e∘cH e (sk a.a)∘cH e (Bk a.b)<|rt _ e
theorem q8(a:ZU):Sa 241 [a.row,a.row] [rB true]:=sw func241 ntmps241 e∘cH e (Am a.c)∘cH e (CU a.d)∘cH e (sD a.a)<|rt _ e
theorem nN(a:List ZU):Sa 149 [Z 16 ZU.row a,Z 16 ZU.row a] [rB true]:=by
 refine sw func149 ntmps149 e∘aN a.length (fun(_:Unit) i=>Z3 27 [eL 0 16 a ZU.row,eL 1 16 a ZU.row,eI 5 (i:Int)]) (fun _ _=>True) () trivial<|fun _ i l _=>(cS (i<a.length)) (fun m h=>?_) (fun h=>rt _ e);have m:=ml a (m 0 _ rfl)
 refine ac P∘aK h∘cH h (q8 (C a i))<|?_;exact b4 h
theorem w9(a:ZE):Sa 79 [a.row,a.row] [rB true]:=sw func79 ntmps79 e∘cH e (nN a.a)<|rt _ e
theorem BK(a:List ZE):Sa 30 [Z 2 ZE.row a,Z 2 ZE.row a] [rB true]:=by
 refine sw func30 ntmps30 e∘aN a.length (fun(_:Unit) i=>Z3 27 [eL 0 2 a ZE.row,eL 1 2 a ZE.row,eI 5 (i:Int)]) (fun _ _=>True) () trivial<|fun _ i l _=>(cS (i<a.length)) (fun m h=>?_) (fun h=>rt _ e);have m:=ml a (m 0 _ rfl)
 refine ac P∘aK h∘cH h (w9 (C a i))<|?_;exact b4 h
theorem Rg(a:ZF):Sa 8 [a.row,a.row] [rB true]:=sw func8 ntmps8 e∘cH e (ot a.b)∘cH e (mX a.c)∘cH e (V5 a.d)∘cH e (BK a.a)∘cH e (V5 a.e)∘cH e (V5 a.f)∘cH e (V5 a.g)<|rt _ e
theorem A8(a:List YZ)(k:Int)(h:0<=k:=by omega)(b:k+(cn a:Nat)<4611686018427387904:=by omega):yS prog 80 (Z 5 YZ.row a) [rI k] (Z 5 YZ.row (al fS a k)) (.int .i64 (k+(cn a:Nat))):=by
 refine(bN func80 ntmps80)<|fun v=>(aN a.length (fun s i=>Z3 48 [(0,.fix v (.one (.O 0 0 0 a.length)),[.arr true 5 s.2]),eI 1 s.1,eI 5 (i:Int)]) (Mi fS YZ.row a k) (k,a.map YZ.row) (Mi.zero h b))<|fun s i l j=>(cS (i<a.length)) (fun m h=>?_) (fun h=>bR _ (j.done h));obtain⟨x,n,c,F,p,b,j⟩:=j.lt h;have c:=hB c
 have m:=ml a (m 0 _ rfl);refine(aK F)<|?_;exact b1 (s.1+1+1+1+1+1) F j
theorem Ha(a:List ZX)(k:Int)(h:0<=k:=by omega)(b:k+(cn a:Nat)<4611686018427387904:=by omega):yS prog 81 (Z 3 ZX.row a) [rI k] (Z 3 ZX.row (al Vt a k)) (.int .i64 (k+(cn a:Nat))):=by
 refine(bN func81 ntmps81)<|fun v=>(aN a.length (fun s i=>Z3 34 [(0,.fix v (.one (.O 0 0 0 a.length)),[.arr true 3 s.2]),eI 1 s.1,eI 5 (i:Int)]) (Mi Vt ZX.row a k) (k,a.map ZX.row) (Mi.zero h b))<|fun s i l j=>(cS (i<a.length)) (fun m h=>?_) (fun h=>bR _ (j.done h));obtain⟨x,n,c,F,p,b,j⟩:=j.lt h;have c:=hB c
 have m:=ml a (m 0 _ rfl);refine(aK F)<|?_;exact b1 (s.1+1+1+1) F j
theorem DA(a:List Z8)(k:Int)(h:0<=k:=by omega)(b:k+(cn a:Nat)<4611686018427387904:=by omega):yS prog 82 (Z 4 Z8.row a) [rI k] (Z 4 Z8.row (al MU a k)) (.int .i64 (k+(cn a:Nat))):=by
 refine(bN func82 ntmps82)<|fun v=>(aN a.length (fun s i=>Z3 41 [(0,.fix v (.one (.O 0 0 0 a.length)),[.arr true 4 s.2]),eI 1 s.1,eI 5 (i:Int)]) (Mi MU Z8.row a k) (k,a.map Z8.row) (Mi.zero h b))<|fun s i l j=>(cS (i<a.length)) (fun m h=>?_) (fun h=>bR _ (j.done h));obtain⟨x,n,c,F,p,b,j⟩:=j.lt h;have c:=hB c
 have m:=ml a (m 0 _ rfl);refine(aK F)<|?_;exact b1 (s.1+1+1+1+1) F j
theorem Er(x:ZP)(k:Int)(h:0<=k:=by omega)(b:k+(cn x.a:Nat)+(cn x.b:Nat)+(cn x.c:Nat)<4611686018427387904:=by omega):yS prog 31 x.row [rI k] (fT x k).row (.int .i64 (k+(cn x.a:Nat)+(cn x.b:Nat)+(cn x.c:Nat))):=(bN func31 ntmps31)<|fun v=>bV [.O 0 0 0 x.a.length] (A8 x.a (k))∘bV [.O 0 1 0 x.b.length] (Ha x.b (k+(cn x.a:Nat)))∘bV [.O 0 2 0 x.c.length] (DA x.c (k+(cn x.a:Nat)+(cn x.b:Nat)))<|bR _ (rfl:()=())
theorem EQ(a:List Yv)(k:Int)(h:0<=k:=by omega)(b:k+(cn a:Nat)<4611686018427387904:=by omega):yS prog 32 (Z 7 Yv.row a) [rI k] (Z 7 Yv.row (al wW a k)) (.int .i64 (k+(cn a:Nat))):=by
 refine(bN func32 ntmps32)<|fun v=>(aN a.length (fun s i=>Z3 62 [(0,.fix v (.one (.O 0 0 0 a.length)),[.arr true 7 s.2]),eI 1 s.1,eI 5 (i:Int)]) (Mi wW Yv.row a k) (k,a.map Yv.row) (Mi.zero h b))<|fun s i l j=>(cS (i<a.length)) (fun m h=>?_) (fun h=>bR _ (j.done h));obtain⟨x,n,c,F,p,b,j⟩:=j.lt h;have c:=hB c
 have m:=ml a (m 0 _ rfl);refine(aK F)<|?_;exact b1 (s.1+1+1+1+1+1+1+1) F j
theorem kJ(a:List Int)(k:Int)(h:0<=k:=by omega)(b:k+(cn a:Nat)<4611686018427387904:=by omega):yS prog 33 (Z 1 S a) [rI k] (Z 1 S (al Bb a k)) (.int .i64 (k+(cn a:Nat))):=by
 refine(bN func33 ntmps33)<|fun v=>(aN a.length (fun s i=>Z3 19 [(0,.fix v (.one (.O 0 0 0 a.length)),[.arr true 1 s.2]),eI 1 s.1,eI 5 (i:Int)]) (Mi Bb S a k) (k,a.map S) (Mi.zero h b))<|fun s i l j=>(cS (i<a.length)) (fun m h=>?_) (fun h=>bR _ (j.done h));obtain⟨x,n,c,F,p,b,j⟩:=j.lt h;have c:=hB c
 have m:=ml a (m 0 _ rfl);refine(aK F)<|?_;exact b1 (s.1+1) F j
theorem Hr(A:Int):Sa 242 [rI A] [rS (G9 A)]:=by
 have f:=me (G9.eq_1 A);refine so func242 ntmps242∘cQ f<|fun k1 I f=>(ap (Mh.eq_2) (fun J U=>Z3 20 [eI 0 J,(3,.one (.d (.str U)),[])]) (fun D J U=>(D=22\/J.natAbs<10^(D-1))/\U.size+D=22) 22 A (⟨#[]⟩:ByteArray) (v:=by exact⟨Y,.inl rfl,rfl⟩))<|fun p1 J U H T=>(cF H) ?_ ?_<;>intro k3 X H
 ·refine c4 (l:=([UInt8.ofInt (W (48+Int.tmod J 10))]:List UInt8)) rfl rfl rfl ab ab ab (by simp[yh]) ?_;refine(bd)<|?_;exact ay H (v:=by(try dsimp only);obtain⟨c,d⟩:=fE T.2.1 (show(J !=0)=true by simp at X⊢;omega);refine⟨c,d,?_⟩;have:=T.2.2;simp;omega)
 exact rt _ (ms f H)
theorem CA(a:List ByteArray)(k:Int)(h:0<=k:=by omega)(b:k+(cn a:Nat)<4611686018427387904:=by omega):yS prog 150 (Z 1 sR a) [rI k] (Z 1 sR (al MC a k)) (.int .i64 (k+(cn a:Nat))):=by
 refine(bN func150 ntmps150)<|fun v=>(aN a.length (fun s i=>Z3 20 [(0,.fix v (.one (.O 0 0 0 a.length)),[.arr true 1 s.2]),eI 1 s.1,eI 5 (i:Int)]) (Mi MC sR a k) (k,a.map sR) (Mi.zero h b))<|fun s i l j=>(cS (i<a.length)) (fun m h=>?_) (fun h=>bR _ (j.done h));obtain⟨x,n,c,F,p,b,j⟩:=j.lt h;have c:=hB c
 have m:=ml a (m 0 _ rfl);refine(cH F (Hr s.1))<|?_;exact b1 (s.1+1) F j
theorem If(a:List ZS)(k:Int)(h:0<=k:=by omega)(b:k+(cn a:Nat)<4611686018427387904:=by omega):yS prog 151 (Z 3 ZS.row a) [rI k] (Z 3 ZS.row (al GL a k)) (.int .i64 (k+(cn a:Nat))):=by
 refine(bN func151 ntmps151)<|fun v=>(aN a.length (fun s i=>Z3 34 [(0,.fix v (.one (.O 0 0 0 a.length)),[.arr true 3 s.2]),eI 1 s.1,eI 5 (i:Int)]) (Mi GL ZS.row a k) (k,a.map ZS.row) (Mi.zero h b))<|fun s i l j=>(cS (i<a.length)) (fun m h=>?_) (fun h=>bR _ (j.done h));obtain⟨x,n,c,F,p,b,j⟩:=j.lt h;have c:=hB c
 have m:=ml a (m 0 _ rfl);refine aK F∘cV F (kJ x.a (s.1+1))<|?_;exact b1 (s.1+1+(cn x.a:Nat)+1) F j
theorem vJ(a:List Y9)(k:Int)(h:0<=k:=by omega)(b:k+(cn a:Nat)<4611686018427387904:=by omega):yS prog 243 (Z 2 Y9.row a) [rI k] (Z 2 Y9.row (al vE a k)) (.int .i64 (k+(cn a:Nat))):=by
 refine(bN func243 ntmps243)<|fun v=>(aN a.length (fun s i=>Z3 29 [(0,.fix v (.one (.O 0 0 0 a.length)),[.arr true 2 s.2]),eI 1 s.1,eI 5 (i:Int)]) (Mi vE Y9.row a k) (k,a.map Y9.row) (Mi.zero h b))<|fun s i l j=>(cS (i<a.length)) (fun m h=>?_) (fun h=>bR _ (j.done h));obtain⟨x,n,c,F,p,b,j⟩:=j.lt h;have c:=hB c
 have m:=ml a (m 0 _ rfl);refine(aK F)<|?_;exact b1 (s.1+1+1) F j
theorem AT(a:List ZW)(k:Int)(h:0<=k:=by omega)(b:k+(cn a:Nat)<4611686018427387904:=by omega):yS prog 244 (Z 5 ZW.row a) [rI k] (Z 5 ZW.row (al Ga a k)) (.int .i64 (k+(cn a:Nat))):=by
 refine(bN func244 ntmps244)<|fun v=>(aN a.length (fun s i=>Z3 48 [(0,.fix v (.one (.O 0 0 0 a.length)),[.arr true 5 s.2]),eI 1 s.1,eI 5 (i:Int)]) (Mi Ga ZW.row a k) (k,a.map ZW.row) (Mi.zero h b))<|fun s i l j=>(cS (i<a.length)) (fun m h=>?_) (fun h=>bR _ (j.done h));obtain⟨x,n,c,F,p,b,j⟩:=j.lt h;have c:=hB c
 have m:=ml a (m 0 _ rfl);refine(aK F)<|?_;exact b1 (s.1+1+1+1+1+1) F j
theorem EH(a:List Zc)(k:Int)(h:0<=k:=by omega)(b:k+(cn a:Nat)<4611686018427387904:=by omega):yS prog 152 (Z 5 Zc.row a) [rI k] (Z 5 Zc.row (al PV a k)) (.int .i64 (k+(cn a:Nat))):=by
 refine(bN func152 ntmps152)<|fun v=>(aN a.length (fun s i=>Z3 48 [(0,.fix v (.one (.O 0 0 0 a.length)),[.arr true 5 s.2]),eI 1 s.1,eI 5 (i:Int)]) (Mi PV Zc.row a k) (k,a.map Zc.row) (Mi.zero h b))<|fun s i l j=>(cS (i<a.length)) (fun m h=>?_) (fun h=>bR _ (j.done h));obtain⟨x,n,c,F,p,b,j⟩:=j.lt h;have c:=hB c
 have m:=ml a (m 0 _ rfl);refine aK F∘cV F (vJ x.c (s.1+1+1+1))∘cV F (AT x.a (s.1+1+1+1+(cn x.c:Nat)))<|?_;exact b1 (s.1+1+1+1+(cn x.c:Nat)+(cn x.a:Nat)) F j
theorem u6(a:List ZU)(k:Int)(h:0<=k:=by omega)(b:k+(cn a:Nat)<4611686018427387904:=by omega):yS prog 83 (Z 16 ZU.row a) [rI k] (Z 16 ZU.row (al tK a k)) (.int .i64 (k+(cn a:Nat))):=by
 refine(bN func83 ntmps83)<|fun v=>(aN a.length (fun s i=>Z3 139 [(0,.fix v (.one (.O 0 0 0 a.length)),[.arr true 16 s.2]),eI 1 s.1,eI 5 (i:Int)]) (Mi tK ZU.row a k) (k,a.map ZU.row) (Mi.zero h b))<|fun s i l j=>(cS (i<a.length)) (fun m h=>?_) (fun h=>bR _ (j.done h));obtain⟨x,n,c,F,p,b,j⟩:=j.lt h;have c:=hB c
 have m:=ml a (m 0 _ rfl);refine aK F∘cV F (CA x.c.a (s.1+1+1+1))∘cV F (kJ x.c.d (s.1+1+1+1+(cn x.c.a:Nat)))∘cV F (If x.a.a (s.1+1+1+1+(cn x.c.a:Nat)+(cn x.c.d:Nat)+1+1+1+1+1+1+1+1+1))∘cV F (EH x.a.b (s.1+1+1+1+(cn x.c.a:Nat)+(cn x.c.d:Nat)+1+1+1+1+1+1+1+1+1+(cn x.a.a:Nat)))<|?_;exact b1 (s.1+1+1+1+(cn x.c.a:Nat)+(cn x.c.d:Nat)+1+1+1+1+1+1+1+1+1+(cn x.a.a:Nat)+(cn x.a.b:Nat)) F j
theorem FW(a:List ZE)(k:Int)(h:0<=k:=by omega)(b:k+(cn a:Nat)<4611686018427387904:=by omega):yS prog 34 (Z 2 ZE.row a) [rI k] (Z 2 ZE.row (al Pc a k)) (.int .i64 (k+(cn a:Nat))):=by
 refine(bN func34 ntmps34)<|fun v=>(aN a.length (fun s i=>Z3 27 [(0,.fix v (.one (.O 0 0 0 a.length)),[.arr true 2 s.2]),eI 1 s.1,eI 5 (i:Int)]) (Mi Pc ZE.row a k) (k,a.map ZE.row) (Mi.zero h b))<|fun s i l j=>(cS (i<a.length)) (fun m h=>?_) (fun h=>bR _ (j.done h));obtain⟨x,n,c,F,p,b,j⟩:=j.lt h;have c:=hB c
 have m:=ml a (m 0 _ rfl);refine aK F∘cV F (u6 x.a (s.1+1))<|?_;exact b1 (s.1+1+(cn x.a:Nat)) F j
theorem IQ(x:ZF)(k:Int)(h:0<=k:=by omega)(b:k+(cn x.b.a:Nat)+(cn x.b.b:Nat)+(cn x.b.c:Nat)+(cn x.c:Nat)+(cn x.d:Nat)+(cn x.a:Nat)+(cn x.e:Nat)+(cn x.f:Nat)+(cn x.g:Nat)<4611686018427387904:=by omega):yS prog 9 x.row [rI k] (h7 x k).row (.int .i64 (k+(cn x.b.a:Nat)+(cn x.b.b:Nat)+(cn x.b.c:Nat)+(cn x.c:Nat)+(cn x.d:Nat)+(cn x.a:Nat)+(cn x.e:Nat)+(cn x.f:Nat)+(cn x.g:Nat))):=(bN func9 ntmps9)<|fun v=>bV [.O 0 0 0 x.b.a.length,.O 0 1 0 x.b.b.length,.O 0 2 0 x.b.c.length,.d (.int .i64 x.b.e),.d (.int .i64 x.b.d)] (Er x.b (k))∘bV [.O 0 5 0 x.c.length] (EQ x.c (k+(cn x.b.a:Nat)+(cn x.b.b:Nat)+(cn x.b.c:Nat)))∘bV [.O 0 6 0 x.d.length] (kJ x.d (k+(cn x.b.a:Nat)+(cn x.b.b:Nat)+(cn x.b.c:Nat)+(cn x.c:Nat)))∘bV [.O 0 7 0 x.a.length] (FW x.a (k+(cn x.b.a:Nat)+(cn x.b.b:Nat)+(cn x.b.c:Nat)+(cn x.c:Nat)+(cn x.d:Nat)))∘bV [.O 0 8 0 x.e.length] (kJ x.e (k+(cn x.b.a:Nat)+(cn x.b.b:Nat)+(cn x.b.c:Nat)+(cn x.c:Nat)+(cn x.d:Nat)+(cn x.a:Nat)))∘bV [.O 0 9 0 x.f.length] (kJ x.f (k+(cn x.b.a:Nat)+(cn x.b.b:Nat)+(cn x.b.c:Nat)+(cn x.c:Nat)+(cn x.d:Nat)+(cn x.a:Nat)+(cn x.e:Nat)))∘bV [.O 0 11 0 x.g.length] (kJ x.g (k+(cn x.b.a:Nat)+(cn x.b.b:Nat)+(cn x.b.c:Nat)+(cn x.c:Nat)+(cn x.d:Nat)+(cn x.a:Nat)+(cn x.e:Nat)+(cn x.f:Nat)))<|bR _ (rfl:()=())
theorem rH(a:List YZ)(k:Int)(h:0<=k:=by omega)(b:k+(cn a:Nat)<4611686018427387904:=by omega):Sa 84 [Z 5 YZ.row (al fS a k),rI k] [rI (k+(cn a:Nat))]:=by
 refine so func84 ntmps84∘aN a.length (fun q i=>Z3 58 [eL 0 5 (al fS a k) YZ.row,eI 1 q,eI 5 (i:Int)]) (Hi fS a k) k (Hi.zero h b)<|fun q i l j=>(cS (i<a.length)) (fun m h=>?_) (fun h=>rt _ (j.done h));obtain⟨x,n,c,F,p,b,j⟩:=j.lt h;have c:=hB c
 have m:=ml (al fS a k) (m 0 _ rfl);refine(aK F)<|?_;exact bY (q+1+1+1+1+1) F j
theorem Hl(a:List ZX)(k:Int)(h:0<=k:=by omega)(b:k+(cn a:Nat)<4611686018427387904:=by omega):Sa 85 [Z 3 ZX.row (al Vt a k),rI k] [rI (k+(cn a:Nat))]:=by
 refine so func85 ntmps85∘aN a.length (fun q i=>Z3 40 [eL 0 3 (al Vt a k) ZX.row,eI 1 q,eI 5 (i:Int)]) (Hi Vt a k) k (Hi.zero h b)<|fun q i l j=>(cS (i<a.length)) (fun m h=>?_) (fun h=>rt _ (j.done h));obtain⟨x,n,c,F,p,b,j⟩:=j.lt h;have c:=hB c
 have m:=ml (al Vt a k) (m 0 _ rfl);refine(aK F)<|?_;exact bY (q+1+1+1) F j
theorem E9(a:List Z8)(k:Int)(h:0<=k:=by omega)(b:k+(cn a:Nat)<4611686018427387904:=by omega):Sa 86 [Z 4 Z8.row (al MU a k),rI k] [rI (k+(cn a:Nat))]:=by
 refine so func86 ntmps86∘aN a.length (fun q i=>Z3 49 [eL 0 4 (al MU a k) Z8.row,eI 1 q,eI 5 (i:Int)]) (Hi MU a k) k (Hi.zero h b)<|fun q i l j=>(cS (i<a.length)) (fun m h=>?_) (fun h=>rt _ (j.done h));obtain⟨x,n,c,F,p,b,j⟩:=j.lt h;have c:=hB c
 have m:=ml (al MU a k) (m 0 _ rfl);refine(aK F)<|?_;exact bY (q+1+1+1+1) F j
theorem ui(x:ZP)(k:Int)(h:0<=k:=by omega)(b:k+(cn x.a:Nat)+(cn x.b:Nat)+(cn x.c:Nat)<4611686018427387904:=by omega):Sa 35 [(fT x k).row,rI k] [rI (k+(cn x.a:Nat)+(cn x.b:Nat)+(cn x.c:Nat))]:=so func35 ntmps35∘cH b (rH x.a (k))∘cH b (Hl x.b (k+(cn x.a:Nat)))∘cH b (E9 x.c (k+(cn x.a:Nat)+(cn x.b:Nat)))<|rt _ e
theorem uu(a:List Yv)(k:Int)(h:0<=k:=by omega)(b:k+(cn a:Nat)<4611686018427387904:=by omega):Sa 36 [Z 7 Yv.row (al wW a k),rI k] [rI (k+(cn a:Nat))]:=by
 refine so func36 ntmps36∘aN a.length (fun q i=>Z3 76 [eL 0 7 (al wW a k) Yv.row,eI 1 q,eI 5 (i:Int)]) (Hi wW a k) k (Hi.zero h b)<|fun q i l j=>(cS (i<a.length)) (fun m h=>?_) (fun h=>rt _ (j.done h));obtain⟨x,n,c,F,p,b,j⟩:=j.lt h;have c:=hB c
 have m:=ml (al wW a k) (m 0 _ rfl);refine(aK F)<|?_;exact bY (q+1+1+1+1+1+1+1) F j
theorem kC(a:List Int)(k:Int)(h:0<=k:=by omega)(b:k+(cn a:Nat)<4611686018427387904:=by omega):Sa 37 [Z 1 S (al Bb a k),rI k] [rI (k+(cn a:Nat))]:=by
 refine so func37 ntmps37∘aN a.length (fun q i=>Z3 21 [eL 0 1 (al Bb a k) S,eI 1 q,eI 5 (i:Int)]) (Hi Bb a k) k (Hi.zero h b)<|fun q i l j=>(cS (i<a.length)) (fun m h=>?_) (fun h=>rt _ (j.done h));obtain⟨x,n,c,F,p,b,j⟩:=j.lt h;have c:=hB c
 have m:=ml (al Bb a k) (m 0 _ rfl);refine(aK F)<|?_;exact bY (q+1) F j
theorem CL(a:List ByteArray)(k:Int)(h:0<=k:=by omega)(b:k+(cn a:Nat)<4611686018427387904:=by omega):Sa 153 [Z 1 sR (al MC a k),rI k] [rI (k+(cn a:Nat))]:=by
 refine so func153 ntmps153∘aN a.length (fun q i=>Z3 22 [eL 0 1 (al MC a k) sR,eI 1 q,eI 5 (i:Int)]) (Hi MC a k) k (Hi.zero h b)<|fun q i l j=>(cS (i<a.length)) (fun m h=>?_) (fun h=>rt _ (j.done h));obtain⟨x,n,c,F,p,b,j⟩:=j.lt h;have c:=hB c
 have m:=ml (al MC a k) (m 0 _ rfl);refine ac P∘aK F∘cH F (Hr q)<|?_;exact bY (q+1) F j
theorem AH(a:List ZS)(k:Int)(h:0<=k:=by omega)(b:k+(cn a:Nat)<4611686018427387904:=by omega):Sa 154 [Z 3 ZS.row (al GL a k),rI k] [rI (k+(cn a:Nat))]:=by
 refine so func154 ntmps154∘aN a.length (fun q i=>Z3 40 [eL 0 3 (al GL a k) ZS.row,eI 1 q,eI 5 (i:Int)]) (Hi GL a k) k (Hi.zero h b)<|fun q i l j=>(cS (i<a.length)) (fun m h=>?_) (fun h=>rt _ (j.done h));obtain⟨x,n,c,F,p,b,j⟩:=j.lt h;have c:=hB c
 have m:=ml (al GL a k) (m 0 _ rfl);refine aK F∘cH F (kC x.a (q+1))<|?_;exact bY (q+1+(cn x.a:Nat)+1) F j
theorem vf(a:List Y9)(k:Int)(h:0<=k:=by omega)(b:k+(cn a:Nat)<4611686018427387904:=by omega):Sa 245 [Z 2 Y9.row (al vE a k),rI k] [rI (k+(cn a:Nat))]:=by
 refine so func245 ntmps245∘aN a.length (fun q i=>Z3 33 [eL 0 2 (al vE a k) Y9.row,eI 1 q,eI 5 (i:Int)]) (Hi vE a k) k (Hi.zero h b)<|fun q i l j=>(cS (i<a.length)) (fun m h=>?_) (fun h=>rt _ (j.done h));obtain⟨x,n,c,F,p,b,j⟩:=j.lt h;have c:=hB c
 have m:=ml (al vE a k) (m 0 _ rfl);refine(aK F)<|?_;exact bY (q+1+1) F j
theorem AY(a:List ZW)(k:Int)(h:0<=k:=by omega)(b:k+(cn a:Nat)<4611686018427387904:=by omega):Sa 246 [Z 5 ZW.row (al Ga a k),rI k] [rI (k+(cn a:Nat))]:=by
 refine so func246 ntmps246∘aN a.length (fun q i=>Z3 58 [eL 0 5 (al Ga a k) ZW.row,eI 1 q,eI 5 (i:Int)]) (Hi Ga a k) k (Hi.zero h b)<|fun q i l j=>(cS (i<a.length)) (fun m h=>?_) (fun h=>rt _ (j.done h));obtain⟨x,n,c,F,p,b,j⟩:=j.lt h;have c:=hB c
 have m:=ml (al Ga a k) (m 0 _ rfl);refine(aK F)<|?_;exact bY (q+1+1+1+1+1) F j
theorem Fp(a:List Zc)(k:Int)(h:0<=k:=by omega)(b:k+(cn a:Nat)<4611686018427387904:=by omega):Sa 155 [Z 5 Zc.row (al PV a k),rI k] [rI (k+(cn a:Nat))]:=by
 refine so func155 ntmps155∘aN a.length (fun q i=>Z3 58 [eL 0 5 (al PV a k) Zc.row,eI 1 q,eI 5 (i:Int)]) (Hi PV a k) k (Hi.zero h b)<|fun q i l j=>(cS (i<a.length)) (fun m h=>?_) (fun h=>rt _ (j.done h));obtain⟨x,n,c,F,p,b,j⟩:=j.lt h;have c:=hB c
 have m:=ml (al PV a k) (m 0 _ rfl);refine aK F∘cH F (vf x.c (q+1+1+1))∘cH F (AY x.a (q+1+1+1+(cn x.c:Nat)))<|?_;exact bY (q+1+1+1+(cn x.c:Nat)+(cn x.a:Nat)) F j
theorem uT(a:List ZU)(k:Int)(h:0<=k:=by omega)(b:k+(cn a:Nat)<4611686018427387904:=by omega):Sa 87 [Z 16 ZU.row (al tK a k),rI k] [rI (k+(cn a:Nat))]:=by
 refine so func87 ntmps87∘aN a.length (fun q i=>Z3 171 [eL 0 16 (al tK a k) ZU.row,eI 1 q,eI 5 (i:Int)]) (Hi tK a k) k (Hi.zero h b)<|fun q i l j=>(cS (i<a.length)) (fun m h=>?_) (fun h=>rt _ (j.done h));obtain⟨x,n,c,F,p,b,j⟩:=j.lt h;have c:=hB c
 have m:=ml (al tK a k) (m 0 _ rfl);refine aK F∘cH F (CL x.c.a (q+1+1+1))∘cH F (kC x.c.d (q+1+1+1+(cn x.c.a:Nat)))∘cH F (AH x.a.a (q+1+1+1+(cn x.c.a:Nat)+(cn x.c.d:Nat)+1+1+1+1+1+1+1+1+1))∘cH F (Fp x.a.b (q+1+1+1+(cn x.c.a:Nat)+(cn x.c.d:Nat)+1+1+1+1+1+1+1+1+1+(cn x.a.a:Nat)))<|?_;exact bY (q+1+1+1+(cn x.c.a:Nat)+(cn x.c.d:Nat)+1+1+1+1+1+1+1+1+1+(cn x.a.a:Nat)+(cn x.a.b:Nat)) F j
theorem Fx(a:List ZE)(k:Int)(h:0<=k:=by omega)(b:k+(cn a:Nat)<4611686018427387904:=by omega):Sa 38 [Z 2 ZE.row (al Pc a k),rI k] [rI (k+(cn a:Nat))]:=by
 refine so func38 ntmps38∘aN a.length (fun q i=>Z3 31 [eL 0 2 (al Pc a k) ZE.row,eI 1 q,eI 5 (i:Int)]) (Hi Pc a k) k (Hi.zero h b)<|fun q i l j=>(cS (i<a.length)) (fun m h=>?_) (fun h=>rt _ (j.done h));obtain⟨x,n,c,F,p,b,j⟩:=j.lt h;have c:=hB c
 have m:=ml (al Pc a k) (m 0 _ rfl);refine aK F∘cH F (uT x.a (q+1))<|?_;exact bY (q+1+(cn x.a:Nat)) F j
theorem Is(x:ZF)(k:Int)(h:0<=k:=by omega)(b:k+(cn x.b.a:Nat)+(cn x.b.b:Nat)+(cn x.b.c:Nat)+(cn x.c:Nat)+(cn x.d:Nat)+(cn x.a:Nat)+(cn x.e:Nat)+(cn x.f:Nat)+(cn x.g:Nat)<4611686018427387904:=by omega):Sa 10 [(h7 x k).row,rI k] [rI (k+(cn x.b.a:Nat)+(cn x.b.b:Nat)+(cn x.b.c:Nat)+(cn x.c:Nat)+(cn x.d:Nat)+(cn x.a:Nat)+(cn x.e:Nat)+(cn x.f:Nat)+(cn x.g:Nat))]:=so func10 ntmps10∘cH b (ui x.b (k))∘cH b (uu x.c (k+(cn x.b.a:Nat)+(cn x.b.b:Nat)+(cn x.b.c:Nat)))∘cH b (kC x.d (k+(cn x.b.a:Nat)+(cn x.b.b:Nat)+(cn x.b.c:Nat)+(cn x.c:Nat)))∘cH b (Fx x.a (k+(cn x.b.a:Nat)+(cn x.b.b:Nat)+(cn x.b.c:Nat)+(cn x.c:Nat)+(cn x.d:Nat)))∘cH b (kC x.e (k+(cn x.b.a:Nat)+(cn x.b.b:Nat)+(cn x.b.c:Nat)+(cn x.c:Nat)+(cn x.d:Nat)+(cn x.a:Nat)))∘cH b (kC x.f (k+(cn x.b.a:Nat)+(cn x.b.b:Nat)+(cn x.b.c:Nat)+(cn x.c:Nat)+(cn x.d:Nat)+(cn x.a:Nat)+(cn x.e:Nat)))∘cH b (kC x.g (k+(cn x.b.a:Nat)+(cn x.b.b:Nat)+(cn x.b.c:Nat)+(cn x.c:Nat)+(cn x.d:Nat)+(cn x.a:Nat)+(cn x.e:Nat)+(cn x.f:Nat)))<|rt _ e
end Go.Proofs.YtipadonicggnbaaGreat
