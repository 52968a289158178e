/- Contracts of the functions Hb the abstract machine, part I1. No condition. -/
import Derived.Test.YtipadonicggnbaaGreatL
import Derived.Test.YtipadonicggnbaaGreatTy
namespace Go.Proofs.YtipadonicggnbaaGreat
open Tryz
open Go.Vm Go.Mo
set_option maxHeartbeats 1000000
set_option maxRecDepth 100000
set_option linter.unusedSimpArgs false
set_option linter.unusedVariables false
variable{a b:Prop}
theorem MY(h:b)(k:a:=by(intros;first|omega|with_unfolding_all (first|first|omega|(simp only[Bool.or_eq_true,beq_iff_eq]at*;omega)|(simp at*;omega))|(simp_all;done)|(simp_all;omega)|grind|exact wt)):a/\b:=⟨k,h⟩
theorem o1(A:ByteArray)(E:Int)(g:R 2342912 A):y 127 [rS A,[.int .u8 E]] [Z 1 sR (QJ A E)]:=by
 have f:=me (QJ.eq_1 A E);refine ao func127 ntmps127∘bH (jA.eq_2 A E) (fun J U p=>Z3 35 [(0,.one (.d (.str A)),[]),(1,.one (.d (.int .u8 E)),[]),(5,.one (.O 5 0 0 J.length),[.arr false 1 (J.map sR)]),eI 6 U,eI 7 (p:Int)]) (fun D J U p=>A.size+1<D+p/\J.length<=p/\0<=U/\U<=p/\p<=A.size+1) (A.size+2) ([]:List ByteArray) 0 0 (h0:=aw [((5,0),none)] [])<|fun p1 J U p H T=>(cF H) ?_ ?_<;>intro k2 I H
 ·have c1:A.size<=2342912:=Xw (xs g);have K:=wr p;refine(bE) ?_ ?_<;>intro B
  ·have o:=B;have g1:=B;try simp at g1
   simp[B];repeat with_reducible refine MY ?_
   refine(aA H) ?_ ?_<;>intro k3 X H
   ·simp[B];repeat with_reducible refine MY ?_
    exact bh H (v:=by(have hh:=of_decide_eq_true I;(try dsimp only);(try simp only[X8]);(try simp only[List.length_append,List.length_singleton]);omega)) (hw:=Ya [((5,0),some (31,0))] [] rfl bG)
   ·simp[B];exact aR (an K B) H (v:=by(have hh:=of_decide_eq_true I;(try dsimp only);(try simp only[X8]);(try simp only[List.length_append,List.length_singleton]);omega))
  ·simp[B];refine(aA H) ?_ ?_<;>intro k4 h3 H
   ·simp[B];repeat with_reducible refine MY ?_
    exact bh H (v:=by(have hh:=of_decide_eq_true I;(try dsimp only);(try simp only[X8]);(try simp only[List.length_append,List.length_singleton]);omega)) (hw:=Ya [((5,0),some (31,0))] [] rfl bG)
   ·simp[B]at h3
 exact ag _ (ms f H)
theorem x2(h:b)(k:a:=by(intros;first|omega|with_unfolding_all (first|first|omega|(have z:=Z7 (Ea (n:=2338816+1) (A:=A) (E:=32) (by have:=Xw g;omega));omega))|exact wt)):a/\b:=⟨k,h⟩
theorem nD(A:ByteArray)(g:R 2338816 A):y 65 [rS A] [Z 1 sR (Z0 A)]:=by
 have f:=me (Z0.eq_1 A);refine ao func65 ntmps65∘aa (YJ.rd (o1 A 32 (sg g)))∘ap (yy.eq_2 A) (fun J U=>Z3 21 [(3,.one (.O 3 0 0 J.length),[.arr false 1 (J.map sR)]),eL 7 1 (QJ A 32) sR,eI 8 ((QJ A 32).length:Int),eI 9 (U:Int)]) (fun D J U=>(QJ A 32).length<D+U/\U<=(QJ A 32).length/\J.length<=0+1*U) ((QJ A 32).length+1) ([]:List ByteArray) 0 (h0:=aw [((3,0),none)] [])<|fun p1 J U H T=>(ae H) ?_ ?_<;>intro k2 I H
 ·have N:=ix I;have m2:=ml (QJ A 32) (k2 7 _ rfl);have K:=wr U;simp[N,ZG];refine(ae H) ?_ ?_<;>intro k3 X H
  ·simp;repeat with_reducible refine x2 ?_
   exact ay H (hw:=Ya [((3,0),some (18,0))] [] rfl ad)
  exact au K H
 exact ag _ (ms f H)
theorem Xg(A:Int):Sa 69 [rI A] [rS (Zr A)]:=by
 have f:=me (Zr.eq_1 A);refine so func69 ntmps69∘ap (JE.eq_2) (fun J U=>Z3 30 [eI 0 J,(3,.one (.O 3 0 0 U.length),[.arr false 1 (U.map dF)]),eB 4 (decide (A<0))]) (fun D J U=>(D=21\/J.natAbs<10^D)/\U.length+D=21) 21 A ([]:List UInt8) (v:=by exact⟨Y,.inl rfl,rfl⟩) (h0:=aw [((3,0),none)] [])<|fun p1 J U H T=>(cF H) ?_ ?_<;>intro k2 I H
 ·refine(cF H) ?_ ?_<;>intro k3 X H
  ·have f:=ms f H;refine(cF f) ?_ ?_<;>intro k4 h3 f
   ·refine c4 (l:=([UInt8.ofInt (W (48+W (-Int.tmod J 10)))]:List UInt8)++U) rfl rfl rfl ab ab ab (by simp[yh,en]) ?_;exact(bd)<|rt _ f
   refine c4 (l:=([UInt8.ofInt (W (48+W (-Int.tmod J 10)))]:List UInt8)++U) rfl rfl rfl ab ab ab (by simp[yh,en]) ?_;simp;exact rt _ f
  exact ay H (v:=by(try dsimp only);obtain⟨c,d⟩:=fx T.2.1 X;refine⟨c,d,?_⟩;have:=T.2.2;simp;omega) (hw:=aw [((3,0),some (19,0))] [])
 refine(cF H) ?_ ?_<;>intro k5 h4 H
 ·have f:=ms f H;refine(cF f) ?_ ?_<;>intro k6 h5 f
  ·refine c4 (l:=([UInt8.ofInt (W (48+Int.tmod J 10))]:List UInt8)++U) rfl rfl rfl ab ab ab (by simp[yh,en]) ?_;exact(bd)<|rt _ f
  refine c4 (l:=([UInt8.ofInt (W (48+Int.tmod J 10))]:List UInt8)++U) rfl rfl rfl ab ab ab (by simp[yh,en]) ?_;simp;exact rt _ f
 exact ay H (v:=by(try dsimp only);obtain⟨c,d⟩:=fx T.2.1 h4;refine⟨c,d,?_⟩;have:=T.2.2;simp;omega) (hw:=aw [((3,0),some (19,0))] [])
theorem tO(h:b)(k:a:=by(intros;first|omega|with_unfolding_all (first|first|omega|(simp at X;omega))|exact wt)):a/\b:=⟨k,h⟩
theorem Hv(h:b)(k:a:=by(intros;first|omega|with_unfolding_all (first|first|omega|(simp at X;omega))|(simp_all;done)|(simp_all;omega)|grind|exact wt)):a/\b:=⟨k,h⟩
theorem W5(A:ByteArray)(g:R 2338816 A):Sa 130 [rS A] [rI (YY A).1,rB (YY A).2]:=by
 have f:=me (YY.eq_1 A);refine so func130 ntmps130∘cQ f<|fun k1 I f=>(ap (yd.eq_2 A) (fun J U=>Z3 46 [(0,.one (.d (.str A)),[]),eI 4 J,eI 5 (U:Int)]) (fun D J U=>A.size<D+U/\U<=A.size) (A.size+1) 0 0)<|fun p1 J U H T=>(ae H) ?_ ?_<;>intro k3 X H
 ·have c1:A.size<=2338816:=Xw (xs g);have K:=wr U;simp;repeat with_reducible refine tO ?_
  refine(bE) ?_ ?_<;>intro B
  ·have g1:=B;try simp at g1
   simp[B];repeat with_reducible refine Hv ?_
   refine(aA H) ?_ ?_<;>intro k4 h3 H
   ·have f:=ms f H;simp;exact s _ f
   ·simp;repeat with_reducible refine Hv ?_
    exact au (an K B) H
  ·simp[B];refine(aA H) ?_ ?_<;>intro k5 h4 H
   ·have f:=ms f H;simp;exact s _ f
   ·simp[B]at h4
 have f:=ms f H;exact aj (fun gg=>Xg J)∘cQ f<|fun k6 h5 f=>rt _ f
theorem RO(A:List ByteArray)(g:R 2334720 A):y 68 [Z 1 sR A] [Z 1 S (Zl A).1,rB (Zl A).2]:=by
 have f:=me (Zl.eq_1 A);refine ao func68 ntmps68∘ap (JV.eq_2 A) (fun J U=>Z3 28 [(4,.one (.O 4 0 0 J.length),[.arr false 1 (J.map S)]),eL 9 1 A sR,eI 10 (A.length:Int),eI 11 (U:Int)]) (fun D J U=>A.length<D+U/\U<=A.length/\J.length<=0+1*U) (A.length+1) ([]:List Int) 0 (h0:=aw [((4,0),none)] [])<|fun p1 J U H T=>(ae H) ?_ ?_<;>intro k2 I H
 ·have N:=ix I;have m2:=ml A (k2 9 _ rfl);have c1:=sl 2334720 A g;have K:=wr U;refine xp N∘aa (W5 (C A U) (sg (Zh g)))<|(cF H) ?_ ?_<;>intro k3 X H
  ·exact ag _ (ms f H)
  exact ay H (hw:=Ya [((4,0),some (25,0))] [] rfl ad)
 exact ag _ (ms f H)
theorem Z6(A E G:Int):Sa 217 [rI A,rI E,rI G] [rB (ZJ A E G)]:=have f:=me (ZJ.eq_1 A E G);(so func217 ntmps217)<|rt _ f
theorem LU(A:Int):Sa 203 [rI A] [rB (xw A)]:=have f:=me (xw.eq_1 A);so func203 ntmps203∘aa (Z6 A 1 2147483646)<|rt _ f
theorem ts(A E:Int):Sa 362 [rI A,rI E] [rI (iV A E)]:=by
 have f:=me (iV.eq_1 A E);refine so func362 ntmps362∘aa (Z6 E 1 1000000000000)<|(aF f) ?_ ?_<;>intro k1 I f
 ·have q1:=I;try simp[ZJ]at q1
  simp;exact rt _ f
 have q1:=I;try simp[ZJ]at q1
 exact(bd)<|rt _ f
theorem pO(A:List Int):Sa 287 [Z 1 S A] [rI (DT A)]:=by
 have f:=me (DT.eq_1 A);refine so func287 ntmps287∘ap (FP.eq_2 A) (fun J U=>Z3 21 [eI 3 J,eL 6 1 A S,eI 7 (A.length:Int),eI 8 (U:Int)]) (fun D J U=>A.length<D+U/\U<=A.length) (A.length+1) 11 0<|fun p1 J U H T=>(ae H) ?_ ?_<;>intro k2 I H
 ·have N:=ix I;have m2:=ml A (k2 6 _ rfl);have K:=wr U;refine xp N∘aa (ts (C A U) 2147483647)<|?_;exact au K H
 exact rt _ (ms f H)
theorem IY(A:Int)(E:List Int)(g:R 2330624 E):Sa 205 [rI A,Z 1 S E] [rI (yp A E)]:=have f:=me (yp.eq_1 A E);have c1:=sl 2330624 E g;so func205 ntmps205∘aa (pO ((([A]:List Int)++E)++([A]:List Int)))<|rt _ f
theorem iS(A E:Int):Sa 204 [rI A,rI E] [rI (we A E)]:=have f:=me (we.eq_1 A E);(so func204 ntmps204)<|rt _ f
theorem jy(A:ZV):Sa 206 [A.row] [rB (Xm A)]:=by
 have f:=me (Xm.eq_1 A);refine so func206 ntmps206∘aa (Z6 A.e 0 999)∘aj (fun gg=>Z6 (A.a.length:Int) 1 6)<|(aF f) ?_ ?_<;>intro k1 I f
 ·have q1:=I;try simp[ZJ]at q1
  simp;exact rt _ f
 have q1:=I;try simp[ZJ]at q1
 simp;refine(aG (Uf.eq_2 A) (fun J=>Z3 46 [eX 1 (A.row.map .d),eL 26 1 A.a sR,eI 27 (A.a.length:Int),eI 28 (J:Int)]) (fun D J=>A.a.length<D+J/\J<=A.a.length) (A.a.length+1) 0)<|fun p1 J H T=>(ae H) ?_ ?_<;>intro k3 X H
 ·have N:=ix X;have K:=wr J;refine(xp N)<|(aM) ?_ ?_<;>intro B
  ·have i2:=ik J A.d;refine l i2∘aS (fun gg=>Z6 (C A.d J) 1 1000000000000)<|(aA H) ?_ ?_<;>intro k4 h3 H
   ·have q3:=h3;try simp[ZJ]at q3
    have f:=ms f H;simp;exact(aC)<|s _ f
   ·have q3:=h3;try simp[ZJ]at q3
    simp;refine(aC)<|?_;exact aE (an K B) H
  ·refine(aO)<|?_;simp;refine(aC)<|(aA H) ?_ ?_<;>intro k5 h4 H
   ·have q4:=h4;try simp[ZJ]at q4
    have f:=ms f H;simp;exact(aC)<|s _ f
   ·simp[B]at h4
 exact rt _ (ms f H)
theorem Ec(A:Int)(E:List ByteArray)(G:Int)(g:R 2326528 E):y 128 [rI A,Z 1 sR E,rI G] [(Y0 A E G).1.row,rB (Y0 A E G).2]:=by
 have f:=me (Y0.eq_1 A E G);have c1:=sl 2326528 E g;refine ao func128 ntmps128∘aa (LU G)∘cQ f<|fun k1 I f=>?_;refine cj fun k2=>?_;refine(ap (zc.eq_2 A E G) (fun J U=>Z3 46 [eI 0 A,eI 2 G,(6,.one (.Z 6 0),[.box [.d (.int .i64 0),.nil 1,.nil 1]]),(8,.one (.Z 8 0),[.box [.d (.int .i64 A),.O 13 0 0 E.length,.O 8 3 0 U.length],.none,.none,.arr false 1 (U.map S)]),(13,.any,[.arr false 1 (E.map sR)]),eI 25 (E.length:Int),eI 26 (J:Int)]) (fun D J U=>E.length<D+J/\J<=E.length/\U.length<=0+1*J) (E.length+1) 0 ([]:List Int) (h0:=aw [((8,3),none)] []))<|fun p1 J U H T=>(cF H) ?_ ?_<;>intro k3 X H
 ·have N:=ix X;have m2:=ml E (k2 1 _ rfl);have K:=wr J;refine av P∘aa (IY G ([A,(J:Int)]:List Int) hc)∘aa (iS 1 (yp G ([A,(J:Int)]:List Int)))<|?_;exact ay H (hw:=Ya [((8,3),some (38,0))] [] rfl ad)
 have f:=ms f H;exact aa (jy (ZV.mk A E U))∘cQ f<|fun k5 h3 f=>ag _ f
theorem Sd(A:ZP)(g:R 2342912 A):y 72 [A.row] [(SF A).row]:=have f:=me (SF.eq_1 A);have c1:=sl 2342912 A.a g;have c2:=sl 2342912 A.b g;have c3:=sl 2342912 A.c g;(ao func72 ntmps72)<|ag _ f
theorem Bt(A:ZP)(g:R 2342912 A):y 72 [A.row] [A.row]:=by have h:=Sd A g;rwa[I4]at h
theorem rL(A:List Int)(g:R 2342912 A):y 73 [Z 1 S A] [Z 1 S (GV A)]:=have f:=me (GV.eq_1 A);have c1:=sl 2342912 A g;(ao func73 ntmps73)<|ag _ f
theorem K8(A:List Int)(g:R 2342912 A):y 73 [Z 1 S A] [Z 1 S A]:=by have h:=rL A g;rwa[tQ]at h
theorem Fs(A:ZV)(g:R 2338816 A):y 239 [A.row] [(WH A).row]:=by have f:=me (WH.eq_1 A);refine(ao func239 ntmps239)<|?_;refine C8 [2,3,4,5,0,1,6,7,8,9,10] P ai ai ai ?_;have c1:=sl 2338816 A.a g;exact bd∘ah [false] (K8 A.d (sg (ZV.L3 g)))<|ag _ f
theorem Gc(A:ZV)(g:R 2338816 A):y 239 [A.row] [A.row]:=by have h:=Fs A g;rwa[P5]at h
theorem w4(A:ZS)(g:R 2338816 A):y 401 [A.row] [(SM A).row]:=have f:=me (SM.eq_1 A);ao func401 ntmps401∘ah [false] (K8 A.a (sg (ZS.T5 g)))<|ag _ f
theorem VW(A:ZS)(g:R 2338816 A):y 401 [A.row] [A.row]:=by have h:=w4 A g;rwa[Lx]at h
theorem Bg(A:List ZS)(g:R 2334720 A):y 320 [Z 3 ZS.row A] [Z 3 ZS.row (We A)]:=by
 have f:=me (We.eq_1 A);refine ao func320 ntmps320∘ap (kg.eq_2 A) (fun J U=>Z3 19 [(3,.one (.O 3 0 0 J.length),[.arr true 3 (J.map ZS.row)]),eL 6 3 A ZS.row,eI 7 (A.length:Int),eI 8 (U:Int)]) (fun D J U=>A.length<D+U/\U<=A.length/\J.length<=0+1*U) (A.length+1) ([]:List ZS) 0 (h0:=aw [((3,0),none)] [])<|fun p1 J U H T=>(ae H) ?_ ?_<;>intro k2 I H
 ·have N:=ix I;have m2:=ml A (k2 6 _ rfl);have c1:=sl 2334720 A g;have K:=wr U;refine xp N∘ah [true,false] (VW (C A U) (sg (Zh g)))∘VR<|?_;simp;refine(TH (aq:=J.map ZS.row) (al:=([C A U]:List ZS).map ZS.row) (l1:=[(3,0)]) (l2:=[(14,1)]) (Q:=3))<|?_;simp;exact ay H (hw:=Ya [((3,0),some (16,0))] [] rfl ad)
 exact ag _ (ms f H)
theorem DG(A:List ZS)(g:R 2334720 A):y 320 [Z 3 ZS.row A] [Z 3 ZS.row A]:=by have h:=Bg A g;rwa[Lj]at h
theorem OJ(A:List ZW)(g:R 2342912 A):y 402 [Z 5 ZW.row A] [Z 5 ZW.row (Mt A)]:=have f:=me (Mt.eq_1 A);have c1:=sl 2342912 A g;(ao func402 ntmps402)<|ag _ f
theorem CG(A:List ZW)(g:R 2342912 A):y 402 [Z 5 ZW.row A] [Z 5 ZW.row A]:=by have h:=OJ A g;rwa[Aa]at h
theorem CH(A:Zc)(g:R 2338816 A):y 321 [A.row] [(VI A).row]:=have f:=me (VI.eq_1 A);have c1:=sl 2338816 A.c g;ao func321 ntmps321∘ah [false] (CG A.a (sg (Zc.Tk g)))<|ag _ f
theorem Py(A:Zc)(g:R 2338816 A):y 321 [A.row] [A.row]:=by have h:=CH A g;rwa[NZ]at h
theorem BG(A:ZY)(g:R 2330624 A):y 240 [A.row] [(Wu A).row]:=by
 have f:=me (Wu.eq_1 A);refine ao func240 ntmps240∘ah [] (DG A.a (sg (ZY.Yw g)))∘ap (kj.eq_2 A) (fun J U=>Z3 26 [(2,.one (.Z 2 0),[.box [.nil 3,.nil 5]]),(3,.one (.Z 3 0),[.box [.O 8 0 0 A.a.length,.O 3 2 0 U.length],.none,.arr true 5 (U.map Zc.row)]),(8,.any,[.arr true 3 (A.a.map ZS.row)]),eL 11 5 A.b Zc.row,eI 12 (A.b.length:Int),eI 13 (J:Int)]) (fun D J U=>A.b.length<D+J/\J<=A.b.length/\U.length<=0+1*J) (A.b.length+1) 0 ([]:List Zc) (h0:=aw [((3,2),none)] [])<|fun p1 J U H T=>(ae H) ?_ ?_<;>intro k2 I H
 ·have N:=ix I;have m2:=ml A.b (k2 11 _ rfl);have c1:=sl 2330624 A.b g;have K:=wr J;refine xp N∘be [22] P<|?_;simp;refine ah [true,true,true,false,false] (Py (C A.b J) (sg (Zh (ZY.Qf g))))∘VR<|?_;simp;refine(TH (aq:=U.map Zc.row) (al:=([C A.b J]:List Zc).map Zc.row) (l1:=[(3,2)]) (l2:=[(20,3),(20,4)]) (Q:=5))<|?_;simp;exact ay H (hw:=Ya [((3,2),some (22,0))] [] rfl ad)
 have c2:=sl 2330624 A.b g;exact ag _ (ms f H)
theorem y0(A:ZY)(g:R 2330624 A):y 240 [A.row] [A.row]:=by have h:=BG A g;rwa[LS]at h
theorem vr(A:ZU)(g:R 2326528 A):y 145 [A.row] [(PI A).row]:=have f:=me (PI.eq_1 A);ao func145 ntmps145∘ah [true,false,false] (Gc A.c (sg (ZU.Q6 g)))∘ah [] (y0 A.a (sg (ZU.YU g)))<|ag _ f
theorem kz(A:ZU)(g:R 2326528 A):y 145 [A.row] [A.row]:=by have h:=vr A g;rwa[H7]at h
theorem DU(A:ZE)(g:R 2322432 A):y 74 [A.row] [(kN A).row]:=by
 have f:=me (kN.eq_1 A);refine ao func74 ntmps74∘ap (jv.eq_2 A) (fun J U=>Z3 25 [(2,.one (.Z 2 0),[.box [.d (.int .i64 0),.nil 16]]),(3,.one (.Z 3 0),[.box [.d (.int .i64 A.b),.O 3 2 0 U.length],.none,.arr true 16 (U.map ZU.row)]),eL 10 16 A.a ZU.row,eI 11 (A.a.length:Int),eI 12 (J:Int)]) (fun D J U=>A.a.length<D+J/\J<=A.a.length/\U.length<=0+1*J) (A.a.length+1) 0 ([]:List ZU) (h0:=aw [((3,2),none)] [])<|fun p1 J U H T=>(ae H) ?_ ?_<;>intro k2 I H
 ·have N:=ix I;have m2:=ml A.a (k2 10 _ rfl);have c1:=sl 2322432 A.a g;have K:=wr J;refine xp N∘be [21] P<|?_;simp;refine ah [true,true,true,false,false] (kz (C A.a J) (sg (Zh (ZE.YO g))))∘VR<|?_;simp;refine(TH (aq:=U.map ZU.row) (al:=([C A.a J]:List ZU).map ZU.row) (l1:=[(3,2)]) (l2:=[(19,3),(19,4),(19,14),(19,15)]) (Q:=16))<|?_;simp;exact ay H (hw:=Ya [((3,2),some (21,0))] [] rfl ad)
 have c2:=sl 2322432 A.a g;exact ag _ (ms f H)
theorem XB(A:ZE)(g:R 2322432 A):y 74 [A.row] [A.row]:=by have h:=DU A g;rwa[NX]at h
theorem wQ(A:ZF)(g:R 2318336 A):y 26 [A.row] [(V4 A).row]:=by
 have f:=me (V4.eq_1 A);refine ao func26 ntmps26∘av P<|?_;have c1:=sl 2318336 A.c g;refine ah [false,false,false] (Bt A.b (sg (ZF.YW g)))∘ah [false] (K8 A.d (sg (ZF.vz g)))∘ah [false] (K8 A.e (sg (ZF.Aq g)))∘ah [false] (K8 A.f (sg (ZF.w7 g)))∘ah [false] (K8 A.g (sg (ZF.NR g)))∘ap (W6.eq_2 A) (fun J U=>Z3 44 [(2,.one (.Z 2 0),[.box [.nil 5,.nil 3,.nil 4,.d (.int .i64 0),.d (.int .i64 0),.nil 7,.nil 1,.nil 2,.nil 1,.nil 1,.d (.int .i64 0),.nil 1]]),(3,.one (.Z 3 0),[.box [.O 8 0 0 A.b.a.length,.O 8 1 0 A.b.b.length,.O 8 2 0 A.b.c.length,.d (.int .i64 A.b.e),.d (.int .i64 A.b.d),.O 12 0 0 A.c.length,.O 15 0 0 A.d.length,.O 3 8 0 U.length,.O 18 0 0 A.e.length,.O 21 0 0 A.f.length,.d (.int .i64 A.h),.O 26 0 0 A.g.length],.none,.none,.none,.none,.none,.none,.none,.arr true 2 (U.map ZE.row)]),(8,.any,[.arr false 5 (A.b.a.map YZ.row),.arr false 3 (A.b.b.map ZX.row),.arr false 4 (A.b.c.map Z8.row)]),(12,.any,[.arr false 7 (A.c.map Yv.row)]),(15,.any,[.arr false 1 (A.d.map S)]),(18,.any,[.arr false 1 (A.e.map S)]),(21,.any,[.arr false 1 (A.f.map S)]),(26,.any,[.arr false 1 (A.g.map S)]),eL 29 2 A.a ZE.row,eI 30 (A.a.length:Int),eI 31 (J:Int)]) (fun D J U=>A.a.length<D+J/\J<=A.a.length/\U.length<=0+1*J) (A.a.length+1) 0 ([]:List ZE) (h0:=aw [((3,8),none)] [])<|fun p1 J U H T=>(ae H) ?_ ?_<;>intro k3 I H
 ·have N:=ix I;have m2:=ml A.a (k3 29 _ rfl);have c2:=sl 2318336 A.a g;have K:=wr J;refine xp N∘be [40] P<|?_;simp;refine ah [] (XB (C A.a J) (sg (Zh (ZF.Zz g))))∘VR<|?_;simp;refine(TH (aq:=U.map ZE.row) (al:=([C A.a J]:List ZE).map ZE.row) (l1:=[(3,8)]) (l2:=[(38,1)]) (Q:=2))<|?_;simp;exact ay H (hw:=Ya [((3,8),some (40,0))] [] rfl ad)
 have c3:=sl 2318336 A.a g;exact ag _ (ms f H)
theorem Yk(A:ZF)(g:R 2318336 A):y 26 [A.row] [A.row]:=by have h:=wQ A g;rwa[L6]at h
theorem sE(A:ZF)(E:Int)(g:R 2314240 A):y 207 [A.row,rI E] [(zV A E).1.row,rB (zV A E).2]:=by
 have f:=me (zV.eq_1 A E);refine ao func207 ntmps207∘ah qW (Yk A (sg g))∘aa (Z6 E 0 100)<|(aF f) ?_ ?_<;>intro k1 I f
 ·have q1:=I;try simp[ZJ]at q1
  simp;exact ag _ f
 have q1:=I;try simp[ZJ]at q1
 simp;exact ag _ f
theorem Jt(A:List YZ)(E:Int):Sa 228 [Z 5 YZ.row A,rI E] [rI (Zi A E)]:=by
 have f:=me (Zi.eq_1 A E);refine so func228 ntmps228∘aG (Sf.eq_2 A E) (fun J=>Z3 20 [eI 1 E,eL 7 5 A YZ.row,eI 8 (A.length:Int),eI 9 (J:Int)]) (fun D J=>A.length<D+J/\J<=A.length) (A.length+1) 0<|fun p1 J H T=>(ae H) ?_ ?_<;>intro k2 I H
 ·have N:=ix I;have m2:=ml A (k2 7 _ rfl);have K:=wr J;refine(xp N)<|(cF H) ?_ ?_<;>intro k3 X H
  ·exact rt _ (ms f H)
  exact aE K H
 exact rt _ (ms f H)
theorem Vj(A:List Z8)(E:Int):Sa 291 [Z 4 Z8.row A,rI E] [rI (ZL A E)]:=by
 have f:=me (ZL.eq_1 A E);refine so func291 ntmps291∘ap (qX.eq_2 A E) (fun J U=>Z3 48 [eL 0 4 A Z8.row,eI 1 E,eI 5 J,eL 8 4 A Z8.row,eI 9 (A.length:Int),eI 10 (U:Int)]) (fun D J U=>A.length<D+U/\U<=A.length/\-1<=J/\J<(A.length:Int)) (A.length+1) (-1) 0<|fun p1 J U H T=>(ae H) ?_ ?_<;>intro k2 I H
 ·have N:=ix I;have m2:=ml A (k2 0 _ rfl);have K:=wr U;refine xp N∘av P<|(aM) ?_ ?_<;>intro B
  ·have i2:=ik J.toNat A;refine(l i2)<|(cK H) ?_ ?_<;>intro k4 X H
   ·exact au (an K B) H
   ·exact au (an K B) H
  ·refine(cK H) ?_ ?_<;>intro k5 h3 H
   ·exact au (an K B) H
   ·exact au (an K B) H
 have f:=ms f H;refine(bC f)<|fun k6 h4 f=>?_;have i4:=ik J.toNat A;exact(xp i4)<|rt _ f
theorem Ko(A:ZF)(E:Int):Sa 131 [A.row,rI E] [rB (Zw A E)]:=have f:=me (Zw.eq_1 A E);so func131 ntmps131∘aa (Z6 E 0 (W ((A.a.length:Int)-1)))<|rt _ f
theorem oS(A:List UInt8)(g:R 2342912 A):y 457 [Z 1 dF A] [Z 1 S (Rw A)]:=by
 have f:=me (Rw.eq_1 A);refine ao func457 ntmps457∘ap (WJ.eq_2 A) (fun J U=>Z3 19 [(3,.one (.O 3 0 0 J.length),[.arr false 1 (J.map S)]),eL 6 1 A dF,eI 7 (A.length:Int),eI 8 (U:Int)]) (fun D J U=>A.length<D+U/\U<=A.length/\J.length<=0+1*U) (A.length+1) ([]:List Int) 0 (h0:=aw [((3,0),none)] [])<|fun p1 J U H T=>(ae H) ?_ ?_<;>intro k2 I H
 ·have N:=ix I;have m2:=ml A (k2 6 _ rfl);have c1:=sl 2342912 A g;have K:=wr U;refine(xp N)<|?_;exact ay H (hw:=Ya [((3,0),some (16,0))] [] rfl ad)
 exact ag _ (ms f H)
theorem Ku(A:Int)(E:List Int)(g:R 68719476736 E):Sa 432 [rI A,Z 1 S E] [rI (QS A E)]:=have f:=me (QS.eq_1 A E);have c1:=sl 68719476736 E g;so func432 ntmps432∘aa (pO (([7,A]:List Int)++E))<|rt _ f
theorem Su(A:Int)(E:ByteArray)(G:Int)(g:R 2326528 E):Sa 388 [rI A,rS E,rI G] [rI (yb A E G)]:=by have f:=me (yb.eq_1 A E G);refine(so func388 ntmps388)<|?_;have c1:E.size<=2326528:=Xw (xs g);refine rs (s:=E) rfl rfl rfl ab ab ab ab Y ?_;simp;exact aa (YJ.rd (oS E.data.toList (by simp[XN];first|omega|(simp[ByteArray.size]at*;omega))))∘aa (Ku A (([G]:List Int)++Rw E.data.toList) ce)<|rt _ f
theorem qd(A:Int)(E:ZV)(g:R 2322432 E):Sa 364 [rI A,E.row] [rI (Yh A E)]:=by
 have f:=me (Yh.eq_1 A E);refine so func364 ntmps364∘aa (jy E)∘cQ f<|fun k1 I f=>(ap (T6.eq_2 A E) (fun J U=>Z3 37 [eI 0 A,eX 3 (E.row.map .d),(5,.one (.O 5 0 0 J.length),[.arr false 1 (J.map S)]),eL 15 1 E.a sR,eI 16 (E.a.length:Int),eI 17 (U:Int)]) (fun D J U=>E.a.length<D+U/\U<=E.a.length/\J.length<=1+1*U) (E.a.length+1) ([E.e]:List Int) 0 (h0:=aw [((5,0),some (13,0))] []))<|fun p1 J U H T=>(ae H) ?_ ?_<;>intro k3 X H
 ·have N:=ix X;have m2:=ml E.a (k3 15 _ rfl);have c1:=sl 2322432 E.a g;have K:=wr U;have i2:U<E.d.length:=by(have:=NQ (a:=E);first|(simp_all;done)|(simp_all;omega))
  refine xp (an N i2)∘aa (Su A (C E.a U) (C E.d U) (sg (Zh (ZV.xy g))))<|?_;exact ay H (hw:=Ya [((5,0),some (32,0))] [] rfl ad)
 have c2:=sl 2322432 E.a g;have f:=ms f H;exact(aa (Ku A J bL))<|rt _ f
theorem Vw(A:Zu):y 430 [A.row] [Z 1 S (Xk A)]:=have f:=me (Xk.eq_1 A);(ao func430 ntmps430)<|ag _ f
theorem Rc(A:YZ)(E:List Int)(g:R 2326528 E):Sa 438 [A.row,Z 1 S E] [rI (jQ A E)]:=by have f:=me (jQ.eq_1 A E);refine(so func438 ntmps438)<|?_;refine C8 [2,3,4,5,6,0,1,7,8] P ai ai ai ?_;have c1:=sl 2326528 E g;exact bd∘aa (IY A.d (([A.b]:List Int)++E) ce)<|rt _ f
theorem ON(A:List YZ)(E:Int)(G:List Int)(g:R 2322432 A)(w:R 2322432 G):Sa 376 [Z 5 YZ.row A,rI E,Z 1 S G] [rI (yX A E G).1,rB (yX A E G).2]:=by have f:=me (yX.eq_1 A E G);refine so func376 ntmps376∘aa (Jt A E)∘bC f<|fun k1 I f=>?_;have N:(Zi A E).toNat<A.length:=e4;exact xp N∘aa (Rc (C A (Zi A E).toNat) G (sg w))<|rt _ f
theorem TR(A:Zu):Sa 431 [A.row] [rB (Jp A)]:=have f:=me (Jp.eq_1 A);so func431 ntmps431∘aa (Z6 A.c 1 99)∘aj (fun gg=>Z6 A.a 1 999)∘aj (fun gg=>Z6 A.b 0 99)∘aj (fun gg=>Z6 A.g 0 99)∘aj (fun gg=>Z6 A.h 1 3)∘aj (fun gg=>Z6 A.e 0 1000000000000)∘aj (fun gg=>Z6 A.i 0 1000000000000)∘aj (fun gg=>Z6 A.d 0 1000000000000)<|rt _ f
theorem AB(A:List YZ)(E:Zu)(g:R 2318336 A):Sa 363 [Z 5 YZ.row A,E.row] [(XJ A E).1.row,rB (XJ A E).2]:=have f:=me (XJ.eq_1 A E);so func363 ntmps363∘av P∘aa (YJ.rd (Vw E))∘aa (ON A E.c (Xk E) (sg g) (by simp(maxDischargeDepth:=12) [xI,ZT (m:=2322432) aq g];try omega))∘aa (TR E)∘cQ f<|fun k2 I f=>rt _ f
theorem PY(A:Zu):y 365 [A.row] [(Yf A).row]:=have f:=me (Yf.eq_1 A);ao func365 ntmps365∘av P∘ah [false] (Vw A)<|ag _ f
theorem H2(A:Yv):y 398 [A.row] [Z 1 S (yT A)]:=have f:=me (yT.eq_1 A);(ao func398 ntmps398)<|ag _ f
theorem ud(A:Yv):y 366 [A.row] [(Kk A).row]:=have f:=me (Kk.eq_1 A);ao func366 ntmps366∘av P∘ah [false] (H2 A)<|ag _ f
theorem VF(A:ZE)(E:Int):Sa 218 [A.row,rI E] [rI (B A E)]:=by
 have f:=me (B.eq_1 A E);refine so func218 ntmps218∘aG (WZ.eq_2 A E) (fun J=>Z3 21 [eI 1 E,eL 8 16 A.a ZU.row,eI 9 (A.a.length:Int),eI 10 (J:Int)]) (fun D J=>A.a.length<D+J/\J<=A.a.length) (A.a.length+1) 0<|fun p1 J H T=>(ae H) ?_ ?_<;>intro k2 I H
 ·have N:=ix I;have m2:=ml A.a (k2 8 _ rfl);have K:=wr J;refine(xp N)<|(cF H) ?_ ?_<;>intro k3 X H
  ·exact rt _ (ms f H)
  exact aE K H
 exact rt _ (ms f H)
theorem yi(A:Int):Sa 375 [rI A] [rB (yF A)]:=have f:=me (yF.eq_1 A);so func375 ntmps375∘aa (Z6 A 0 10000)<|rt _ f
theorem wE(A E:List Int):Sa 503 [Z 1 S A,Z 1 S E] [rB (UC A E)]:=by
 have f:=me (UC.eq_1 A E);refine so func503 ntmps503∘cQ f<|fun k1 I f=>(aG (Tu.eq_2 A E) (fun J=>Z3 26 [eL 0 1 A S,eL 1 1 E S,eI 12 (A.length:Int),eI 13 (J:Int)]) (fun D J=>A.length<D+J/\J<=A.length) (A.length+1) 0)<|fun p1 J H T=>(cF H) ?_ ?_<;>intro k3 X H
 ·have N:=ix X;have m2:=ml A (k3 0 _ rfl);have K:=wr J;refine(ac P)<|?_;have i2:=ik J E;refine(xp (an N i2))<|(cF H) ?_ ?_<;>intro k5 h3 H
  ·exact rt _ (ms f H)
  exact aE K H
 exact rt _ (ms f H)
theorem TZ(A E:ZS):Sa 465 [A.row,E.row] [rB (Kx A E)]:=have f:=me (Kx.eq_1 A E);so func465 ntmps465∘aj (fun gg=>wE A.a E.a)<|rt _ f
theorem Tz(A:List ZS)(E:ZS):Sa 443 [Z 3 ZS.row A,E.row] [rB (QF A E)]:=by
 have f:=me (QF.eq_1 A E);refine so func443 ntmps443∘aG (xe.eq_2 A E) (fun J=>Z3 17 [eX 3 (E.row.map .d),eL 7 3 A ZS.row,eI 8 (A.length:Int),eI 9 (J:Int)]) (fun D J=>A.length<D+J/\J<=A.length) (A.length+1) 0<|fun p1 J H T=>(ae H) ?_ ?_<;>intro k2 I H
 ·have N:=ix I;have m2:=ml A (k2 7 _ rfl);have K:=wr J;refine xp N∘aa (TZ (C A J) E)<|(cF H) ?_ ?_<;>intro k3 X H
  ·exact rt _ (ms f H)
  exact aE K H
 exact rt _ (ms f H)
theorem Ox(A:ZY):Sa 385 [A.row] [rB (qF A)]:=by
 have f:=me (qF.eq_1 A);refine so func385 ntmps385∘aa (Z6 (A.a.length:Int) 1 12)<|(aF f) ?_ ?_<;>intro k1 I f
 ·have q1:=I;try simp[ZJ]at q1
  simp;exact rt _ f
 have q1:=I;try simp[ZJ]at q1
 simp;refine(aG (Ro.eq_2 A) (fun J=>Z3 65 [eX 1 (A.row.map .d),eL 19 3 A.a ZS.row,eI 20 (A.a.length:Int),eI 21 (J:Int)]) (fun D J=>A.a.length<D+J/\J<=A.a.length) (A.a.length+1) 0)<|fun p1 J H T=>(ae H) ?_ ?_<;>intro k3 X H
 ·have N:=ix X;have K:=wr J;refine xp N∘av P∘aa (Tz (A.a.take J) (C A.a J))<|(cF H) ?_ ?_<;>intro k5 h3 H
  ·exact rt _ (ms f H)
  exact aE K H
 have f:=ms f H;refine(aG (Rm.eq_2 A) (fun q=>Z3 65 [eX 1 (A.row.map .d),eL 34 5 A.b Zc.row,eI 35 (A.b.length:Int),eI 36 (q:Int)]) (fun n2 q=>A.b.length<n2+q/\q<=A.b.length) (A.b.length+1) 0)<|fun p2 q e2 j2=>(ae e2) ?_ ?_<;>intro c h4 e2
 ·have i2:=ix h4;have w2:=wr q;refine xp i2∘av P∘aa (Z6 (C A.b q).d 1 (A.a.length:Int))<|(aM) ?_ ?_<;>intro B
  ·have i3:=ik (q-1) A.b;have w3:IntKind.i64.wrap ((q:Int)-1)=(q:Int)-1:=YF Y Y;refine(l (an i3 w3))<|(aA e2) ?_ ?_<;>intro k9 h5 e2
   ·have r:=h5;try simp[ZJ]at r
    have f:=ms f e2;simp;exact(aC)<|s _ f
   ·have r:=h5;try simp[ZJ]at r
    simp;refine(aC)<|?_;exact aE (an w2 (an w3 B)) e2
  ·refine(aA e2) ?_ ?_<;>intro al h6 e2
   ·have O:=h6;try simp[ZJ]at O
    have f:=ms f e2;simp;exact(aC)<|s _ f
   ·have O:=h6;try simp[ZJ]at O
    simp;refine(aC)<|?_;exact aE (an w2 B) e2
 exact rt _ (ms f e2)
theorem Cb(A:ZU):Sa 400 [A.row] [rB (N1 A)]:=by
 have f:=me (N1.eq_1 A);refine so func400 ntmps400∘av P∘aa (Z6 A.b 1 999)∘aj (fun gg=>yi A.e)∘aj (fun gg=>jy A.c)∘aj (fun gg=>Ox A.a)<|(aM) ?_ ?_<;>intro B
 ·have g1:=B;try simp[ZJ]at g1
  have N:0<A.a.a.length:=by have:=IK (a:=A.a);simp_all
  exact l N∘aS (fun gg=>YJ.rd (PY A.d))∘aS (fun gg=>TZ (C A.a.a 0) (Yf A.d))<|s _ f
 ·refine(aO)<|?_;simp;refine aC∘aO<|?_;simp;exact(aC)<|s _ f
theorem ql(A:ZE):Sa 318 [A.row] [rB (QC A)]:=by
 have f:=me (QC.eq_1 A);refine so func318 ntmps318∘aG (Tx.eq_2 A) (fun J=>Z3 42 [eX 1 (A.row.map .d),eL 6 16 A.a ZU.row,eI 7 (A.a.length:Int),eI 8 (J:Int)]) (fun D J=>A.a.length<D+J/\J<=A.a.length) (A.a.length+1) 0<|fun p1 J H T=>(ae H) ?_ ?_<;>intro k2 I H
 ·have N:=ix I;have m2:=ml A.a (k2 6 _ rfl);have K:=wr J;refine xp N∘av P∘aa (Cb (C A.a J))<|(aM) ?_ ?_<;>intro B
  ·have i2:=ik (J-1) A.a;have w2:IntKind.i64.wrap ((J:Int)-1)=(J:Int)-1:=YF Y Y;refine(l (an i2 w2))<|(cK H) ?_ ?_<;>intro k4 X H
   ·exact s _ (ms f H)
   ·exact aE (an K (an w2 B)) H
  ·refine(cK H) ?_ ?_<;>intro k5 h3 H
   ·exact s _ (ms f H)
   ·exact aE (an K B) H
 have f:=ms f H;exact(aa (Z6 A.b 0 99))<|rt _ f
theorem Ek(A:ZE)(E:ZU)(g:R 2318336 A)(w:R 2318336 E):y 367 [A.row,E.row] [(XE A E).1.row,rB (XE A E).2]:=by
 have f:=me (XE.eq_1 A E);refine ao func367 ntmps367∘aa (VF A E.b)∘aj (fun gg=>ql A)<|(cF f) ?_ ?_<;>intro k1 I f
 ·exact(ah [] (XB A (sg g)))<|ag _ f
 refine ah [] (XB A (sg g))∘aG (X3.eq_2 A E) (fun J=>Z3 62 [eX 2 (A.row.map .d),eX 3 (E.row.map .d),(4,.one (.Z 4 0),[.box [.d (.int .i64 0),.nil 16]]),(6,.one (.Z 6 0),[.box [.d (.int .i64 A.b),.O 21 1 0 A.a.length]]),eI 7 (J:Int),(21,.any,[.none,.arr true 16 (A.a.map ZU.row)])]) (fun D J=>A.a.length<D+J/\J<=A.a.length) (A.a.length+1) 0<|fun p1 J H T=>(av P)<|(aM) ?_ ?_<;>intro B
 ·have N:=ik J A.a;refine(l N)<|(cK H) ?_ ?_<;>intro k4 X H
  ·try(simp[B]at X;done)
   all_goals
    have i2:J<A.a.length:=by(simp at X;omega)
    have m2:=ml A.a (k4 24 _ rfl);have c1:=sl 2318336 A.a (an g w);have K:=wr J;exact aE (an K B) H
  ·try(simp[B]at X;done)
   all_goals
    have c2:=sl 2318336 A.a (an g w);have f:=ms f H;refine fc [(3,3),(6,6),(41,6),(50,6),(55,6)] [] [45,49,54] P ai ai ai ai ai ai ai ?_;refine aL∘VR∘aL<|?_;refine eV (aq:=([]:List ZU).map ZU.row) (M:=A.a.map ZU.row) (al:=(A.a.take J).map ZU.row) (l1:=[(40,0)]) (Q:=16) (u:=21) (j:=1) (lo:=0) (n:=J) rfl rfl rfl rfl ab ab ab ab ab ab ck (by simp[cut]) ab ck ?_;refine aL∘bf [true,true,true,false,false] (kz E (sg w))∘VR<|?_;have c3:=sl 2318336 (A.a.take J) (an g w);refine aL∘TH (aq:=(A.a.take J).map ZU.row) (al:=([E]:List ZU).map ZU.row) (l1:=[(45,0)]) (l2:=[(47,3),(47,4),(47,14),(47,15)]) (Q:=16)∘aL<|?_;refine eV (aq:=(A.a.take J++([E]:List ZU)).map ZU.row) (M:=K6 (A.a.map ZU.row) 0 J) (al:=(A.a.drop J).map ZU.row) (l1:=[(49,0)]) (Q:=16) (u:=21) (j:=1) (lo:=J) (n:=A.a.length-J) rfl rfl rfl rfl ab ab ab ab ab ab hx ((Cy ck ck).trans (I9 _ _ _)) ab ck ?_;refine aL∘aT (ql (ZE.mk A.b ((A.a.take J++([E]:List ZU))++A.a.drop J)))<|(cK f) ?_ ?_<;>intro k6 h3 f
    ·try(simp[B]at h3;done)
     all_goals
      exact(bf [] (XB A (sg g)))<|Jq _ f
    ·try(simp[B]at h3;done)
     all_goals
      exact Jq _ f
 ·refine(cK H) ?_ ?_<;>intro c h4 H
  ·try(simp[B]at h4;done)
   all_goals
    have i4:J<A.a.length:=by(simp at h4;omega)
    have m4:=ml A.a (c 24 _ rfl);have c4:=sl 2318336 A.a (an g w);have w2:=wr J;exact aE (an w2 B) H
  ·try(simp[B]at h4;done)
   all_goals
    have c5:=sl 2318336 A.a (an g w);have f:=ms f H;refine fc [(3,3),(6,6),(41,6),(50,6),(55,6)] [] [45,49,54] P ai ai ai ai ai ai ai ?_;refine aL∘VR∘aL<|?_;refine eV (aq:=([]:List ZU).map ZU.row) (M:=A.a.map ZU.row) (al:=(A.a.take J).map ZU.row) (l1:=[(40,0)]) (Q:=16) (u:=21) (j:=1) (lo:=0) (n:=J) rfl rfl rfl rfl ab ab ab ab ab ab ck (by simp[cut]) ab ck ?_;refine aL∘bf [true,true,true,false,false] (kz E (sg w))∘VR<|?_;have c6:=sl 2318336 (A.a.take J) (an g w);refine aL∘TH (aq:=(A.a.take J).map ZU.row) (al:=([E]:List ZU).map ZU.row) (l1:=[(45,0)]) (l2:=[(47,3),(47,4),(47,14),(47,15)]) (Q:=16)∘aL<|?_;refine eV (aq:=(A.a.take J++([E]:List ZU)).map ZU.row) (M:=K6 (A.a.map ZU.row) 0 J) (al:=(A.a.drop J).map ZU.row) (l1:=[(49,0)]) (Q:=16) (u:=21) (j:=1) (lo:=J) (n:=A.a.length-J) rfl rfl rfl rfl ab ab ab ab ab ab hx ((Cy ck ck).trans (I9 _ _ _)) ab ck ?_;refine aL∘aT (ql (ZE.mk A.b ((A.a.take J++([E]:List ZU))++A.a.drop J)))<|(cK f) ?_ ?_<;>intro k9 h5 f
    ·try(simp[B]at h5;done)
     all_goals
      exact(bf [] (XB A (sg g)))<|Jq _ f
    ·try(simp[B]at h5;done)
     all_goals
      exact Jq _ f
theorem Oj(A:ZF)(E G:Int)(V:ZV)(a4 a5:Int)(g:R 2314240 A)(w:R 2314240 V):Sa 288 [A.row,rI E,rI G,V.row,rI a4,rI a5] [(Xc A E G V a4 a5).1.row,rB (Xc A E G V a4 a5).2]:=by
 have f:=me (Xc.eq_1 A E G V a4 a5);refine so func288 ntmps288∘aa (Vj A.b.c A.b.d)∘aa (Ko A E)∘aj (fun gg=>Jt A.b.a G)<|?_;have c1:=sl 2314240 A.a (an g w);have K:IntKind.i64.wrap ((A.a.length:Int)-1)=(A.a.length:Int)-1:=YF Y Y;refine(aF f) ?_ ?_<;>intro k1 I f
 ·have q1:=I;try simp[K,Zw,ZJ]at q1
  simp;exact rt _ f
 have q1:=I;try simp[K,Zw,ZJ]at q1
 simp;refine(aG (J5.eq_2 A E G V a4 a5) (fun J=>Z3 116 [eI 1 E,eI 2 G,eI 4 a4,eI 5 a5,eX 6 (A.row.map .d),eX 9 (V.row.map .d),(12,.one (.Z 12 0),[.box [.nil 5,.nil 3,.nil 4,.d (.int .i64 0),.d (.int .i64 0),.nil 7,.nil 1,.nil 2,.nil 1,.nil 1,.d (.int .i64 0),.nil 1]]),eX 14 (A.b.row.map .d),eI 15 (ZL A.b.c A.b.d),eL 48 7 A.c Yv.row,eI 49 (A.c.length:Int),eI 50 (J:Int)]) (fun D J=>A.c.length<D+J/\J<=A.c.length) (A.c.length+1) 0)<|fun p1 J H T=>(ae H) ?_ ?_<;>intro k3 X H
 ·have N:=ix X;have m2:=ml A.c (k3 48 _ rfl);have c2:=sl 2314240 A.c (an g w);have w2:=wr J;refine(xp N)<|(cF H) ?_ ?_<;>intro k4 h3 H
  ·exact aE (an K w2) H
  refine av P∘aa (qd (ZL A.b.c A.b.d) V (sg w))∘aa (AB A.b.a (Zu.mk G (C A.c J).a (ZL A.b.c A.b.d) (Yh (ZL A.b.c A.b.d) V) 1 a4 0 0 0) (sg (ZP.Yb (ZF.YW g))))∘av P∘aa (YJ.rd (PY (XJ A.b.a (Zu.mk G (C A.c J).a (ZL A.b.c A.b.d) (Yh (ZL A.b.c A.b.d) V) 1 a4 0 0 0)).1))∘aa (YJ.rd (ud (C A.c J)))∘bB∘ac P<|?_;have i2:=ik E.toNat A.a
  refine xp i2∘ah [] (Ek (C A.a E.toNat) (ZU.mk A.h a5 V (XJ A.b.a (Zu.mk G (C A.c J).a (ZL A.b.c A.b.d) (Yh (ZL A.b.c A.b.d) V) 1 a4 0 0 0)).1 (ZY.mk ([Yf (XJ A.b.a (Zu.mk G (C A.c J).a (ZL A.b.c A.b.d) (Yh (ZL A.b.c A.b.d) V) 1 a4 0 0 0)).1,Kk (C A.c J)]:List ZS) ([]:List Zc))) (sg (Zh (ZF.Zz g))) (by simp(maxDischargeDepth:=12) [Tj,XN,PO,YH,ZT (m:=2318336) aq g,ZT (m:=2318336) aq w];try omega))<|(cF H) ?_ ?_<;>intro k8 h4 H
  ·exact rt _ (ms f H)
  refine cr i2 qW (Yk A (sg g))∘TF (t:=103) (j:=7) (i:=E.toNat) (Q:=2) (M:=A.a.map ZE.row) (ds:=(XE (C A.a E.toNat) (ZU.mk A.h a5 V (XJ A.b.a (Zu.mk G (C A.c J).a (ZL A.b.c A.b.d) (Yh (ZL A.b.c A.b.d) V) 1 a4 0 0 0)).1 (ZY.mk ([Yf (XJ A.b.a (Zu.mk G (C A.c J).a (ZL A.b.c A.b.d) (Yh (ZL A.b.c A.b.d) V) 1 a4 0 0 0)).1,Kk (C A.c J)]:List ZS) ([]:List Zc)))).1.row) (L:=[(92,1)])<|?_;have f:=ms f H
  simp[Xv (x:=(XE (C A.a E.toNat) (ZU.mk A.h a5 V (XJ A.b.a (Zu.mk G (C A.c J).a (ZL A.b.c A.b.d) (Yh (ZL A.b.c A.b.d) V) 1 a4 0 0 0)).1 (ZY.mk ([Yf (XJ A.b.a (Zu.mk G (C A.c J).a (ZL A.b.c A.b.d) (Yh (ZL A.b.c A.b.d) V) 1 a4 0 0 0)).1,Kk (C A.c J)]:List ZS) ([]:List Zc)))).1) rfl,c1,i2,ZG,YK];exact(bi)<|rt _ f
 have c3:=sl 2314240 A.c (an g w);exact rt _ (ms f H)
theorem te(A:ZF)(E G:Int)(V:ZV)(a4 a5:Int)(g:R 2310144 A)(w:R 2310144 V):y 208 [A.row,rI E,rI G,V.row,rI a4,rI a5] [(Kc A E G V a4 a5).1.row,rB (Kc A E G V a4 a5).2]:=by
 have f:=me (Kc.eq_1 A E G V a4 a5);refine ao func208 ntmps208∘aa (Jt A.b.a G)∘av P<|(aM) ?_ ?_<;>intro B
 ·have N:(Zi A.b.a G).toNat<A.b.a.length:=by have:=Yy A.b.a G;exact il
  refine(l N)<|(cK f) ?_ ?_<;>intro k2 I f
  ·try(simp[B]at I;done)
   all_goals
    exact(bf qW (Yk A dm))<|Jq _ f
  ·try(simp[B]at I;done)
   all_goals
    exact aT (Oj A E G V a4 a5 (sg g) (sg w))∘bf qW (Yk (Xc A E G V a4 a5).1 dm)<|Jq _ f
 ·refine(cK f) ?_ ?_<;>intro k3 X f
  ·try(simp[B]at X;done)
   all_goals
    exact(bf qW (Yk A dm))<|Jq _ f
  ·try(simp[B]at X;done)
   all_goals
    exact aT (Oj A E G V a4 a5 (sg g) (sg w))∘bf qW (Yk (Xc A E G V a4 a5).1 dm)<|Jq _ f
theorem SV(A:ZF)(E:Int):Sa 132 [A.row,rI E] [rI (u A E).1,rI (u A E).2]:=by
 have f:=me (u.eq_1 A E);refine so func132 ntmps132∘aG (TO.eq_2 A E) (fun J=>Z3 25 [eI 1 E,eL 10 2 A.a ZE.row,eI 11 (A.a.length:Int),eI 12 (J:Int)]) (fun D J=>A.a.length<D+J/\J<=A.a.length) (A.a.length+1) 0<|fun p1 J H T=>(ae H) ?_ ?_<;>intro k2 I H
 ·have N:=ix I;have m2:=ml A.a (k2 10 _ rfl);have K:=wr J;refine xp N∘aa (VF (C A.a J) E)<|(cF H) ?_ ?_<;>intro k3 X H
  ·exact rt _ (ms f H)
  exact aE K H
 exact rt _ (ms f H)
theorem y3(A:ZS):Sa 433 [A.row] [rI (Yc A)]:=by
 have f:=me (Yc.eq_1 A);refine so func433 ntmps433∘av P<|(aM) ?_ ?_<;>intro B
 ·have N:=ik 0 A.a;refine l N∘aS (fun gg=>Z6 (C A.a 0) 101 105)<|(aI B) ?_ ?_<;>intro B
  ·all_goals
    have V:=B.2;try simp[ZJ]at V
    all_goals
     refine l N∘gK<|fun _=>?_;have r1:∀i:Nat,i<5->cut [At.d (.int .i64 7),At.d (.int .i64 5),At.d (.int .i64 5),At.d (.int .i64 9),At.d (.int .i64 6)] i 1=[At.d (.int .i64 (C ([7,5,5,9,6]:List Int) i))]:=iN
     have i2:(W (C A.a 0-101)).toNat<5:=by first|omega|((try simp only[X8]at*);omega)
     have b:=r1 _ i2;simp only[cut]at b;simp[b];refine(aC)<|(aA f) ?_ ?_<;>intro k2 I f
     ·have q1:=I;try simp[ZJ]at q1
      simp;exact(aC)<|s _ f
     ·have q1:=I;try simp[ZJ]at q1
      simp[N,ZG];exact(aC)<|s _ f
  ·all_goals
    refine(aW)<|(aA f) ?_ ?_<;>intro k3 X f
    ·have q2:=X;try simp[ZJ]at q2
     simp;exact(aC)<|s _ f
    ·simp[B]at X
 ·refine(aO)<|?_;simp;refine(aC)<|(aI B) ?_ ?_<;>intro B
  ·try(simp at B;done)
   all_goals
    have p:=B.2;try simp[ZJ]at p
    all_goals
     have d:=ik 0 A.a;refine l d∘gK<|fun _=>?_;have a:∀i:Nat,i<5->cut [At.d (.int .i64 7),At.d (.int .i64 5),At.d (.int .i64 5),At.d (.int .i64 9),At.d (.int .i64 6)] i 1=[At.d (.int .i64 (C ([7,5,5,9,6]:List Int) i))]:=iN;have i6:(W (C A.a 0-101)).toNat<5:=e6;have c:=a _ i6;simp only[cut]at c;simp[a _ i6,c,B];refine(aC)<|(aA f) ?_ ?_<;>intro k4 h3 f
     ·simp[B]at h3
     ·simp[B]at h3
  ·all_goals
    refine(aW)<|(aA f) ?_ ?_<;>intro k5 h4 f
    ·have q4:=h4;try simp[ZJ]at q4
     simp;exact(aC)<|s _ f
    ·simp[B]at h4
theorem PQ(A:ZS):Sa 368 [A.row] [(v A).1.row,rB (v A).2]:=by
 have f:=me (v.eq_1 A);refine so func368 ntmps368∘av P∘aa (y3 A)<|(aM) ?_ ?_<;>intro B
 ·have o:=B;have g1:=B;try simp at g1
  have N:6<A.a.length:=c;refine(l N)<|(cK f) ?_ ?_<;>intro k2 I f
  ·try(simp[B]at I;done)
   all_goals
    exact s _ f
  ·try(simp[B]at I;done)
   all_goals
    refine(ac P)<|?_;have i2:1<A.a.length:=c
    have i3:2<A.a.length:=c;have i4:3<A.a.length:=c;have d:4<A.a.length:=c;have i6:5<A.a.length:=c;simp[i2,ZG,i3,i4,d,i6,N,B];exact(aC)<|s _ f
 ·have o:=B;refine(cK f) ?_ ?_<;>intro k4 X f
  ·try(simp[B]at X;done)
   all_goals
    exact s _ f
  ·try(simp[B]at X;done)
   all_goals
    refine(ac P)<|?_;have i8:1<A.a.length:=c
    have q:2<A.a.length:=c;have af:3<A.a.length:=c;have ad:4<A.a.length:=c;have r:5<A.a.length:=c;have ae:6<A.a.length:=c;simp[i8,ZG,q,af,ad,r,ae,B];exact(aC)<|s _ f
theorem GC(A:List Yv)(E:Int):Sa 317 [Z 7 Yv.row A,rI E] [rI (Zj A E)]:=by
 have f:=me (Zj.eq_1 A E);refine so func317 ntmps317∘aG (Wm.eq_2 A E) (fun J=>Z3 20 [eI 1 E,eL 7 7 A Yv.row,eI 8 (A.length:Int),eI 9 (J:Int)]) (fun D J=>A.length<D+J/\J<=A.length) (A.length+1) 0<|fun p1 J H T=>(ae H) ?_ ?_<;>intro k2 I H
 ·have N:=ix I;have m2:=ml A (k2 7 _ rfl);have K:=wr J;refine(xp N)<|(cF H) ?_ ?_<;>intro k3 X H
  ·exact rt _ (ms f H)
  exact aE K H
 exact rt _ (ms f H)
theorem L2(h:b)(k:a:=by(intros;first|omega|with_unfolding_all (first|first|omega|(have l:=YA A E br;omega)|(simp only[Bool.or_eq_false_iff,decide_eq_false_iff_not]at*;omega))|(simp_all;done)|(simp_all;omega)|grind|exact wt)):a/\b:=⟨k,h⟩
theorem C2(A:ZF)(E:Int):Sa 289 [A.row,rI E] [rI (Ye A E).1,rI (Ye A E).2.1,rB (Ye A E).2.2]:=by
 have f:=me (Ye.eq_1 A E);refine so func289 ntmps289∘aa (SV A E)<|(bE) ?_ ?_<;>intro B
 ·have g1:=B;try simp at g1
  have N:(u A E).1.toNat<A.a.length:=cI;simp[N,ZG,B];repeat with_reducible refine L2 ?_
  refine(gK)<|fun _=>?_;have i2:(u A E).2.toNat<(C A.a (u A E).1.toNat).a.length:=cI
  simp[i2,ZG];repeat with_reducible refine L2 ?_
  refine(aA f) ?_ ?_<;>intro k1 I f
  ·simp;exact s _ f
  ·have i3:1<(C (C A.a (u A E).1.toNat).a (u A E).2.toNat).a.a.length:=cI;simp[N,ZG,i2,i3];repeat with_reducible refine L2 ?_
   refine(cR (PQ (C (C (C A.a (u A E).1.toNat).a (u A E).2.toNat).a.a 1)))<|?_;simp;refine(cR (GC A.c (v (C (C (C A.a (u A E).1.toNat).a (u A E).2.toNat).a.a 1)).1.a))<|?_;simp;exact s _ f
 ·simp[B];refine(aO)<|?_;simp;refine(aA f) ?_ ?_<;>intro k2 X f
  ·simp;exact s _ f
  ·simp[B]at X
theorem LC(A:O):y 434 [A.row] [Z 1 S (J0 A)]:=have f:=me (J0.eq_1 A);(ao func434 ntmps434)<|ag _ f
theorem rC(A:O):Sa 435 [A.row] [rB (Tm A)]:=have f:=me (Tm.eq_1 A);so func435 ntmps435∘aa (Z6 A.a 1 999)∘aj (fun gg=>yi A.b)∘aj (fun gg=>Z6 A.d (-1) (W (A.b+1)))∘aj (fun gg=>Z6 A.e 1 99)<|rt _ f
theorem BD(A:List YZ)(E:O)(g:R 2318336 A):Sa 369 [Z 5 YZ.row A,E.row] [(Zv A E).1.row,rB (Zv A E).2]:=have f:=me (Zv.eq_1 A E);so func369 ntmps369∘av P∘aa (YJ.rd (LC E))∘aa (ON A E.e (J0 E) (sg g) (by simp(maxDischargeDepth:=12) [Sl,ZT (m:=2322432) aq g];try omega))∘aa (rC E)∘cQ f<|fun k2 I f=>rt _ f
theorem Ey(A:O):y 371 [A.row] [(Z1 A).row]:=have f:=me (Z1.eq_1 A);ao func371 ntmps371∘av P∘ah [false] (LC A)<|ag _ f
theorem tZ(A:ZY)(E:ZS)(g:R 2326528 A)(w:R 2326528 E):y 436 [A.row,E.row] [(Jb A E).1.row,rB (Jb A E).2]:=by
 have f:=me (Jb.eq_1 A E);refine ao func436 ntmps436∘ah [] (y0 A (sg g))∘be [14] P<|?_;simp;refine ah [true,false] (VW E (sg w))∘VR<|?_;have c1:=sl 2326528 A.a (an g w);simp;refine(TH (aq:=A.a.map ZS.row) (al:=([E]:List ZS).map ZS.row) (l1:=[(8,0)]) (l2:=[(12,1)]) (Q:=3))<|?_;simp;refine(aa (Ox (ZY.mk (A.a++([E]:List ZS)) A.b)))<|(cF f) ?_ ?_<;>intro k2 I f
 ·exact(ah [] (y0 A (sg g)))<|ag _ f
 exact ag _ f
theorem uQ(A:ZE)(E:Int)(G:ZS)(g:R 2318336 A)(w:R 2318336 G):y 370 [A.row,rI E,G.row] [(YP A E G).1.row,rB (YP A E G).2]:=by
 have f:=me (YP.eq_1 A E G);refine ao func370 ntmps370∘ah [] (XB A (sg g))∘aa (VF A E)∘cQ f<|fun k1 I f=>(ac P)<|?_;have N:(B A E).toNat<A.a.length:=by have:=JM A E;exact il
 refine xp N∘cr N [] (tZ (C A.a (B A E).toNat).a G (sg (ZU.YU (Zh (ZE.YO g)))) (sg w))<|?_;refine eE (t:=13) (j:=1) (i:=(B A E).toNat) (c:=14) (Q:=16) (M:=A.a.map ZU.row) (ds:=(Jb (C A.a (B A E).toNat).a G).1.row) (L:=[(28,0),(28,1)]) rfl rfl rfl rfl ab ab (by simp;try omega) ab ab ab ab ab ab ?_;simp[Xv (x:=ZU.mk (C A.a (B A E).toNat).b (C A.a (B A E).toNat).e (C A.a (B A E).toNat).c (C A.a (B A E).toNat).d (Jb (C A.a (B A E).toNat).a G).1) rfl,N,ZG,YK];exact(bi)<|ag _ f
theorem kI(A:ZF)(E G:Int)(V:O)(g:R 2314240 A)(w:0<=E/\E<(A.a.length:Int)):y 290 [A.row,rI E,rI G,V.row] [(Kd A E G V).1.row,rB (Kd A E G V).2]:=by have f:=me (Kd.eq_1 A E G V);refine ao func290 ntmps290∘aa (BD A.b.a V (sg (ZP.Yb (ZF.YW g))))∘ac P<|?_;have N:=ik E.toNat A.a;refine xp N∘aa (YJ.rd (Ey (Zv A.b.a V).1))∘ah [] (uQ (C A.a E.toNat) G (Z1 (Zv A.b.a V).1) (sg (Zh (ZF.Zz g))) (by simp(maxDischargeDepth:=12) [Xr,ZT (m:=2318336) aq g,ZT (m:=2318336) aq w];try omega))∘ah qW (Yk A (sg g))∘bC f<|fun k2 I f=>xp N∘TF (t:=36) (j:=7) (i:=E.toNat) (Q:=2) (M:=A.a.map ZE.row) (ds:=(YP (C A.a E.toNat) G (Z1 (Zv A.b.a V).1)).1.row) (L:=[(32,1)])<|?_;simp[Xv (x:=(YP (C A.a E.toNat) G (Z1 (Zv A.b.a V).1)).1) rfl,N,ZG,YK];exact(bi)<|ag _ f
theorem AZ(h:b)(k:a:=by(intros;first|omega|with_unfolding_all (first|first|omega|(have z:=Qr A E dw;(try simp at*);omega))|exact wt)):a/\b:=⟨k,h⟩
theorem XO(h:b)(k:a:=by(intros;first|omega|with_unfolding_all (first|first|omega|(have z:=Qr A E dw;(try simp at*);omega))|(simp_all;done)|(simp_all;omega)|grind|exact wt)):a/\b:=⟨k,h⟩
theorem BL(A:ZF)(E:Int)(g:R 2310144 A):y 209 [A.row,rI E] [(Jy A E).1.row,rB (Jy A E).2]:=by
 have f:=me (Jy.eq_1 A E);refine ao func209 ntmps209∘aa (C2 A E)<|(cF f) ?_ ?_<;>intro k1 I f
 ·exact(ah qW (Yk A (sg g)))<|ag _ f
 refine(ac P)<|?_;have N:(Ye A E).2.1.toNat<A.c.length:=dR
 simp[N,ZG];repeat with_reducible refine AZ ?_
 refine aa (Jt A.b.a (C A.c (Ye A E).2.1.toNat).e)∘av P<|(bE) ?_ ?_<;>intro B
 ·have o:=B;have g1:=B;try simp at g1
  have i2:(Zi A.b.a (C A.c (Ye A E).2.1.toNat).e).toNat<A.b.a.length:=by have:=Yy A.b.a (C A.c (Ye A E).2.1.toNat).e;first|omega|(have z:=Qr A E dw;(try simp at*);omega)
  simp[i2,ZG,B];refine(bo) ?_;refine(aA f) ?_ ?_<;>intro k4 X f
  ·try(simp[B]at X;done)
   all_goals
    simp[B];refine(bo) ?_;refine(cD qW (Yk A (sg g)))<|?_;simp[B];refine(bo) ?_;exact Jq _ f
  ·try(simp[B]at X;done)
   all_goals
    have i3:(Ye A E).2.1.toNat<A.d.length:=dR;simp[i3,ZG,B];refine(bo) ?_;refine(aA f) ?_ ?_<;>intro k5 h3 f
    ·try(simp[B]at h3;done)
     all_goals
      simp[B];refine(bo) ?_;refine(ac P)<|?_;simp[N,ZG,B];refine(bo) ?_;refine(cD qW (kI A (Ye A E).1 E (O.mk (C A.c (Ye A E).2.1.toNat).a A.b.d (-1) (C A.c (Ye A E).2.1.toNat).e 0) (sg g) dr))<|?_;simp[B];refine(bo) ?_;exact Jq _ f
    ·try(simp[B]at h3;done)
     all_goals
      simp[B];refine(bo) ?_;refine(ac P)<|?_;simp[N,ZG,B];refine(bo) ?_;refine(cD qW (kI A (Ye A E).1 E (O.mk (C A.c (Ye A E).2.1.toNat).a A.b.d (C A.d (Ye A E).2.1.toNat) (C A.c (Ye A E).2.1.toNat).e 0) (sg g) dr))<|?_;simp[B];refine(bo) ?_;exact Jq _ f
 ·have o:=B;simp[B];refine(bo) ?_;refine(aA f) ?_ ?_<;>intro k8 h4 f
  ·try(simp[B]at h4;done)
   all_goals
    simp[B];refine(bo) ?_;refine(cD qW (Yk A (sg g)))<|?_;simp[B];refine(bo) ?_;exact Jq _ f
  ·try(simp[B]at h4;done)
   all_goals
    have d:(Ye A E).2.1.toNat<A.d.length:=dR;simp[d,ZG,B];refine(bo) ?_;refine(aA f) ?_ ?_<;>intro k9 h5 f
    ·try(simp[B]at h5;done)
     all_goals
      simp[B];refine(bo) ?_;refine(ac P)<|?_;simp[N,ZG,B];refine(bo) ?_;refine(cD qW (kI A (Ye A E).1 E (O.mk (C A.c (Ye A E).2.1.toNat).a A.b.d (-1) (C A.c (Ye A E).2.1.toNat).e 0) (sg g) dr))<|?_;simp[B];refine(bo) ?_;exact Jq _ f
    ·try(simp[B]at h5;done)
     all_goals
      simp[B];refine(bo) ?_;refine(ac P)<|?_;simp[N,ZG,B];refine(bo) ?_;refine(cD qW (kI A (Ye A E).1 E (O.mk (C A.c (Ye A E).2.1.toNat).a A.b.d (C A.d (Ye A E).2.1.toNat) (C A.c (Ye A E).2.1.toNat).e 0) (sg g) dr))<|?_;simp[B];refine(bo) ?_;exact Jq _ f
theorem BO(A:ZF)(E:Int)(g:R 2314240 A):y 210 [A.row,rI E] [(J3 A E).1.row,rB (J3 A E).2]:=by
 have f:=me (J3.eq_1 A E);refine ao func210 ntmps210∘ah qW (Yk A (sg g))∘aa (Z6 E 0 (W ((A.d.length:Int)-1)))<|(aM) ?_ ?_<;>intro B
 ·have c1:=sl 2314240 A.d g;have K:IntKind.i64.wrap ((A.d.length:Int)-1)=(A.d.length:Int)-1:=YF Y Y;have g1:=B;try simp[ZJ,K]at g1
  have N:=ik E.toNat A.d;refine(l N)<|(aA f) ?_ ?_<;>intro k1 I f
  ·try(simp[B]at I;done)
   all_goals
    have q1:=I;try simp[ZJ,K]at q1
    exact(aL)<|Jq _ f
  ·try(simp[B]at I;done)
   all_goals
    have q1:=I;try simp[ZJ,K]at q1
    simp[N,ZG,Xv (x:=W (A.b.d+1)) rfl,B];refine(aC)<|?_;refine Hg (rv:=[.cell 4 41,.tmp 5]) rfl ?_;simp[f.h,B];all_goals(repeat' (first|exact MI ab ab|refine And.intro ?_ ?_))
 ·have c2:=sl 2314240 A.d g;have w2:IntKind.i64.wrap ((A.d.length:Int)-1)=(A.d.length:Int)-1:=YF Y Y;refine(aA f) ?_ ?_<;>intro k2 X f
  ·try(simp[B]at X;done)
   all_goals
    have q2:=X;try simp[ZJ,w2]at q2
    exact(aL)<|Jq _ f
  ·try(simp[B]at X;done)
   all_goals
    have q2:=X;try simp[ZJ,w2]at q2
    have i3:=ik E.toNat A.d;simp[i3,ZG,Xv (x:=W (A.b.d+1)) rfl,B];refine(aC)<|?_;refine Hg (rv:=[.cell 4 41,.tmp 5]) rfl ?_;simp[f.h,B];all_goals(repeat' (first|exact MI ab ab|refine And.intro ?_ ?_))
theorem Ry(A:List Int):Sa 292 [Z 1 S A] [rB (yn A)]:=by
 have f:=me (yn.eq_1 A);refine so func292 ntmps292∘aG (T4.eq_2 A) (fun J=>Z3 20 [eL 0 1 A S,eI 3 (J:Int)]) (fun D J=>A.length<D+J/\1<=J) (A.length+1) 1<|fun p1 J H T=>(cF H) ?_ ?_<;>intro k2 I H
 ·have N:=ix I;have m2:=ml A (k2 0 _ rfl);have K:=wr J;refine(ac P)<|?_;have i2:=ik (J-1) A;have w2:IntKind.i64.wrap ((J:Int)-1)=(J:Int)-1:=YF Y Y;refine(xp (an i2 (an w2 N)))<|(cF H) ?_ ?_<;>intro k4 X H
  ·exact rt _ (ms f H)
  exact aE (an K w2) H
 exact rt _ (ms f H)
theorem Pa(A:ZW):y 377 [A.row] [Z 1 S (Jd A)]:=have f:=me (Jd.eq_1 A);(ao func377 ntmps377)<|ag _ f
theorem Vx(A:Int)(E:Zc)(g:R 2326528 E):Sa 383 [rI A,E.row] [rI (Qz A E)]:=by
 have f:=me (Qz.eq_1 A E);refine so func383 ntmps383∘ap (yJ.eq_2 E) (fun J U=>Z3 59 [eI 0 A,eX 3 (E.row.map .d),(5,.one (.O 5 0 0 J.length),[.arr false 1 (J.map S)]),eL 19 2 E.c Y9.row,eI 20 (E.c.length:Int),eI 21 (U:Int)]) (fun D J U=>E.c.length<D+U/\U<=E.c.length/\J.length<=4+2*U) (E.c.length+1) ([4,E.d,E.b,E.e]:List Int) 0 (h0:=aw [((5,0),some (17,0))] [])<|fun p1 J U H T=>(aF H) ?_ ?_<;>intro k2 I H
 ·have q1:=I;try simp at q1
  have N:=ix I;have m2:=ml E.c (k2 19 _ rfl);have c1:=sl 2326528 E.c g;have K:=wr U;refine(xp N)<|(aF H) ?_ ?_<;>intro k3 X H
  ·have q2:=X;try simp at q2
   refine(bd)<|?_;exact ay H (hw:=Ya [((5,0),some (32,0))] [] rfl ad)
  have q2:=X;try simp at q2
  refine(bd)<|?_;exact ay H (hw:=Ya [((5,0),some (32,0))] [] rfl ad)
 have q1:=I;try simp at q1
 have c2:=sl 2326528 E.c g;have f:=ms f H;refine bd∘ap (xl.eq_2 E) (fun q n=>Z3 59 [eI 0 A,(5,.one (.O 5 0 0 q.length),[.arr false 1 (q.map S)]),eL 41 5 E.a ZW.row,eI 42 (E.a.length:Int),eI 43 (n:Int)]) (fun n2 q n=>E.a.length<n2+n/\n<=E.a.length/\q.length<=5+2*2326528+6*n) (E.a.length+1) (J++([(E.a.length:Int)]:List Int)) 0 (v:=by(have o:E.c.length<=2326528:=Z7 (xs g);simp at*;omega)) (h0:=aw [((5,0),some (39,0))] [])<|fun p2 q n e2 j2=>(aF e2) ?_ ?_<;>intro k5 h3 e2
 ·have q3:=h3;try simp at q3
  have i2:=ix h3;have m4:=ml E.a (k5 41 _ rfl);have c3:=sl 2326528 E.a g;have w2:=wr n;refine xp i2∘av P∘aa (YJ.rd (Pa (C E.a n)))<|?_;exact ay e2 (v:=by(simp;omega)) (hw:=Ya [((5,0),some (54,0))] [] rfl (by simp[w2]))
 have q3:=h3;try simp at q3
 have c4:=sl 2326528 E.a g;have f:=ms f e2;simp;exact(aa (Ku A q bL))<|rt _ f
theorem OU(A:Int)(E:List ZS)(g:R 2326528 E):Sa 442 [rI A,Z 3 ZS.row E] [rI (KH A E)]:=by
 have f:=me (KH.eq_1 A E);refine so func442 ntmps442∘ap (Ws.eq_2 A E) (fun J U=>Z3 32 [eI 0 A,(5,.one (.O 5 0 0 J.length),[.arr false 1 (J.map S)]),eL 9 3 E ZS.row,eI 10 (E.length:Int),eI 11 (U:Int)]) (fun D J U=>E.length<D+U/\U<=E.length/\J.length<=1+1*U) (E.length+1) ([2]:List Int) 0 (h0:=aw [((5,0),some (8,0))] [])<|fun p1 J U H T=>(ae H) ?_ ?_<;>intro k2 I H
 ·have N:=ix I;have m2:=ml E (k2 9 _ rfl);have c1:=sl 2326528 E g;have K:=wr U;have c2:=sl 2326528 (C E U).a g;refine xp N∘aa (Ku A (([(C E U).c,(C E U).f]:List Int)++(C E U).a) ce)<|?_;exact ay H (hw:=Ya [((5,0),some (27,0))] [] rfl ad)
 have c3:=sl 2326528 E g;have f:=ms f H;exact(aa (Ku A J bL))<|rt _ f
theorem OE(A E:Int)(G:List ZS)(V:Int)(g:R 2322432 G):Sa 384 [rI A,rI E,Z 3 ZS.row G,rI V] [rI (SE A E G V)]:=have f:=me (SE.eq_1 A E G V);so func384 ntmps384∘aa (OU A G (sg g))∘aa (Ku A ([3,E,KH A G,V]:List Int) ce)<|rt _ f
theorem EB(A:ZU)(E:Int)(g:R 2318336 A):Sa 302 [A.row,rI E] [rI (JR A E)]:=by
 have f:=me (JR.eq_1 A E);refine(so func302 ntmps302)<|(ae f) ?_ ?_<;>intro k1 I f
 ·have N:=ik (A.a.b.length-1) A.a.b;have q:=ml A.a.b (k1 9 _ rfl);have K:IntKind.i64.wrap ((A.a.b.length:Int)-1)=(A.a.b.length:Int)-1:=YF Y Y;exact xp (an N K)∘aa (Vx E (C A.a.b (A.a.b.length-1)) (sg (Zh (ZY.Qf (ZU.YU g)))))∘av P∘aa (qd E A.c (sg (ZU.Q6 g)))∘aa (OE E (Yh E A.c) A.a.a (Qz E (C A.a.b (A.a.b.length-1))) (sg (ZY.Yw (ZU.YU g))))<|rt _ f
 exact av P∘aa (qd E A.c (sg (ZU.Q6 g)))∘aa (OE E (Yh E A.c) A.a.a 0 (sg (ZY.Yw (ZU.YU g))))<|rt _ f
theorem Ik(A:ZE)(E:Int)(g:R 2314240 A):y 373 [A.row,rI E] [Z 1 S (QZ A E)]:=by
 have f:=me (QZ.eq_1 A E);refine ao func373 ntmps373∘ap (kA.eq_2 A E) (fun J U=>Z3 23 [eI 1 E,(5,.one (.O 5 0 0 J.length),[.arr false 1 (J.map S)]),eL 9 16 A.a ZU.row,eI 10 (A.a.length:Int),eI 11 (U:Int)]) (fun D J U=>A.a.length<D+U/\U<=A.a.length/\J.length<=0+1*U) (A.a.length+1) ([]:List Int) 0 (h0:=aw [((5,0),none)] [])<|fun p1 J U H T=>(ae H) ?_ ?_<;>intro k2 I H
 ·have N:=ix I;have m2:=ml A.a (k2 9 _ rfl);have c1:=sl 2314240 A.a g;have K:=wr U;refine xp N∘aa (EB (C A.a U) E (sg (Zh (ZE.YO g))))<|?_;exact ay H (hw:=Ya [((5,0),some (20,0))] [] rfl ad)
 exact ag _ (ms f H)
theorem RA(A E G:Int):Sa 488 [rI A,rI E,rI G] [rI (jV A E G)]:=have f:=me (jV.eq_1 A E G);so func488 ntmps488∘aa (Ku A ([1,E,G]:List Int) (by simp(maxDischargeDepth:=12) [Tj,XN];try omega))<|rt _ f
theorem Vi(A:Int)(E:List Int)(g:R 2322432 E):y 437 [rI A,Z 1 S E] [Z 1 S (Jw A E)]:=by
 have f:=me (Jw.eq_1 A E);refine ao func437 ntmps437∘ap (y8.eq_2 A E) (fun J U=>Z3 40 [eI 0 A,eL 1 1 E S,(5,.one (.O 5 0 0 J.length),[.arr false 1 (J.map S)]),eI 6 (U:Int)]) (fun D J U=>E.length<D+U/\U<=E.length+1/\J.length<=U) (E.length+1) ([]:List Int) 0 (h0:=aw [((5,0),none)] [])<|fun p1 J U H T=>(cF H) ?_ ?_<;>intro k2 I H
 ·have N:=ix I;have m2:=ml E (k2 1 _ rfl);have c1:=sl 2322432 E g;have K:=wr U;refine(bg H) ?_ ?_<;>intro k3 X H
  ·refine aY fun k4=>?_;refine(ac P)<|?_;have i2:=ik (W ((U:Int)+1)).toNat E
   refine xp (an N i2)∘aa (RA A (C E U) (C E (W ((U:Int)+1)).toNat)) (b:=by first|(simp;done)|(simp[W,K];done))<|?_;have w2:IntKind.i64.wrap ((U:Int)+2)=(U:Int)+2:=YF Y Y
   exact ay H (v:=by first|omega|(simp at*;omega)) (hw:=Ya [((5,0),some (31,0))] [] rfl bJ)
  refine(xp N)<|?_;have w3:IntKind.i64.wrap ((U:Int)+2)=(U:Int)+2:=YF Y Y
  exact ay H (v:=by first|omega|(simp at*;omega)) (hw:=Ya [((5,0),some (38,0))] [] rfl (by simp[K,w3]))
 exact ag _ (ms f H)
theorem H6(A:Int)(E:List Int)(g:R 2318336 E):Sa 372 [rI A,Z 1 S E] [rI (ze A E)]:=by
 have f:=me (ze.eq_1 A E);refine so func372 ntmps372∘aa (Z6 (E.length:Int) 1 16)<|(aF f) ?_ ?_<;>intro k1 I f
 ·have q1:=I;try simp[ZJ]at q1
  simp;exact rt _ f
 have q1:=I;try simp[ZJ]at q1
 simp;refine(aG (RY.eq_2 A) (fun J=>Z3 18 [eI 0 A,eL 1 1 J S]) (fun D J=>J.length<D/\1<=J.length/\J.length<=16) (E.length+1) E (v:=by first|omega|(simp at*;omega)))<|fun p1 J H T=>(bg H) ?_ ?_<;>intro k3 X H
 ·refine(aa (YJ.rd (Vi A J c2)))<|?_;exact gU H (v:=by(have z:=Kp A J Y;(try dsimp only);simp at*;omega))
 have f:=ms f H;have N:=ik 0 J;exact(xp N)<|rt _ f
theorem EJ(A:ZE)(E:Int)(g:R 2310144 A):Sa 293 [A.row,rI E] [rI (JK A E)]:=have f:=me (JK.eq_1 A E);so func293 ntmps293∘aa (YJ.rd (Ik A E (sg g)))∘aa (H6 E (QZ A E) (by simp(maxDischargeDepth:=12) [PW,ZT (m:=2318336) aq g];try omega))<|rt _ f
theorem xC(A:List ZX)(E:Int):Sa 294 [Z 3 ZX.row A,rI E] [rI (ZN A E)]:=by
 have f:=me (ZN.eq_1 A E);refine so func294 ntmps294∘aG (yN.eq_2 A E) (fun J=>Z3 20 [eI 1 E,eL 7 3 A ZX.row,eI 8 (A.length:Int),eI 9 (J:Int)]) (fun D J=>A.length<D+J/\J<=A.length) (A.length+1) 0<|fun p1 J H T=>(ae H) ?_ ?_<;>intro k2 I H
 ·have N:=ix I;have m2:=ml A (k2 7 _ rfl);have K:=wr J;refine(xp N)<|(cF H) ?_ ?_<;>intro k3 X H
  ·exact rt _ (ms f H)
  exact aE K H
 exact rt _ (ms f H)
theorem F0(A:List Int)(E:Int):Sa 374 [Z 1 S A,rI E] [rI (Kf A E)]:=by
 have f:=me (Kf.eq_1 A E);refine so func374 ntmps374∘aG (UJ.eq_2 A E) (fun J=>Z3 19 [eI 1 E,eL 7 1 A S,eI 8 (A.length:Int),eI 9 (J:Int)]) (fun D J=>A.length<D+J/\J<=A.length) (A.length+1) 0<|fun p1 J H T=>(ae H) ?_ ?_<;>intro k2 I H
 ·have N:=ix I;have m2:=ml A (k2 7 _ rfl);have K:=wr J;refine(xp N)<|(cF H) ?_ ?_<;>intro k3 X H
  ·exact rt _ (ms f H)
  exact aE K H
 exact rt _ (ms f H)
theorem WC(A:List Int)(E:Int):Sa 295 [Z 1 S A,rI E] [rB (J6 A E)]:=have f:=me (J6.eq_1 A E);so func295 ntmps295∘aa (F0 A E)<|rt _ f
theorem qO(A:List YZ)(E:List ZX)(G:ZW)(g:R 2318336 A)(w:R 2318336 E):Sa 296 [Z 5 YZ.row A,Z 3 ZX.row E,G.row] [(XU A E G).1.row,rB (XU A E G).2]:=by
 have f:=me (XU.eq_1 A E G);refine so func296 ntmps296∘aa (xC E G.a)∘aj (fun gg=>yi G.b)∘cQ f<|fun k1 I f=>(ac P)<|?_;have N:(ZN E G.a).toNat<E.length:=by have:=Ym E G.a;exact il
 exact xp N∘aa (YJ.rd (Pa G))∘aa (ON A (C E (ZN E G.a).toNat).c (Jd G) (sg g) (by simp(maxDischargeDepth:=12) [Ih,ZT (m:=2322432) aq g,ZT (m:=2322432) aq w];try omega))∘cQ f<|fun k3 X f=>rt _ f
theorem GG(h:b)(k:a:=by(intros;first|omega|with_unfolding_all (first|first|omega|(have c:=Int.tmod_eq_emod_of_nonneg (b:=2) (show 0<=U by omega);(try simp only[X8,show ∀x,IntKind.i64.wrap x=W x from fun _=>rfl]at*);(try simp at*);omega))|exact wt)):a/\b:=⟨k,h⟩
theorem rZ(A:Int)(E:List Int)(G:Int)(g:R 2318336 E):y 378 [rI A,Z 1 S E,rI G] [Z 2 Y9.row (QU A E G)]:=by
 have f:=me (QU.eq_1 A E G);refine ao func378 ntmps378∘aa (Z6 G 0 (W ((E.length:Int)-1)))<|?_;have c1:=sl 2318336 E g;have K:IntKind.i64.wrap ((E.length:Int)-1)=(E.length:Int)-1:=YF Y Y;refine(aF f) ?_ ?_<;>intro k1 I f
 ·have q1:=I;try simp[ZJ,K]at q1
  simp;exact ag _ f
 have q1:=I;try simp[ZJ,K]at q1
 simp;refine(bH (zI.eq_2 A) (fun J U p=>Z3 54 [eI 0 A,eL 1 1 J S,eI 2 U,(7,.one (.O 7 0 0 p.length),[.arr false 2 (p.map Y9.row)])]) (fun D J U p=>J.length<D/\0<=U/\U<(J.length:Int)/\J.length<=16/\p.length+D<=17) (E.length+1) E G ([]:List Y9) (v:=by first|omega|(simp at*;omega)) (h0:=aw [((7,0),none)] []))<|fun p1 J U p H T=>(cF H) ?_ ?_<;>intro k3 X H
 ·refine(ae H) ?_ ?_<;>intro k4 h3 H
  ·have N:(W (U-1)).toNat<J.length:=hn;simp[N,ZG];repeat with_reducible refine GG ?_
   refine(aa (YJ.rd (Vi A J c2)))<|?_;exact bh H (v:=by(have z:=Kp A J Y;have j:=Int.tdiv_eq_ediv_of_nonneg (b:=2) (show 0<=U by omega);have w2:W (Int.tdiv U 2)=Int.tdiv U 2:=YF Y Y;(try dsimp only);rw[w2];simp at*;omega)) (hw:=Ya [((7,0),some (33,0))] [] rfl ad)
  refine(aF H) ?_ ?_<;>intro k5 h4 H
  ·have q4:=h4;try simp[K]at q4
   have i2:(W (U+1)).toNat<J.length:=hn;simp[i2,ZG];repeat with_reducible refine GG ?_
   refine(aa (YJ.rd (Vi A J c2)))<|?_;exact bh H (v:=by(have z:=Kp A J Y;have j:=Int.tdiv_eq_ediv_of_nonneg (b:=2) (show 0<=U by omega);have w2:W (Int.tdiv U 2)=Int.tdiv U 2:=YF Y Y;(try dsimp only);rw[w2];simp at*;omega)) (hw:=Ya [((7,0),some (47,0))] [] rfl ad)
  have q4:=h4;try simp[K]at q4
  simp;refine(aa (YJ.rd (Vi A J c2)))<|?_;exact aR K H (v:=by(have z:=Kp A J Y;have j:=Int.tdiv_eq_ediv_of_nonneg (b:=2) (show 0<=U by omega);have w2:W (Int.tdiv U 2)=Int.tdiv U 2:=YF Y Y;(try dsimp only);rw[w2];simp at*;omega))
 exact ag _ (ms f H)
theorem La(A:ZY)(E:Zc)(g:R 2326528 A)(w:R 2326528 E):y 303 [A.row,E.row] [(XH A E).1.row,rB (XH A E).2]:=by
 have f:=me (XH.eq_1 A E);refine ao func303 ntmps303∘ah [] (y0 A (sg g))∘be [14] P<|?_;simp;refine ah [true,true,true,false,false] (Py E (sg w))∘VR<|?_;have c1:=sl 2326528 A.b (an g w);simp;refine(TH (aq:=A.b.map Zc.row) (al:=([E]:List Zc).map Zc.row) (l1:=[(8,1)]) (l2:=[(12,3),(12,4)]) (Q:=5))<|?_;simp;refine(aa (Ox (ZY.mk A.a (A.b++([E]:List Zc)))))<|(cF f) ?_ ?_<;>intro k2 I f
 ·exact(ah [] (y0 A (sg g)))<|ag _ f
 exact ag _ f
theorem Ft(A:ZE)(E:Int)(G:List ZW)(g:R 2306048 A)(w:R 2306048 G):y 297 [A.row,rI E,Z 5 ZW.row G] [(Jl A E G).1.row,rB (Jl A E G).2]:=by
 have f:=me (Jl.eq_1 A E G);refine ao func297 ntmps297∘aj (fun gg=>ql A)<|(cF f) ?_ ?_<;>intro k1 I f
 ·exact(ah [] (XB A (sg g)))<|ag _ f
 refine ah [] (XB A (sg g))∘aa (YJ.rd (Ik A E (sg g)))∘ap (QL.eq_2 A E G) (fun J U=>Z3 75 [eI 1 E,eL 2 5 G ZW.row,eX 3 (A.row.map .d),(6,.one (.Z 6 0),[.box [.d (.int .i64 0),.nil 16]]),(8,.one (.Z 8 0),[.box [.d (.int .i64 A.b),.O 26 1 0 U.length]]),eL 9 1 (QZ A E) S,(26,.any,[.none,.arr true 16 (U.map ZU.row)]),eL 31 16 A.a ZU.row,eI 32 (A.a.length:Int),eI 33 (J:Int)]) (fun D J U=>A.a.length<D+J/\J<=A.a.length/\U.length=A.a.length) (A.a.length+1) 0 A.a<|fun p1 J U H T=>(ae H) ?_ ?_<;>intro k3 X H
 ·have N:=ix X;have m2:=ml A.a (k3 31 _ rfl);have c1:=sl 2306048 A.a (an g w);have K:=wr J;refine xp N∘av P∘aa (EJ A E (sg g))∘aa (YJ.rd (rZ E (QZ A E) (J:Int) (by simp(maxDischargeDepth:=12) [PW,ZT (m:=2318336) aq g,ZT (m:=2318336) aq w];try omega)))∘ah [] (La (C A.a J).a (Zc.mk ((C A.a J).a.a.length:Int) E (JK A E) (QU E (QZ A E) (J:Int)) G) (sg (ZU.YU (Zh (ZE.YO g)))) (by simp(maxDischargeDepth:=12) [NI,PW,ZT (m:=2326528) aq g,ZT (m:=2326528) aq w];try omega))<|(bg H) ?_ ?_<;>intro k5 h3 H
  ·refine(ah [] (XB A (sg g)))<|?_;exact ag _ (ms f H)
  have i2:=ik J U;refine(xp i2)<|?_;refine eE (t:=26) (j:=1) (i:=J) (c:=14) (Q:=16) (M:=U.map ZU.row) (ds:=(XH (C A.a J).a (Zc.mk ((C A.a J).a.a.length:Int) E (JK A E) (QU E (QZ A E) (J:Int)) G)).1.row) (L:=[(55,0),(55,1)]) rfl rfl rfl rfl ab ab (by simp;try omega) ab ab ab ab ab ab ?_;simp[Xv (x:=ZU.mk (C U J).b (C U J).e (C U J).c (C U J).d (XH (C A.a J).a (Zc.mk ((C A.a J).a.a.length:Int) E (JK A E) (QU E (QZ A E) (J:Int)) G)).1) rfl,i2,ZG,YK];refine(bi)<|?_;exact au K H
 have c2:=sl 2306048 A.a (an g w);have f:=ms f H;refine(aa (ql (ZE.mk A.b U)))<|(cF f) ?_ ?_<;>intro k6 h4 f
 ·exact(ah [] (XB A (sg g)))<|ag _ f
 exact ag _ f
theorem tE(A:ZF)(E:Int)(G:List Int)(V:Int)(g:R 2301952 A)(w:R 2301952 G):y 211 [A.row,rI E,Z 1 S G,rI V] [(xd A E G V).1.row,rB (xd A E G V).2]:=by
 have f:=me (xd.eq_1 A E G V);refine ao func211 ntmps211∘ah qW (Yk A (sg g))∘aa (Vj A.b.c A.b.d)∘aa (Ko A E)∘aj (fun gg=>Ry G)∘aj (fun gg=>Z6 V (-10000) 10000)<|?_;have c1:=sl 2301952 A.a (an g w);have K:IntKind.i64.wrap ((A.a.length:Int)-1)=(A.a.length:Int)-1:=YF Y Y;refine(aF f) ?_ ?_<;>intro k1 I f
 ·have q1:=I;try simp[ZJ,K,Zw]at q1
  simp;exact ag _ f
 have q1:=I;try simp[ZJ,K,Zw]at q1
 have N:=ik E.toNat A.a;refine xp N∘aa (EJ (C A.a E.toNat) (ZL A.b.c A.b.d) (sg (Zh (ZF.Zz g))))∘bH (QE.eq_2 A E G V) (fun J U p=>Z3 175 [eI 1 E,eI 3 V,eX 4 (A.row.map .d),(8,.one (.Z 8 0),[.box [.nil 5,.nil 3,.nil 4,.d (.int .i64 0),.d (.int .i64 0),.nil 7,.nil 1,.nil 2,.nil 1,.nil 1,.d (.int .i64 0),.nil 1]]),eX 10 (A.b.row.map .d),(11,.one (.Z 11 0),[.box [.O 27 0 0 A.b.a.length,.O 27 1 0 A.b.b.length,.O 27 2 0 A.b.c.length,.d (.int .i64 A.b.e),.d (.int .i64 A.b.d),.O 27 5 0 A.c.length,.O 27 6 0 A.d.length,.O 27 7 0 A.a.length,.O 27 8 0 p.length,.O 27 9 0 A.f.length,.d (.int .i64 A.h),.O 27 11 0 A.g.length]]),eI 12 (ZL A.b.c A.b.d),eI 13 (JK (C A.a E.toNat) (ZL A.b.c A.b.d)),(14,.one (.O 14 0 0 J.length),[.arr false 5 (J.map ZW.row)]),(27,.any,[.arr false 5 (A.b.a.map YZ.row),.arr false 3 (A.b.b.map ZX.row),.arr false 4 (A.b.c.map Z8.row),.none,.none,.arr false 7 (A.c.map Yv.row),.arr false 1 (A.d.map S),.arr true 2 (A.a.map ZE.row),.arr false 1 (p.map S),.arr false 1 (A.f.map S),.none,.arr false 1 (A.g.map S)]),eL 64 1 G S,eI 65 (G.length:Int),eI 66 (U:Int)]) (fun D J U p=>G.length<D+U/\U<=G.length/\J.length<=0+1*U/\p.length=A.e.length) (G.length+1) ([]:List ZW) 0 A.e (h0:=aw [((14,0),none)] [])<|fun p1 J U p H T=>(aF H) ?_ ?_<;>intro k3 X H
 ·have i2:=ix X;have m2:=ml G (k3 64 _ rfl);have c2:=sl 2301952 G (an g w);have w2:=wr U;refine xp i2∘aa (xC A.b.b (C G U))<|(cF H) ?_ ?_<;>intro k4 h3 H
  ·refine(ah qW (Yk A (sg g)))<|?_;exact ag _ (ms f H)
  refine(ac P)<|?_;have i3:(ZN A.b.b (C G U)).toNat<A.b.b.length:=cB
  refine xp i3∘aa (Jt A.b.a (C A.b.b (ZN A.b.b (C G U)).toNat).c)∘av P<|(aM) ?_ ?_<;>intro B
  ·have i4:(Zi A.b.a (C A.b.b (ZN A.b.b (C G U)).toNat).c).toNat<A.b.a.length:=by have:=Yy A.b.a (C A.b.b (ZN A.b.b (C G U)).toNat).c;exact il
   refine(l i4)<|(cK H) ?_ ?_<;>intro c h4 H
   ·try(simp[B]at h4;done)
    all_goals
     refine(bf qW (Yk A (sg g)))<|?_;exact Jq _ (ms f H)
   ·try(simp[B]at h4;done)
    all_goals
     refine(aT (WC A.f (C G U)))<|(cK H) ?_ ?_<;>intro k8 h5 H
     ·try(simp[B]at h5;done)
      all_goals
       refine(ac P)<|?_;have d:(ZN A.b.b (C G U)).toNat<A.e.length:=cB
       refine l d∘aT (qO A.b.a A.b.b (ZW.mk (C G U) (C A.e (ZN A.b.b (C G U)).toNat) (if(if W (A.b.d+V)<10000 then W (A.b.d+V)else 10000)>0 then(if W (A.b.d+V)<10000 then W (A.b.d+V)else 10000)else 0) (JK (C A.a E.toNat) (ZL A.b.c A.b.d)) 0) (sg (ZP.Yb (ZF.YW g))) (sg (ZP.Yi (ZF.YW g)))) (b:=by first|(simp;done)|(simp[W,K,w2];done))<|(aA H) ?_ ?_<;>intro al h6 H
       ·try(simp[B]at h6;done)
        all_goals
         have O:=h6;try simp[K]at O
         refine aL∘bf qW (Yk A (sg g))<|?_;exact Jq _ (ms f H)
       ·try(simp[B]at h6;done)
        all_goals
         have O:=h6;try simp[K]at O
         have i6:(ZN A.b.b (C G U)).toNat<p.length:=cB;simp[i6,ZG,Xv (x:=W (C p (ZN A.b.b (C G U)).toNat+1)) rfl,B];refine(aC)<|?_;exact bh H (hw:=Ya [((14,0),some (145,0))] [] rfl c5)
     ·try(simp[B]at h5;done)
      all_goals
       refine(ac P)<|?_;have i7:(ZN A.b.b (C G U)).toNat<A.e.length:=cB
       refine l i7∘aT (qO A.b.a A.b.b (ZW.mk (C G U) (C A.e (ZN A.b.b (C G U)).toNat) A.b.d (JK (C A.a E.toNat) (ZL A.b.c A.b.d)) 0) (sg (ZP.Yb (ZF.YW g))) (sg (ZP.Yi (ZF.YW g))))<|(c9 H) ?_ ?_<;>intro v h7 H
       ·try(simp[B]at h7;done)
        all_goals
         refine(bf qW (Yk A (sg g)))<|?_;exact Jq _ (ms f H)
       ·try(simp[B]at h7;done)
        all_goals
         have i8:(ZN A.b.b (C G U)).toNat<p.length:=cB;simp[i8,ZG,Xv (x:=W (C p (ZN A.b.b (C G U)).toNat+1)) rfl,B];refine(aC)<|?_;exact bh H (hw:=Ya [((14,0),some (145,0))] [] rfl c5)
  ·refine(cK H) ?_ ?_<;>intro ax h8 H
   ·try(simp[B]at h8;done)
    all_goals
     refine(bf qW (Yk A (sg g)))<|?_;exact Jq _ (ms f H)
   ·try(simp[B]at h8;done)
    all_goals
     refine(aT (WC A.f (C G U)))<|(cK H) ?_ ?_<;>intro aD h9 H
     ·try(simp[B]at h9;done)
      all_goals
       refine(ac P)<|?_;have af:(ZN A.b.b (C G U)).toNat<A.e.length:=cB
       refine l af∘aT (qO A.b.a A.b.b (ZW.mk (C G U) (C A.e (ZN A.b.b (C G U)).toNat) (if(if W (A.b.d+V)<10000 then W (A.b.d+V)else 10000)>0 then(if W (A.b.d+V)<10000 then W (A.b.d+V)else 10000)else 0) (JK (C A.a E.toNat) (ZL A.b.c A.b.d)) 0) (sg (ZP.Yb (ZF.YW g))) (sg (ZP.Yi (ZF.YW g)))) (b:=by first|(simp;done)|(simp[W,K,w2];done))<|(aA H) ?_ ?_<;>intro aH ak H
       ·try(simp[B]at ak;done)
        all_goals
         have a:=ak;try simp[K]at a
         refine aL∘bf qW (Yk A (sg g))<|?_;exact Jq _ (ms f H)
       ·try(simp[B]at ak;done)
        all_goals
         have a:=ak;try simp[K]at a
         have ad:(ZN A.b.b (C G U)).toNat<p.length:=cB;simp[ad,ZG,Xv (x:=W (C p (ZN A.b.b (C G U)).toNat+1)) rfl,B];refine(aC)<|?_;exact bh H (hw:=Ya [((14,0),some (145,0))] [] rfl c5)
     ·try(simp[B]at h9;done)
      all_goals
       refine(ac P)<|?_;have r:(ZN A.b.b (C G U)).toNat<A.e.length:=cB
       refine l r∘aT (qO A.b.a A.b.b (ZW.mk (C G U) (C A.e (ZN A.b.b (C G U)).toNat) A.b.d (JK (C A.a E.toNat) (ZL A.b.c A.b.d)) 0) (sg (ZP.Yb (ZF.YW g))) (sg (ZP.Yi (ZF.YW g))))<|(c9 H) ?_ ?_<;>intro aE am H
       ·try(simp[B]at am;done)
        all_goals
         refine(bf qW (Yk A (sg g)))<|?_;exact Jq _ (ms f H)
       ·try(simp[B]at am;done)
        all_goals
         have ae:(ZN A.b.b (C G U)).toNat<p.length:=cB;simp[ae,ZG,Xv (x:=W (C p (ZN A.b.b (C G U)).toNat+1)) rfl,B];refine(aC)<|?_;exact bh H (hw:=Ya [((14,0),some (145,0))] [] rfl c5)
 have c3:=sl 2301952 G (an g w);have f:=ms f H;refine xp N∘ah [] (Ft (C A.a E.toNat) (ZL A.b.c A.b.d) J (sg (Zh (ZF.Zz g))) (by first|(simp(maxDischargeDepth:=12) [XN];omega)|(simp(maxDischargeDepth:=12) [ZT (m:=2306048) aq g,ZT (m:=2306048) aq w];done)))<|(bg f) ?_ ?_<;>intro aG az f
 ·exact(ah qW (Yk A (sg g)))<|ag _ f
 refine xp N∘TF (t:=27) (j:=7) (i:=E.toNat) (Q:=2) (M:=A.a.map ZE.row) (ds:=(Jl (C A.a E.toNat) (ZL A.b.c A.b.d) J).1.row) (L:=[(162,1)])<|?_;simp[Xv (x:=(Jl (C A.a E.toNat) (ZL A.b.c A.b.d) J).1) rfl,c1,N,ZG,YK];exact(bi)<|ag _ f
theorem Bp(A:Int)(E:ZU)(g:R 2318336 E):Sa 489 [rI A,E.row] [rI (UT A E)]:=by
 have f:=me (UT.eq_1 A E);refine so func489 ntmps489∘av P∘aa (qd A E.c (sg (ZU.Q6 g)))∘aa (OU A E.a.a (sg (ZY.Yw (ZU.YU g))))∘ap (U0.eq_2 A E) (fun J U=>Z3 40 [eI 0 A,(5,.one (.O 5 0 0 J.length),[.arr false 1 (J.map S)]),eL 24 5 E.a.b Zc.row,eI 25 (E.a.b.length:Int),eI 26 (U:Int)]) (fun D J U=>E.a.b.length<D+U/\U<=E.a.b.length/\J.length<=5+1*U) (E.a.b.length+1) ([5,E.b,E.e,Yh A E.c,KH A E.a.a]:List Int) 0 (h0:=aw [((5,0),some (21,0))] [])<|fun p1 J U H T=>(ae H) ?_ ?_<;>intro k3 I H
 ·have N:=ix I;have m2:=ml E.a.b (k3 24 _ rfl);have c1:=sl 2318336 E.a.b g;have K:=wr U;refine xp N∘aa (Vx A (C E.a.b U) (sg (Zh (ZY.Qf (ZU.YU g)))))<|?_;exact ay H (hw:=Ya [((5,0),some (35,0))] [] rfl ad)
 have c2:=sl 2318336 E.a.b g;have f:=ms f H;exact(aa (Ku A J bL))<|rt _ f
theorem R8(A:Int)(E:List ZU)(g:R 2314240 E):Sa 439 [rI A,Z 16 ZU.row E] [rI (xT A E)]:=by
 have f:=me (xT.eq_1 A E);refine so func439 ntmps439∘ap (kQ.eq_2 A E) (fun J U=>Z3 24 [eI 0 A,(5,.one (.O 5 0 0 J.length),[.arr false 1 (J.map S)]),eL 8 16 E ZU.row,eI 9 (E.length:Int),eI 10 (U:Int)]) (fun D J U=>E.length<D+U/\U<=E.length/\J.length<=0+1*U) (E.length+1) ([]:List Int) 0 (h0:=aw [((5,0),none)] [])<|fun p1 J U H T=>(ae H) ?_ ?_<;>intro k2 I H
 ·have N:=ix I;have m2:=ml E (k2 8 _ rfl);have c1:=sl 2314240 E g;have K:=wr U;refine xp N∘aa (Bp A (C E U) (sg (Zh g)))<|?_;exact ay H (hw:=Ya [((5,0),some (19,0))] [] rfl ad)
 have c2:=sl 2314240 E g;have f:=ms f H;exact(aa (H6 A J g1))<|rt _ f
theorem Ba(A:ZE)(E:Int)(G:List Int)(V:Int)(g:R 2310144 A)(w:R 2310144 G):y 379 [A.row,rI E,Z 1 S G,rI V] [(Yx A E G V).1.row,rB (Yx A E G V).2]:=by
 have f:=me (Yx.eq_1 A E G V);refine ao func379 ntmps379∘ap (KK.eq_2 A G) (fun J U=>Z3 52 [eL 2 1 G S,eI 3 V,eX 4 (A.row.map .d),(8,.one (.Z 8 0),[.box [.d (.int .i64 0),.d (.int .i64 0),.nil 16,.d (.int .i64 0)]]),(10,.one (.Z 10 0),[.box [.d (.int .i64 A.b),.d (.int .i64 E),.O 10 3 0 U.length,.d (.int .i64 0)],.none,.none,.arr true 16 (U.map ZU.row)]),eL 18 1 G S,eI 19 (G.length:Int),eI 20 (J:Int)]) (fun D J U=>G.length<D+J/\J<=G.length/\U.length<=J/\(∀x∈U,R 2310144 x)) (G.length+1) 0 ([]:List ZU) (v:=by exact⟨Y,Y,Nat.zero_le _,Nat.zero_le _,fun x h=>by cases h⟩) (h0:=aw [((10,3),none)] [])<|fun p1 J U H T=>?_;try dsimp only at T
 refine(ae H) ?_ ?_<;>intro k2 I H
 ·have N:=ix I;have m2:=ml G (k2 2 _ rfl);have c1:=sl 2310144 G (an g w);have K:=wr J;refine xp N∘aa (VF A (C G J))<|(cF H) ?_ ?_<;>intro k3 X H
  ·exact ag _ (ms f H)
  refine(be [39] P)<|?_;have i2:(B A (C G J)).toNat<A.a.length:=by have:=JM A (C G J);exact il
  refine xp i2∘ah [true,true,true,false,false] (kz (C A.a (B A (C G J)).toNat) (sg (Zh (ZE.YO g))))∘VR<|?_;simp;refine(TH (aq:=U.map ZU.row) (al:=([C A.a (B A (C G J)).toNat]:List ZU).map ZU.row) (l1:=[(10,3)]) (l2:=[(37,3),(37,4),(37,14),(37,15)]) (Q:=16))<|?_;simp;exact ay H (v:=by((try dsimp only);refine⟨Y,Y,Y,by simp;omega,fun x O=>?_⟩;rcases List.mem_append.1 O with O|O;exact T.2.2.2.2 x O;have e:=List.mem_singleton.1 O;subst e;exact Zh (ZE.YO g))) (hw:=Ya [((10,3),some (39,0))] [] rfl ad)
 have c2:=sl 2310144 G (an g w);have f:=ms f H;exact(cQ f)<|fun k5 h3 f=>(aa (R8 V U h4))<|ag _ f
theorem DY(A:XY)(E:Int)(g:R 2310144 A):Sa 440 [A.row,rI E] [rB (Jj A E)]:=by
 have f:=me (Jj.eq_1 A E);refine so func440 ntmps440∘aG (yQ.eq_2 A) (fun J=>Z3 31 [eI 1 E,eX 2 (A.row.map .d),eL 8 16 A.a ZU.row,eI 9 (A.a.length:Int),eI 10 (J:Int)]) (fun D J=>A.a.length<D+J/\J<=A.a.length) (A.a.length+1) 0<|fun p1 J H T=>(ae H) ?_ ?_<;>intro k2 I H
 ·have N:=ix I;have m2:=ml A.a (k2 8 _ rfl);have c1:=sl 2310144 A.a g;have K:=wr J;refine xp N∘aa (Cb (C A.a J))<|(cF H) ?_ ?_<;>intro k3 X H
  ·exact rt _ (ms f H)
  exact aE K H
 have f:=ms f H;exact av P∘aa (Z6 (A.a.length:Int) 1 8)∘aj (fun gg=>R8 E A.a (sg (XY.YO g)))<|rt _ f
theorem EV(A:ZE)(E:XY)(G:Int)(g:R 2306048 A)(w:R 2306048 E):y 380 [A.row,E.row,rI G] [(XC A E G).1.row,rB (XC A E G).2]:=by
 have f:=me (XC.eq_1 A E G);refine ao func380 ntmps380∘aa (DY E G (sg w))<|(cF f) ?_ ?_<;>intro k1 I f
 ·exact(ah [] (XB A (sg g)))<|ag _ f
 refine ah [] (XB A (sg g))∘bH (Qh.eq_2 A E) (fun J U p=>Z3 48 [eX 3 (A.row.map .d),(6,.one (.Z 6 0),[.box [.d (.int .i64 0),.nil 16]]),(8,.one (.Z 8 0),[.box [.d (.int .i64 U),.O 8 2 0 p.length],.none,.arr true 16 (p.map ZU.row)]),eL 29 16 E.a ZU.row,eI 30 (E.a.length:Int),eI 31 (J:Int)]) (fun D J U p=>E.a.length<D+J/\J<=E.a.length/\R (2306048+J) (ZE.mk U p)) (E.a.length+1) 0 A.b A.a (v:=by exact⟨Y,Y,Nat.zero_le _,g⟩) (h0:=aw [((8,2),some (27,1))] [])<|fun p1 J U p H T=>?_;try dsimp only at T
 refine(ae H) ?_ ?_<;>intro k3 X H
 ·have N:=ix X;have m2:=ml E.a (k3 29 _ rfl);have c1:=sl 2306048 E.a (an g w);have K:=wr J;refine xp N∘ah [] (Ek (ZE.mk U p) (C E.a J) iv iv)<|(cF H) ?_ ?_<;>intro k4 h3 H
  ·refine(ah [] (XB A (sg g)))<|?_;exact ag _ (ms f H)
  exact bh H (v:=by((try dsimp only);refine⟨Y,Y,Y,?_⟩;exact RP (n:=2306048+J) T.2.2.2 (ZT (n:=2306048) Y (Zh (XY.YO w))))) (hw:=Ya [((8,2),some (38,1))] [] rfl ad)
 have c2:=sl 2306048 E.a (an g w);exact ag _ (ms f H)
theorem rz(h:b)(k:a:=by(intros;first|omega|with_unfolding_all (first|first|omega|(have h0:=I;simp only[decide_eq_false_iff_not]at h0;have z:=JM A E;have Z:=Z7 (ZE.YO g);have w2:IntKind.i64.wrap ((B A E)+1)=(B A E)+1:=(YF Y Y);have w:W ((B A E)+1)=(B A E)+1:=w2;omega))|exact wt)):a/\b:=⟨k,h⟩
theorem tU(A:ZE)(E:Int)(g:R 2318336 A):y 381 [A.row,rI E] [(KZ A E).1.row,rB (KZ A E).2]:=by
 have f:=me (KZ.eq_1 A E);refine ao func381 ntmps381∘ah [] (XB A (sg g))∘aa (VF A E)∘cQ f<|fun k1 I f=>(be [25] P)<|?_;have c1:=sl 2318336 A.a g;simp;repeat with_reducible refine rz ?_
 refine TV (M:=A.a.map ZU.row) (al:=(A.a.drop (W (B A E+1)).toNat).map ZU.row) (Q:=16) (u:=9) (j:=1) (ae:=(B A E).toNat) (lo:=(W (B A E+1)).toNat) (n:=A.a.length-(W (B A E+1)).toNat) rfl rfl rfl rfl ab ab ab ab ab (by first|omega|(first|omega|(have h0:=I;simp only[decide_eq_false_iff_not]at h0;have z:=JM A E;have Z:=Z7 (ZE.YO g);have w2:IntKind.i64.wrap (B A E+1)=B A E+1:=YF Y Y;have w:W (B A E+1)=B A E+1:=w2;omega))|(simp;first|omega|(have h0:=I;simp only[decide_eq_false_iff_not]at h0;have z:=JM A E;have Z:=Z7 (ZE.YO g);have w2:IntKind.i64.wrap (B A E+1)=B A E+1:=YF Y Y;have w:W (B A E+1)=B A E+1:=w2;omega))) (by first|omega|(simp;done)|(simp;first|omega|(have h0:=I;simp only[decide_eq_false_iff_not]at h0;have z:=JM A E;have Z:=Z7 (ZE.YO g);have w2:IntKind.i64.wrap (B A E+1)=B A E+1:=YF Y Y;have w:W (B A E+1)=B A E+1:=w2;omega))) (I9 _ _ _) ab (by first|omega|(simp;first|omega|(have h0:=I;simp only[decide_eq_false_iff_not]at h0;have z:=JM A E;have Z:=Z7 (ZE.YO g);have w2:IntKind.i64.wrap (B A E+1)=B A E+1:=YF Y Y;have w:W (B A E+1)=B A E+1:=w2;omega))) ?_;simp;exact ag _ f
theorem vO(A E:ZE)(G:List Int)(V:Int)(g:R 2301952 A)(w:R 2301952 E)(L:R 2301952 G):y 298 [A.row,E.row,Z 1 S G,rI V] [(XT A E G V).1.row,(XT A E G V).2.1.row,rB (XT A E G V).2.2]:=by
 have f:=me (XT.eq_1 A E G V);refine ao func298 ntmps298∘aa (YJ.rd (Ba A E.b G V ej ej))∘ah [] (EV E (Yx A E.b G V).1 V es es)<|(cF f) ?_ ?_<;>intro k1 I f
 ·refine aY fun k2=>?_;exact av P∘ah [] (XB A (sg g))∘ah [] (XB E (sg w))<|ag _ f
 refine ah [] (XB A (sg g))∘bH (JH.eq_2 A E G) (fun J U p=>Z3 70 [eX 4 (A.row.map .d),eX 5 (E.row.map .d),(8,.one (.Z 8 0),[.box [.d (.int .i64 0),.nil 16]]),(9,.one (.Z 9 0),[.box [.d (.int .i64 0),.nil 16]]),(13,.one (.Z 13 0),[.box [.d (.int .i64 (XC E (Yx A E.b G V).1 V).1.b),.O 33 1 0 (XC E (Yx A E.b G V).1 V).1.a.length]]),(15,.one (.Z 15 0),[.box [.d (.int .i64 U),.O 15 2 0 p.length],.none,.arr true 16 (p.map ZU.row)]),(33,.any,[.none,.arr true 16 ((XC E (Yx A E.b G V).1 V).1.a.map ZU.row)]),eL 48 1 G S,eI 49 (G.length:Int),eI 50 (J:Int)]) (fun D J U p=>G.length<D+J/\J<=G.length/\R 2301952 (ZE.mk U p)) (G.length+1) 0 A.b A.a (v:=by exact⟨Y,Y,Nat.zero_le _,g⟩) (h0:=aw [((15,2),some (47,1))] [])<|fun p1 J U p H T=>?_;try dsimp only at T
 refine(ae H) ?_ ?_<;>intro k4 X H
 ·have N:=ix X;have m2:=ml G (k4 48 _ rfl);have c1:=sl 2301952 G (an g (an w L));have K:=wr J;refine xp N∘ah [] (tU (ZE.mk U p) (C G J) (by exact ZT (n:=2301952) aq T.2.2.2))<|(cF H) ?_ ?_<;>intro k5 h3 H
  ·refine aY fun k6=>?_;refine av P∘ah [] (XB A (sg g))∘ah [] (XB E (sg w))<|?_;exact ag _ (ms f H)
  exact bh H (v:=by((try dsimp only);refine⟨Y,Y,Y,?_⟩;exact NF aq T.2.2.2)) (hw:=Ya [((15,2),some (57,1))] [] rfl ad)
 have c2:=sl 2301952 G (an g (an w L));have f:=ms f H;refine fb [(8,8),(9,9),(13,13),(15,15)] P ai ai ai ai ?_;simp;exact ag _ f
theorem sH(A:ZF)(E G V:Int)(g:R 2297856 A):y 212 [A.row,rI E,rI G,rI V] [(je A E G V).1.row,rB (je A E G V).2]:=by
 have f:=me (je.eq_1 A E G V);refine ao func212 ntmps212∘ah qW (Yk A (sg g))∘aa (Vj A.b.c A.b.d)∘aa (Ko A E)∘aj (fun gg=>Ko A G)<|?_;have c1:=sl 2297856 A.a g;have K:IntKind.i64.wrap ((A.a.length:Int)-1)=(A.a.length:Int)-1:=YF Y Y;refine(aF f) ?_ ?_<;>intro k1 I f
 ·have q1:=I;try simp[K,Zw,ZJ]at q1
  simp;exact ag _ f
 have q1:=I;try simp[K,Zw,ZJ]at q1
 simp;refine(ac P)<|?_;have N:=ik E.toNat A.a
 have i2:=ik G.toNat A.a;refine xp (an N i2)∘ah [] (vO (C A.a E.toNat) (C A.a G.toNat) ([V]:List Int) (ZL A.b.c A.b.d) (sg (Zh (ZF.Zz g))) (sg (Zh (ZF.Zz g))) hv)<|(cF f) ?_ ?_<;>intro k3 X f
 ·refine aY fun k4=>?_;refine fc [(10,10),(12,12),(13,13),(63,10),(66,10)] [71,72] [] P ai ai ai ai ai ai ai ?_;refine xp N∘TF (t:=16) (j:=7) (i:=E.toNat) (Q:=2) (M:=A.a.map ZE.row) (ds:=(XT (C A.a E.toNat) (C A.a G.toNat) ([V]:List Int) (ZL A.b.c A.b.d)).1.row) (L:=[(58,1)])<|?_;simp[Xv (x:=(XT (C A.a E.toNat) (C A.a G.toNat) ([V]:List Int) (ZL A.b.c A.b.d)).1) rfl,c1,N,i2,ZG,YK];refine bi∘TF (t:=16) (j:=7) (i:=G.toNat) (Q:=2) (M:=(A.a.set E.toNat (XT (C A.a E.toNat) (C A.a G.toNat) ([V]:List Int) (ZL A.b.c A.b.d)).1).map ZE.row) (ds:=(XT (C A.a E.toNat) (C A.a G.toNat) ([V]:List Int) (ZL A.b.c A.b.d)).2.1.row) (L:=[(58,3)])<|?_;simp[Xv (x:=(XT (C A.a E.toNat) (C A.a G.toNat) ([V]:List Int) (ZL A.b.c A.b.d)).1) rfl,c1,N,i2,ZG,YK];exact(bi)<|ag _ f
 exact ag _ f
theorem BN(A:ZE)(E:Int)(g:R 2322432 A):y 299 [A.row,rI E] [(zA A E).1.row,rI (zA A E).2]:=by
 have f:=me (zA.eq_1 A E);refine ao func299 ntmps299∘ap (Q0.eq_2 A E) (fun J U=>Z3 39 [eI 1 E,eX 2 (A.row.map .d),(4,.one (.Z 4 0),[.box [.d (.int .i64 0),.nil 16]]),(6,.one (.Z 6 0),[.box [.d (.int .i64 A.b),.O 6 2 0 U.length],.none,.arr true 16 (U.map ZU.row)]),eL 13 16 A.a ZU.row,eI 14 (A.a.length:Int),eI 15 (J:Int)]) (fun D J U=>A.a.length<D+J/\J<=A.a.length/\U.length<=0+1*J) (A.a.length+1) 0 ([]:List ZU) (h0:=aw [((6,2),none)] [])<|fun p1 J U H T=>(ae H) ?_ ?_<;>intro k2 I H
 ·have N:=ix I;have m2:=ml A.a (k2 13 _ rfl);have c1:=sl 2322432 A.a g;have K:=wr J;refine(xp N)<|(cF H) ?_ ?_<;>intro k3 X H
  ·refine aY fun k4=>?_;refine(be [28] P)<|?_;simp;refine ah [true,true,true,false,false] (kz (C A.a J) (sg (Zh (ZE.YO g))))∘VR<|?_;simp;refine(TH (aq:=U.map ZU.row) (al:=([C A.a J]:List ZU).map ZU.row) (l1:=[(6,2)]) (l2:=[(26,3),(26,4),(26,14),(26,15)]) (Q:=16))<|?_;simp;exact ay H (hw:=Ya [((6,2),some (28,0))] [] rfl ad)
  exact au K H
 have c2:=sl 2322432 A.a g;have f:=ms f H;refine fb [(2,2),(4,4),(6,6),(32,2),(35,6)] P ai ai ai ai ?_;simp;exact ag _ f
theorem Ap(A:ZF)(E:Int)(g:R 2314240 A):y 213 [A.row,rI E] [(Jz A E).1.row,rB (Jz A E).2]:=by
 have f:=me (Jz.eq_1 A E);refine ao func213 ntmps213∘ah qW (Yk A (sg g))∘aa (Ko A E)<|?_;have c1:=sl 2314240 A.a g;have K:IntKind.i64.wrap ((A.a.length:Int)-1)=(A.a.length:Int)-1:=YF Y Y;refine(aF f) ?_ ?_<;>intro k1 I f
 ·have q1:=I;try simp[K,Zw,ZJ]at q1
  simp;exact ag _ f
 have q1:=I;try simp[K,Zw,ZJ]at q1
 simp;refine(be [] P)<|?_;have N:=ik E.toNat A.a
 refine xp N∘cr N [] (BN (C A.a E.toNat) A.b.d (sg (Zh (ZF.Zz g))))∘TF (t:=8) (j:=7) (i:=E.toNat) (Q:=2) (M:=A.a.map ZE.row) (ds:=(zA (C A.a E.toNat) A.b.d).1.row) (L:=[(26,1)])<|?_;simp[Xv (x:=(zA (C A.a E.toNat) A.b.d).1) rfl,c1,N,ZG,YK];exact(bi)<|ag _ f
theorem Sq(A:List Z8)(E:Int):Sa 311 [Z 4 Z8.row A,rI E] [rI (XL A E)]:=by
 have f:=me (XL.eq_1 A E);refine so func311 ntmps311∘aG (kv.eq_2 A E) (fun J=>Z3 20 [eI 1 E,eL 7 4 A Z8.row,eI 8 (A.length:Int),eI 9 (J:Int)]) (fun D J=>A.length<D+J/\J<=A.length) (A.length+1) 0<|fun p1 J H T=>(ae H) ?_ ?_<;>intro k2 I H
 ·have N:=ix I;have m2:=ml A (k2 7 _ rfl);have K:=wr J;refine(xp N)<|(cF H) ?_ ?_<;>intro k3 X H
  ·exact rt _ (ms f H)
  exact aE K H
 exact rt _ (ms f H)
theorem Re(A:List Z8)(E:Int):Sa 441 [Z 4 Z8.row A,rI E] [rI (JQ A E)]:=by
 have f:=me (JQ.eq_1 A E);refine so func441 ntmps441∘aa (Sq A E)<|(ae f) ?_ ?_<;>intro k1 I f
 ·have N:(XL A E).toNat<A.length:=c7;exact(xp N)<|rt _ f
 exact rt _ f
theorem S9(A:ZP)(E:Int):Sa 382 [A.row,rI E] [rI (zC A E)]:=by
 have f:=me (zC.eq_1 A E);refine so func382 ntmps382∘aa (Jt A.a E)∘cQ f<|fun k1 I f=>(ac P)<|?_;have N:(Zi A.a E).toNat<A.a.length:=by have:=Yy A.a E;exact il
 exact xp N∘aa (Re A.c (C A.a (Zi A.a E).toNat).b)<|rt _ f
theorem Ol(A:ZP)(E:Int):Sa 300 [A.row,rI E] [rB (yR A E)]:=have f:=me (yR.eq_1 A E);so func300 ntmps300∘av P∘aa (Jt A.a E)∘aj (fun gg=>S9 A E)<|rt _ f
theorem uE(h:b)(k:a:=by(intros;first|omega|with_unfolding_all (first|first|omega|(have o:=Z7 (ZF.NR (zy (n:=2310144) (E:=E) (G:=G) (a4:=0) (a5:=10000) g w aq));(try simp);omega))|exact wt)):a/\b:=⟨k,h⟩
theorem tF(A:ZF)(E G:Int)(V:ZV)(g:R 2310144 A)(w:R 2310144 V):y 214 [A.row,rI E,rI G,V.row] [(JU A E G V).1.row,rB (JU A E G V).2]:=by
 have f:=me (JU.eq_1 A E G V);refine ao func214 ntmps214∘aa (Ol A.b G)<|(aF f) ?_ ?_<;>intro k1 I f
 ·have q1:=I;try simp at q1
  simp;refine(ah qW (Yk A dm))<|?_;refine Hg (rv:=[.cell 8 41,.tmp 9]) rfl ?_;simp[f.h];all_goals((try simp only[q2,true_and]);(try(rintro r (⟨a,_,rfl⟩|rfl) x O<;>simp at O<;>subst O<;>rfl)))
 have q1:=I;try simp at q1
 simp;refine aa (Oj A E G V 0 10000 (sg g) (sg w))∘ah qW (Yk (Xc A E G V 0 10000).1 dm)<|(aF f) ?_ ?_<;>intro k2 X f
 ·have q2:=X;try simp at q2
  simp;repeat with_reducible refine uE ?_
  refine Hg (rv:=[.cell 8 41,.tmp 9]) rfl ?_;simp[f.h];all_goals((try simp only[q2,true_and]);(try(rintro r (⟨a,_,rfl⟩|rfl) x O<;>simp at O<;>subst O<;>rfl)))
 have q2:=X;try simp at q2
 simp;refine Hg (rv:=[.cell 8 41,.tmp 9]) rfl ?_;simp[f.h];all_goals((try simp only[q2,true_and]);(try(rintro r (⟨a,_,rfl⟩|rfl) x O<;>simp at O<;>subst O<;>rfl)))
theorem Lp(A:ZF)(g:R 2326528 A):y 301 [A.row] [Z 1 S (YB A)]:=by
 have f:=me (YB.eq_1 A);refine ao func301 ntmps301∘ap (JW.eq_2 A) (fun J U=>Z3 33 [eX 1 (A.row.map .d),(3,.one (.O 3 0 0 J.length),[.arr false 1 (J.map S)]),eL 8 3 A.b.b ZX.row,eI 9 (A.b.b.length:Int),eI 10 (U:Int)]) (fun D J U=>A.b.b.length<D+U/\U<=A.b.b.length/\J.length<=0+1*U) (A.b.b.length+1) ([]:List Int) 0 (h0:=aw [((3,0),none)] [])<|fun p1 J U H T=>(ae H) ?_ ?_<;>intro k2 I H
 ·have N:=ix I;have m2:=ml A.b.b (k2 8 _ rfl);have c1:=sl 2326528 A.b.b g;have K:=wr U;refine xp N∘aa (WC A.f (C A.b.b U).b)∘aj (fun gg=>Ol A.b (C A.b.b U).c)<|(cF H) ?_ ?_<;>intro k3 X H
  ·exact ay H (hw:=Ya [((3,0),some (30,0))] [] rfl ad)
  exact au K H
 exact ag _ (ms f H)
theorem xj(h:b)(k:a:=by(intros;first|omega|with_unfolding_all (first|first|omega|(have f0:0<=(u A E).1:=(by first|omega|(simp at*;omega));have l:=YA A E f0;omega)|(have o:=QN A;have d:=Z7 (ZP.Yi (ZF.YW g));(try dsimp only at*);omega))|exact wt)):a/\b:=⟨k,h⟩
theorem FZ(A:ZF)(E G:Int)(g:R 2314240 A):y 215 [A.row,rI E,rI G] [(KI A E G).1.row,rB (KI A E G).2]:=by
 have f:=me (KI.eq_1 A E G);refine ao func215 ntmps215∘ah qW (Yk A (sg g))∘aa (SV A E)∘aa (Vj A.b.c A.b.d)∘aa (YJ.rd (Lp A (sg g)))∘aa (WC A.g E)∘bC f<|fun k1 I f=>?_;have N:(u A E).1.toNat<A.a.length:=hF;have i2:(u A E).2.toNat<(C A.a (u A E).1.toNat).a.length:=hF;simp[N,ZG,i2];repeat with_reducible refine xj ?_
 refine av P∘aa (EB (C (C A.a (u A E).1.toNat).a (u A E).2.toNat) (ZL A.b.c A.b.d) (sg (Zh (ZE.YO (Zh (ZF.Zz g))))))∘ap (QH.eq_2 A E G) (fun J U=>Z3 124 [eI 2 G,(6,.one (.Z 6 0),[.box [.nil 5,.nil 3,.nil 4,.d (.int .i64 0),.d (.int .i64 0),.nil 7,.nil 1,.nil 2,.nil 1,.nil 1,.d (.int .i64 0),.nil 1]]),eX 8 (A.b.row.map .d),(9,.one (.Z 9 0),[.box [.O 25 0 0 A.b.a.length,.O 25 1 0 A.b.b.length,.O 25 2 0 A.b.c.length,.d (.int .i64 A.b.e),.d (.int .i64 A.b.d),.O 25 5 0 A.c.length,.O 25 6 0 A.d.length,.O 25 7 0 A.a.length,.O 25 8 0 A.e.length,.O 25 9 0 A.f.length,.d (.int .i64 A.h),.O 25 11 0 A.g.length]]),eI 10 (u A E).1,eI 11 (u A E).2,eX 14 ((C (C A.a (u A E).1.toNat).a (u A E).2.toNat).row.map .d),(15,.one (.Z 15 0),[.box [.d (.int .i64 ((C (C A.a (u A E).1.toNat).a (u A E).2.toNat).a.a.length:Int)),.d (.int .i64 (ZL A.b.c A.b.d)),.d (.int .i64 (JR (C (C A.a (u A E).1.toNat).a (u A E).2.toNat) (ZL A.b.c A.b.d))),.nil 2,.O 15 5 0 U.length],.none,.none,.none,.none,.arr false 5 (U.map ZW.row)]),(25,.any,[.arr false 5 (A.b.a.map YZ.row),.arr false 3 (A.b.b.map ZX.row),.arr false 4 (A.b.c.map Z8.row),.none,.none,.arr false 7 (A.c.map Yv.row),.arr false 1 (A.d.map S),.arr true 2 (A.a.map ZE.row),.arr false 1 (A.e.map S),.arr false 1 (A.f.map S),.none,.arr false 1 (A.g.map S)]),eL 76 1 (YB A) S,eI 77 ((YB A).length:Int),eI 78 (J:Int)]) (fun D J U=>(YB A).length<D+J/\J<=(YB A).length/\U.length<=0+1*J) ((YB A).length+1) 0 ([]:List ZW) (h0:=aw [((15,5),none)] [])<|fun p1 J U H T=>?_;try dsimp only at T
 refine(ae H) ?_ ?_<;>intro k4 X H
 ·have i3:=ix X;have m2:=ml (YB A) (k4 76 _ rfl);have K:=wr J;simp[i3,ZG];repeat with_reducible refine xj ?_
  refine(aa (qO A.b.a A.b.b (ZW.mk (C (YB A) J) 0 G (JR (C (C A.a (u A E).1.toNat).a (u A E).2.toNat) (ZL A.b.c A.b.d)) 0) (sg (ZP.Yb (ZF.YW g))) (sg (ZP.Yi (ZF.YW g)))))<|(bg H) ?_ ?_<;>intro k5 h3 H
  ·exact ag _ (ms f H)
  simp;repeat with_reducible refine xj ?_
  exact ay H (hw:=Ya [((15,5),some (102,0))] [] rfl ad)
 have f:=ms f H;refine ah [] (La (C (C A.a (u A E).1.toNat).a (u A E).2.toNat).a (Zc.mk ((C (C A.a (u A E).1.toNat).a (u A E).2.toNat).a.a.length:Int) (ZL A.b.c A.b.d) (JR (C (C A.a (u A E).1.toNat).a (u A E).2.toNat) (ZL A.b.c A.b.d)) ([]:List Y9) U) gs gs)∘be [] P<|?_;simp[N,ZG,i2];repeat with_reducible refine xj ?_
 refine iz (t:=25) (j:=7) (i:=(u A E).1.toNat) (c:=1) (k':=(u A E).2.toNat) (q:=14) (n:=16) (Q:=2) (s:=(C A.a (u A E).1.toNat).a.map ZU.row) (M:=A.a.map ZE.row) (ds:=(XH (C (C A.a (u A E).1.toNat).a (u A E).2.toNat).a (Zc.mk ((C (C A.a (u A E).1.toNat).a (u A E).2.toNat).a.a.length:Int) (ZL A.b.c A.b.d) (JR (C (C A.a (u A E).1.toNat).a (u A E).2.toNat) (ZL A.b.c A.b.d)) ([]:List Y9) U)).1.row) (L:=[(109,0),(109,1)]) rfl rfl rfl rfl (by simp;rfl) ab ab (by simp[N,i2]) (by simp[ZG,YK,N,i2]) (by simp[N,i2]) ab ab ab ab ab ab ?_;simp[Xv (x:=ZE.mk (C A.a (u A E).1.toNat).b ((C A.a (u A E).1.toNat).a.set (u A E).2.toNat (ZU.mk (C (C A.a (u A E).1.toNat).a (u A E).2.toNat).b (C (C A.a (u A E).1.toNat).a (u A E).2.toNat).e (C (C A.a (u A E).1.toNat).a (u A E).2.toNat).c (C (C A.a (u A E).1.toNat).a (u A E).2.toNat).d (XH (C (C A.a (u A E).1.toNat).a (u A E).2.toNat).a (Zc.mk ((C (C A.a (u A E).1.toNat).a (u A E).2.toNat).a.a.length:Int) (ZL A.b.c A.b.d) (JR (C (C A.a (u A E).1.toNat).a (u A E).2.toNat) (ZL A.b.c A.b.d)) ([]:List Y9) U)).1))) rfl,ZG,YK,N,i2];repeat with_reducible refine xj ?_
 exact ag _ f
theorem Qn(h:b)(k:a:=by(intros;first|omega|with_unfolding_all (first|first|omega|(have z:=Qr A E dw;(try simp at*);omega))|(simp_all;done)|(simp_all;omega)|grind|exact wt)):a/\b:=⟨k,h⟩
theorem u8(A:ZF)(E G:Int)(g:R 2310144 A):y 216 [A.row,rI E,rI G] [(zY A E G).1.row,rB (zY A E G).2]:=by
 have f:=me (zY.eq_1 A E G);refine ao func216 ntmps216∘aa (C2 A E)∘av P<|(bE) ?_ ?_<;>intro B
 ·have o:=B;have g1:=B;try simp at g1
  have N:(Ye A E).2.1.toNat<A.c.length:=dR;simp[N,ZG,B];refine(bM) ?_;refine(db (fun gg=>Ol A.b (C A.c (Ye A E).2.1.toNat).e))<|?_;simp[B];refine(bM) ?_;refine(aA f) ?_ ?_<;>intro k2 I f
  ·try(simp[B]at I;done)
   all_goals
    simp[B];refine(bM) ?_;refine(cD qW (Yk A (sg g)))<|?_;simp[B];refine(bM) ?_;exact Jq _ f
  ·try(simp[B]at I;done)
   all_goals
    simp[B];refine(bM) ?_;refine(ac P)<|?_;simp[N,ZG,B];refine(bM) ?_;refine(cD qW (kI A (Ye A E).1 E (O.mk (C A.c (Ye A E).2.1.toNat).a G (-1) (C A.c (Ye A E).2.1.toNat).e 0) (sg g) dr))<|?_;simp[B];refine(bM) ?_;exact Jq _ f
 ·have o:=B;simp[B];refine(bM) ?_;refine(aO)<|?_;simp[B];refine(bM) ?_;refine(aA f) ?_ ?_<;>intro k4 X f
  ·try(simp[B]at X;done)
   all_goals
    simp[B];refine(bM) ?_;refine(cD qW (Yk A (sg g)))<|?_;simp[B];refine(bM) ?_;exact Jq _ f
  ·try(simp[B]at X;done)
   all_goals
    simp[B];refine(bM) ?_;refine(ac P)<|?_;have i3:(Ye A E).2.1.toNat<A.c.length:=dR
    simp[i3,ZG,B];refine(bM) ?_;refine(cD qW (kI A (Ye A E).1 E (O.mk (C A.c (Ye A E).2.1.toNat).a G (-1) (C A.c (Ye A E).2.1.toNat).e 0) (sg g) dr))<|?_;simp[B];refine(bM) ?_;exact Jq _ f
theorem RE(A:ZF)(E:YT)(g:R 2293760 A)(w:R 2293760 E):y 129 [A.row,E.row] [(Qw A E).1.row,rB (Qw A E).2]:=by
 have f:=me (Qw.eq_1 A E);refine(ao func129 ntmps129)<|(cF f) ?_ ?_<;>intro k1 I f
 ·exact(ah qW (sE A E.A (sg g)))<|ag _ f
 refine(cF f) ?_ ?_<;>intro k2 X f
 ·exact(ah qW (te A E.A E.B E.c E.C E.D (sg g) (sg (YT.Q6 w))))<|ag _ f
 refine(cF f) ?_ ?_<;>intro k3 h3 f
 ·exact(ah qW (BL A E.A (sg g)))<|ag _ f
 refine(cF f) ?_ ?_<;>intro k4 h4 f
 ·exact(ah qW (BO A E.A (sg g)))<|ag _ f
 refine(cF f) ?_ ?_<;>intro k5 h5 f
 ·exact(ah qW (tE A E.A E.a E.B (sg g) (sg (YT.bl w))))<|ag _ f
 refine(cF f) ?_ ?_<;>intro k6 h6 f
 ·exact(ah qW (sH A E.A E.B E.C (sg g)))<|ag _ f
 refine(cF f) ?_ ?_<;>intro c h7 f
 ·exact(ah qW (Ap A E.A (sg g)))<|ag _ f
 refine(cF f) ?_ ?_<;>intro k8 h8 f
 ·exact(ah qW (tF A E.A E.B E.c (sg g) (sg (YT.Q6 w))))<|ag _ f
 refine(cF f) ?_ ?_<;>intro k9 h9 f
 ·exact(ah qW (FZ A E.A E.B (sg g)))<|ag _ f
 refine(cF f) ?_ ?_<;>intro al ak f
 ·exact(ah qW (u8 A E.A E.B (sg g)))<|ag _ f
 exact(ah qW (Yk A (sg g)))<|ag _ f
theorem T1(h:b)(k:a:=by(intros;first|omega|with_unfolding_all (first|first|omega|(simp at I;simp only[X8]at*;omega)|(have z:=qI (E.tail.take ((W (G+1)).toNat-1)) eU;simp at I z;simp only[X8]at*;omega))|exact wt)):a/\b:=⟨k,h⟩
theorem GJ(A:ZF)(E:List ByteArray)(G:Int)(g:R 2289664 A)(w:R 2289664 E)(L:G=3\/G=4):Sa 66 [A.row,Z 1 sR E,rI G] [(zb A E G).1.row,rS (zb A E G).2]:=by
 have f:=me (zb.eq_1 A E G);refine so func66 ntmps66∘bC f<|fun k1 I f=>?_;simp;repeat with_reducible refine T1 ?_
 refine aa (YJ.rd (RO (E.tail.take ((W (G+1)).toNat-1)) (by exact sg (Az (Eb w)))))∘cQ f<|fun k2 X f=>?_;refine aY fun k3=>?_;refine(ac P)<|?_;have N:((Zl (E.tail.take ((W (G+1)).toNat-1))).1.length-1)<(Zl (E.tail.take ((W (G+1)).toNat-1))).1.length:=dL
 have q:=ml (Zl (E.tail.take ((W (G+1)).toNat-1))).1 (k3 8 _ rfl);have K:IntKind.i64.wrap (((Zl (E.tail.take ((W (G+1)).toNat-1))).1.length:Int)-1)=((Zl (E.tail.take ((W (G+1)).toNat-1))).1.length:Int)-1:=YF Y Y;simp[N,ZG,K,Ts];repeat with_reducible refine T1 ?_
 refine aa (YJ.rd (Ec (C (Zl (E.tail.take ((W (G+1)).toNat-1))).1 ((Zl (E.tail.take ((W (G+1)).toNat-1))).1.length-1)) (E.drop (W (G+1)).toNat) 11 (by exact ZT (n:=2289664) aq (xb w)))) (b:=by first|(simp;done)|(simp[W,K];done))∘ac P<|?_;have i2:0<(Zl (E.tail.take ((W (G+1)).toNat-1))).1.length:=dL
 have i3:1<(Zl (E.tail.take ((W (G+1)).toNat-1))).1.length:=dL;have i4:0<E.length:=dL;simp[i2,ZG,i3,i4];repeat with_reducible refine T1 ?_
 refine(ae f) ?_ ?_<;>intro k5 h3 f
 ·have d:2<(Zl (E.tail.take ((W (G+1)).toNat-1))).1.length:=dL;simp[d,ZG];repeat with_reducible refine T1 ?_
  refine(ah qW (RE A (YT.mk 2 (C (Zl (E.tail.take ((W (G+1)).toNat-1))).1 0) (C (Zl (E.tail.take ((W (G+1)).toNat-1))).1 1) 0 (C (Zl (E.tail.take ((W (G+1)).toNat-1))).1 2) (Y0 (C (Zl (E.tail.take ((W (G+1)).toNat-1))).1 ((Zl (E.tail.take ((W (G+1)).toNat-1))).1.length-1)) (E.drop (W (G+1)).toNat) 11).1 ([]:List Int)) cY cY) (b:=by first|(simp;done)|(simp[W,K];done)))<|(aF f) ?_ ?_<;>intro k6 h4 f
  ·have q4:=h4;try simp[K]at q4
   simp;exact rt _ f
  have q4:=h4;try simp[K]at q4
  simp;exact av P∘aa (Xg A.h)<|rt _ f
 refine(ah qW (RE A (YT.mk 8 (C (Zl (E.tail.take ((W (G+1)).toNat-1))).1 0) (C (Zl (E.tail.take ((W (G+1)).toNat-1))).1 1) 0 0 (Y0 (C (Zl (E.tail.take ((W (G+1)).toNat-1))).1 ((Zl (E.tail.take ((W (G+1)).toNat-1))).1.length-1)) (E.drop (W (G+1)).toNat) 11).1 ([]:List Int)) cY cY) (b:=by first|(simp;done)|(simp[W,K];done)))<|(aF f) ?_ ?_<;>intro k8 h5 f
 ·have r:=h5;try simp[K]at r
  simp;exact rt _ f
 have r:=h5;try simp[K]at r
 simp;exact av P∘aa (Xg A.h)<|rt _ f
theorem K7(A:ZF)(E:YT)(g:R 2289664 A)(w:R 2289664 E):Sa 70 [A.row,E.row] [(YV A E).1.row,rS (YV A E).2]:=have f:=me (YV.eq_1 A E);so func70 ntmps70∘ah qW (RE A E (sg g) (sg w))∘cQ f<|fun k1 I f=>rt _ f
theorem qa(h:b)(k:a:=by(intros;first|omega|with_unfolding_all (first|first|omega|(simp at I;have z:=L (C E 2) (Eg Y);omega))|exact wt)):a/\b:=⟨k,h⟩
theorem vL(A:ZF)(E:List ByteArray)(g:R 2285568 A)(w:R 2285568 E)(L:∀x∈E,0<x.size):Sa 67 [A.row,Z 1 sR E] [(z9 A E).1.row,rS (z9 A E).2]:=by
 have f:=me (z9.eq_1 A E);refine so func67 ntmps67∘bC f<|fun k1 I f=>?_;have N:2<E.length:=bP;simp[N,ZG];repeat with_reducible refine qa ?_
 refine(ae f) ?_ ?_<;>intro k2 X f
 ·simp;repeat with_reducible refine qa ?_
  refine(cR (W5 ((C E 2).extract 1 (C E 2).size) bX))<|?_;have i2:1<E.length:=bP
  simp[i2,ZG];repeat with_reducible refine qa ?_
  refine(cR (W5 (C E 1) bX))<|?_;simp;repeat with_reducible refine qa ?_
  exact aa (YJ.rd (RO (E.drop 3) dy))∘cQ f<|fun k3 h3 f=>(aa (K7 A (YT.mk 5 (YY (C E 1)).1 (W ((-1)*(YY ((C E 2).extract 1 (C E 2).size)).1)) 0 0 (ZV.mk 0 ([]:List ByteArray) ([]:List Int)) (Zl (E.drop 3)).1) ep ep))<|rt _ f
 refine(cR (W5 (C E 2) bX))<|?_;have i3:1<E.length:=bP
 simp[i3,ZG];repeat with_reducible refine qa ?_
 refine(cR (W5 (C E 1) bX))<|?_;simp;repeat with_reducible refine qa ?_
 exact aa (YJ.rd (RO (E.drop 3) dy))∘cQ f<|fun k4 h4 f=>(aa (K7 A (YT.mk 5 (YY (C E 1)).1 (W (1*(YY (C E 2)).1)) 0 0 (ZV.mk 0 ([]:List ByteArray) ([]:List Int)) (Zl (E.drop 3)).1) ep ep))<|rt _ f
theorem Og(A:ZU)(g:R 2326528 A):y 305 [A.row] [(JB A).row]:=by have f:=me (JB.eq_1 A);refine ao func305 ntmps305∘ah [] (y0 A.a (sg (ZU.YU g)))<|?_;refine i6 (al:=([A.a]:List ZY).map ZY.row) (L:=[(5,0),(5,1)]) rfl rfl rfl rfl ab ab ab ab ab ab ?_;simp;exact ag _ f
theorem BT(A:ZY)(E:ZV)(g:R 2318336 A)(w:R 2318336 E):y 456 [A.row,E.row] [Z 1 S (JP A E)]:=by
 have f:=me (JP.eq_1 A E);refine ao func456 ntmps456∘ap (y5.eq_2 A E) (fun J U=>Z3 24 [eX 3 (E.row.map .d),(5,.one (.O 5 0 0 J.length),[.arr false 1 (J.map S)]),eL 9 5 A.b Zc.row,eI 10 (A.b.length:Int),eI 11 (U:Int)]) (fun D J U=>A.b.length<D+U/\U<=A.b.length/\J.length<=0+1*U) (A.b.length+1) ([]:List Int) 0 (h0:=aw [((5,0),none)] [])<|fun p1 J U H T=>(ae H) ?_ ?_<;>intro k2 I H
 ·have N:=ix I;have m2:=ml A.b (k2 9 _ rfl);have c1:=sl 2318336 A.b (an g w);have K:=wr U;refine xp N∘aa (qd (C A.b U).b E (sg w))<|?_;exact ay H (hw:=Ya [((5,0),some (21,0))] [] rfl ad)
 exact ag _ (ms f H)
theorem G2(A:M)(E:ZV)(g:R 2314240 A)(w:R 2314240 E):y 387 [A.row,E.row] [Z 1 (aH 1 S) (KX A E)]:=by
 have f:=me (KX.eq_1 A E);refine ao func387 ntmps387∘ap (yG.eq_2 A E) (fun J U=>Z3 23 [eX 3 (E.row.map .d),(5,.one (.O 5 0 0 J.length),[.arr true 1 (J.map (aH 1 S))]),eL 9 2 A.a ZY.row,eI 10 (A.a.length:Int),eI 11 (U:Int)]) (fun D J U=>A.a.length<D+U/\U<=A.a.length/\J.length<=U) (A.a.length+1) ([]:List (List Int)) 0 (h0:=aw [((5,0),none)] [])<|fun p1 J U H T=>(ae H) ?_ ?_<;>intro k2 I H
 ·have N:=ix I;have m2:=ml A.a (k2 9 _ rfl);have c1:=sl 2314240 A.a (an g w);have K:=wr U;simp[N,ZG];refine ah [false] (BT (C A.a U) E (sg (Zh (M.Y8 g))) (sg w))∘VR<|?_;simp;refine fi (aq:=J.map (aH 1 S)) (al:=([JP (C A.a U) E]:List (List Int)).map (aH 1 S)) (l1:=[(5,0)]) (l2:=[(18,0)]) (Q:=1) rfl rfl rfl rfl ab ab ab ab ab (by simp;(first|omega|(have z:=Z7 (M.Y8 g);omega))) ?_;simp;exact ay H (hw:=Ya [((5,0),some (20,0))] [] rfl ad)
 exact ag _ (ms f H)
theorem os(A:YZ):Sa 461 [A.row] [rB (EO A)]:=have f:=me (EO.eq_1 A);so func461 ntmps461∘aa (Z6 A.c 1 99)∘aj (fun gg=>Z6 A.g 0 99)∘aj (fun gg=>Z6 A.b 0 99)∘aj (fun gg=>yi A.a)∘aj (fun gg=>LU A.d)<|rt _ f
theorem mq(A:List YZ):Sa 393 [Z 5 YZ.row A] [rB (Ny A)]:=by
 have f:=me (Ny.eq_1 A);refine so func393 ntmps393∘aG (P9.eq_2 A) (fun J=>Z3 34 [eL 0 5 A YZ.row,eL 5 5 A YZ.row,eI 6 (A.length:Int),eI 7 (J:Int)]) (fun D J=>A.length<D+J/\J<=A.length) (A.length+1) 0<|fun p1 J H T=>(ae H) ?_ ?_<;>intro k2 I H
 ·have N:=ix I;have m2:=ml A (k2 0 _ rfl);have K:=wr J;refine xp N∘av P∘aa (os (C A J))<|(aM) ?_ ?_<;>intro B
  ·have i2:=ik (J-1) A;have w2:IntKind.i64.wrap ((J:Int)-1)=(J:Int)-1:=YF Y Y;refine(l (an i2 w2))<|(cK H) ?_ ?_<;>intro k4 X H
   ·exact s _ (ms f H)
   ·exact aE (an K (an w2 B)) H
  ·refine(cK H) ?_ ?_<;>intro k5 h3 H
   ·exact s _ (ms f H)
   ·exact aE (an K B) H
 exact rt _ (ms f H)
theorem HX(A:List ZX):Sa 394 [Z 3 ZX.row A] [rB (qY A)]:=by
 have f:=me (qY.eq_1 A);refine so func394 ntmps394∘aG (jg.eq_2 A) (fun J=>Z3 47 [eL 0 3 A ZX.row,eL 5 3 A ZX.row,eI 6 (A.length:Int),eI 7 (J:Int)]) (fun D J=>A.length<D+J/\J<=A.length) (A.length+1) 0<|fun p1 J H T=>(ae H) ?_ ?_<;>intro k2 I H
 ·have N:=ix I;have m2:=ml A (k2 0 _ rfl);have K:=wr J;refine xp N∘av P∘aa (Z6 (C A J).b 0 99)∘aj (fun gg=>Z6 (C A J).c 1 99)∘aj (fun gg=>Z6 (C A J).a 0 100)<|(aM) ?_ ?_<;>intro B
  ·have i2:=ik (J-1) A;have w2:IntKind.i64.wrap ((J:Int)-1)=(J:Int)-1:=YF Y Y;refine(l (an i2 w2))<|(aA H) ?_ ?_<;>intro k4 X H
   ·have q2:=X;try simp[ZJ]at q2
    have f:=ms f H;simp;exact(aC)<|s _ f
   ·have q2:=X;try simp[ZJ]at q2
    simp;refine(aC)<|?_;exact aE (an K (an w2 B)) H
  ·refine(aA H) ?_ ?_<;>intro k5 h3 H
   ·have q3:=h3;try simp[ZJ]at q3
    have f:=ms f H;simp;exact(aC)<|s _ f
   ·have q3:=h3;try simp[ZJ]at q3
    simp;refine(aC)<|?_;exact aE (an K B) H
 exact rt _ (ms f H)
theorem sI(A:Z8):Sa 462 [A.row] [rB (PD A)]:=have f:=me (PD.eq_1 A);so func462 ntmps462∘aa (Z6 A.b 0 99)∘aj (fun gg=>yi A.c)∘aj (fun gg=>Z6 A.a 1 10001)∘aj (fun gg=>Z6 A.d 1 10001)<|rt _ f
theorem Bu(A:List Z8):Sa 395 [Z 4 Z8.row A] [rB (Uu A)]:=by
 have f:=me (Uu.eq_1 A);refine so func395 ntmps395∘aG (Um.eq_2 A) (fun J=>Z3 34 [eL 0 4 A Z8.row,eL 5 4 A Z8.row,eI 6 (A.length:Int),eI 7 (J:Int)]) (fun D J=>A.length<D+J/\J<=A.length) (A.length+1) 0<|fun p1 J H T=>(ae H) ?_ ?_<;>intro k2 I H
 ·have N:=ix I;have m2:=ml A (k2 0 _ rfl);have K:=wr J;refine xp N∘av P∘aa (sI (C A J))<|(aM) ?_ ?_<;>intro B
  ·have i2:=ik (J-1) A;have w2:IntKind.i64.wrap ((J:Int)-1)=(J:Int)-1:=YF Y Y;refine(l (an i2 w2))<|(cK H) ?_ ?_<;>intro k4 X H
   ·exact s _ (ms f H)
   ·exact aE (an K (an w2 B)) H
  ·refine(cK H) ?_ ?_<;>intro k5 h3 H
   ·exact s _ (ms f H)
   ·exact aE (an K B) H
 exact rt _ (ms f H)
theorem Fc(A:ZP):Sa 315 [A.row] [rB (kF A)]:=have f:=me (kF.eq_1 A);so func315 ntmps315∘aa (mq A.a)∘aj (fun gg=>HX A.b)∘aj (fun gg=>Bu A.c)∘aj (fun gg=>Z6 A.e 0 6)∘aj (fun gg=>yi A.d)<|rt _ f
theorem Rq(A:Int):Sa 444 [rI A] [(W4 A).row]:=have f:=me (W4.eq_1 A);(so func444 ntmps444)<|rt _ f
theorem MW(A:Int):Sa 445 [rI A] [(kL A).row]:=have f:=me (kL.eq_1 A);(so func445 ntmps445)<|rt _ f
theorem K1(A:List YZ)(E:Int)(G:List Int)(V:Int)(g:R 2318336 A)(w:R 2318336 G):Sa 397 [Z 5 YZ.row A,rI E,Z 1 S G,rI V] [rB (Qo A E G V)]:=have f:=me (Qo.eq_1 A E G V);so func397 ntmps397∘aa (ON A E G (sg g) (sg w))<|rt _ f
theorem He(A:List YZ)(E:Zu)(g:R 2314240 A):Sa 446 [Z 5 YZ.row A,E.row] [rB (zT A E)]:=have f:=me (zT.eq_1 A E);so func446 ntmps446∘av P∘aa (TR E)∘aj (fun gg=>YJ.rd (Vw E))∘aj (fun gg=>K1 A E.c (Xk E) E.f (sg g) (by simp(maxDischargeDepth:=12) [xI];try omega))<|rt _ f
theorem uw(A:ZY)(E:ZS):Sa 516 [A.row,E.row] [rI (Kh A E)]:=by
 have f:=me (Kh.eq_1 A E);refine so func516 ntmps516∘aG (VA.eq_2 A E) (fun J=>Z3 20 [eX 3 (E.row.map .d),eL 8 3 A.a ZS.row,eI 9 (A.a.length:Int),eI 10 (J:Int)]) (fun D J=>A.a.length<D+J/\J<=A.a.length) (A.a.length+1) 0<|fun p1 J H T=>(ae H) ?_ ?_<;>intro k2 I H
 ·have N:=ix I;have m2:=ml A.a (k2 8 _ rfl);have K:=wr J;refine xp N∘aa (TZ (C A.a J) E)<|(cF H) ?_ ?_<;>intro k3 X H
  ·exact rt _ (ms f H)
  exact aE K H
 exact rt _ (ms f H)
theorem yA(A:o):Sa 463 [A.row] [rB (Yr A)]:=have f:=me (Yr.eq_1 A);so func463 ntmps463∘aa (yi A.d)∘aj (fun gg=>yi A.b)<|rt _ f
theorem Om(A E:Int):Sa 525 [rI A,rI E] [(Xt A E).1.row,rB (Xt A E).2]:=have f:=me (Xt.eq_1 A E);so func525 ntmps525∘aj (fun gg=>yA (o.mk (if 0>A then 0 else A) (if 10000<E then 10000 else E)))∘cQ f<|fun k1 I f=>rt _ f
theorem uR(A:List ZX)(E:ZW):Sa 520 [Z 3 ZX.row A,E.row] [(Jc A E).1.row,rB (Jc A E).2]:=by
 have f:=me (Jc.eq_1 A E);refine so func520 ntmps520∘aa (xC A E.a)<|(aM) ?_ ?_<;>intro B
 ·have N:(ZN A E.a).toNat<A.length:=dc;refine l N∘aS (fun gg=>yi E.b)<|(cK f) ?_ ?_<;>intro k1 I f
  ·try(simp[B]at I;done)
   all_goals
    exact s _ f
  ·try(simp[B]at I;done)
   all_goals
    exact ac P∘l N∘aT (Om (W (E.b-(C A (ZN A E.a).toNat).a)) (W (E.b+(C A (ZN A E.a).toNat).a)))<|s _ f
 ·refine(aS (fun gg=>yi E.b))<|(cK f) ?_ ?_<;>intro k3 X f
  ·try(simp[B]at X;done)
   all_goals
    exact s _ f
  ·try(simp[B]at X;done)
   all_goals
    refine(ac P)<|?_;have i3:(ZN A E.a).toNat<A.length:=dc
    exact l i3∘aT (Om (W (E.b-(C A (ZN A E.a).toNat).a)) (W (E.b+(C A (ZN A E.a).toNat).a)))<|s _ f
theorem wF(A:List o)(E:Int):Sa 549 [Z 2 o.row A,rI E] [rI (UI A E)]:=by
 have f:=me (UI.eq_1 A E);refine so func549 ntmps549∘ap (jF.eq_2 A E) (fun J U=>Z3 28 [eI 1 E,eI 5 J,eL 8 2 A o.row,eI 9 (A.length:Int),eI 10 (U:Int)]) (fun D J U=>A.length<D+U/\U<=A.length) (A.length+1) 0 0<|fun p1 J U H T=>(ae H) ?_ ?_<;>intro k2 I H
 ·have N:=ix I;have m2:=ml A (k2 8 _ rfl);have K:=wr U;refine xp N∘aa (yA (C A U))∘aj (fun gg=>Z6 E (C A U).d (C A U).b)<|(aF H) ?_ ?_<;>intro k3 X H
  ·have q2:=X;try simp[ZJ]at q2
   simp;exact au K H
  have q2:=X;try simp[ZJ]at q2
  simp;exact au K H
 exact rt _ (ms f H)
theorem DE(A:List o)(E G:Int):Sa 538 [Z 2 o.row A,rI E,rI G] [rB (YN A E G)]:=have f:=me (YN.eq_1 A E G);so func538 ntmps538∘aa (Z6 G 0 (W ((A.length:Int)-1)))∘aj (fun gg=>wF A E)<|rt _ f
theorem Ah(A:List o)(E:Int):Sa 521 [Z 2 o.row A,rI E] [(jc A E).1.row,rB (jc A E).2]:=by
 have f:=me (jc.eq_1 A E);refine so func521 ntmps521∘dv (zH.eq_2 A E) (fun J U p i=>Z3 25 [eL 0 2 A o.row,eI 1 E,(4,.one (.Z 4 0),[.box [.d (.int .i64 0),.d (.int .i64 0)]]),(6,.one (.Z 6 0),[.box [.d (.int .i64 p),.d (.int .i64 i)]]),eB 7 J,eI 8 (U:Int)]) (fun D J U p i=>10001<D+U) 10002 false 0 0 0<|fun p1 J U p i H T=>(cF H) ?_ ?_<;>intro k2 I H
 ·have K:=wr U;refine(aa (DE A (U:Int) E))<|(cF H) ?_ ?_<;>intro k3 X H
  ·refine(cF H) ?_ ?_<;>intro k4 h3 H
   ·exact cC K H
   exact cC K H
  exact cC K H
 exact rt _ (ms f H)
theorem Ok(A:List ZX)(E:List ZW)(G:Int)(g:R 2318336 A)(w:R 2318336 E):Sa 496 [Z 3 ZX.row A,Z 5 ZW.row E,rI G] [(Kb A E G).1.row,rB (Kb A E G).2]:=by
 have f:=me (Kb.eq_1 A E G);refine so func496 ntmps496∘ap (J4.eq_2 A E) (fun J U=>Z3 38 [eL 0 3 A ZX.row,eI 2 G,(6,.one (.Z 6 0),[.box [.d (.int .i64 0),.d (.int .i64 0)]]),(8,.one (.O 8 0 0 J.length),[.arr false 2 (J.map o.row)]),eL 13 5 E ZW.row,eI 14 (E.length:Int),eI 15 (U:Int)]) (fun D J U=>E.length<D+U/\U<=E.length/\J.length<=0+1*U) (E.length+1) ([]:List o) 0 (h0:=aw [((8,0),none)] [])<|fun p1 J U H T=>(ae H) ?_ ?_<;>intro k2 I H
 ·have N:=ix I;have m2:=ml E (k2 13 _ rfl);have c1:=sl 2318336 E (an g w);have K:=wr U;refine xp N∘aa (uR A (C E U))<|(cF H) ?_ ?_<;>intro k3 X H
  ·exact rt _ (ms f H)
  exact ay H (hw:=Ya [((8,0),some (31,0))] [] rfl ad)
 have c2:=sl 2318336 E (an g w);have f:=ms f H;exact(aa (Ah J G))<|rt _ f
theorem CF(A:List ZX)(E:Zc)(G:Int)(g:R 2314240 A)(w:R 2314240 E):Sa 548 [Z 3 ZX.row A,E.row,rI G] [(yk A E G).1.row,rB (yk A E G).2]:=have f:=me (yk.eq_1 A E G);so func548 ntmps548∘aa (Ok A E.a G (sg g) (sg (Zc.Tk w)))<|rt _ f
theorem US(A:ZP)(E:Zc)(g:R 2310144 A)(w:R 2310144 E):Sa 537 [A.row,E.row] [(JZ A E).1.row,rB (JZ A E).2]:=have f:=me (JZ.eq_1 A E);so func537 ntmps537∘aa (CF A.b E A.e (sg (ZP.Yi g)) (sg w))<|rt _ f
theorem SH(h:b)(k:a:=by(intros;first|omega|with_unfolding_all (first|first|omega|(have cc:A.b.length<=2318336:=Z7 (xs g);have d:=o;simp at d;have z:=Ks Y d.1;have t:=d.2;(try have w3:IntKind.i64.wrap (G-1)=G-1:=YF Y Y);(try have Q:W (G-1)=G-1:=w3);first|omega|(refine⟨⟨d.1,Y⟩,Y,Y⟩)|(simp_all;omega)))|(simp_all;done)|(simp_all;omega)|grind|exact wt)):a/\b:=⟨k,h⟩
theorem ns(A:ZY)(E:List Int)(G:Int)(g:R 2318336 A)(w:R 2318336 E):Sa 546 [A.row,Z 1 S E,rI G] [rI (jt A E G)]:=by
 have f:=me (jt.eq_1 A E G);refine so func546 ntmps546∘av P∘aa (Z6 G 0 (W ((A.b.length:Int)-1)))<|(bE) ?_ ?_<;>intro B
 ·have o:=B;have c1:=sl 2318336 A.b (an g w);have K:IntKind.i64.wrap ((A.b.length:Int)-1)=(A.b.length:Int)-1:=YF Y Y;have g1:=B;try simp[ZJ,K]at g1
  have N:G.toNat<A.b.length:=cM;simp[N,ZG,B];repeat with_reducible refine SH ?_
  refine(db (fun gg=>Z6 (C A.b G.toNat).d 0 (A.a.length:Int)))<|?_;simp;refine(aA f) ?_ ?_<;>intro k2 I f
  ·have q1:=I;try simp[ZJ,K]at q1
   simp;exact s _ f
  ·have q1:=I;try simp[ZJ,K]at q1
   simp[N,ZG];repeat with_reducible refine SH ?_
   refine(aA f) ?_ ?_<;>intro k3 X f
   ·simp;refine(ac P)<|?_;have i2:(W (G-1)).toNat<A.b.length:=cM
    simp[i2,ZG];repeat with_reducible refine SH ?_
    refine(cR (Vx (C A.b G.toNat).b (C A.b (W (G-1)).toNat) (sg (Zh (ZY.Qf g)))))<|?_;simp;refine(ac P)<|?_;have i3:G.toNat<E.length:=cM
    simp[i3,ZG];repeat with_reducible refine SH ?_
    refine(cR (OE (C A.b G.toNat).b (C E G.toNat) (A.a.take (C A.b G.toNat).d.toNat) (Qz (C A.b G.toNat).b (C A.b (W (G-1)).toNat)) (ZT (n:=2318336) aq (xs (an g w)))))<|?_;simp;exact s _ f
   ·simp;refine(ac P)<|?_;have i4:G.toNat<E.length:=cM
    simp[i4,ZG];repeat with_reducible refine SH ?_
    refine(cR (OE (C A.b G.toNat).b (C E G.toNat) (A.a.take (C A.b G.toNat).d.toNat) 0 (ZT (n:=2318336) aq (xs (an g w)))))<|?_;simp;exact s _ f
 ·simp[B];refine(aO)<|?_;simp;have c2:=sl 2318336 A.b (an g w)
  refine(aA f) ?_ ?_<;>intro c h3 f
  ·have q3:=h3;try simp[ZJ,w2]at q3
   simp;exact s _ f
  ·simp[B]at h3
theorem Ag(A E:Int)(G:List Y9):Sa 552 [rI A,rI E,Z 2 Y9.row G] [rI (WY A E G)]:=by
 have f:=me (WY.eq_1 A E G);refine so func552 ntmps552∘ap (ks.eq_2 A G) (fun J U=>Z3 29 [eI 0 A,eI 1 J,eL 9 2 G Y9.row,eI 10 (G.length:Int),eI 11 (U:Int)]) (fun D J U=>G.length<D+U/\U<=G.length) (G.length+1) E 0<|fun p1 J U H T=>(ae H) ?_ ?_<;>intro k2 I H
 ·have N:=ix I;have m2:=ml G (k2 9 _ rfl);have K:=wr U;refine(xp N)<|(cF H) ?_ ?_<;>intro k3 X H
  ·refine(aa (RA A (C G U).e J))<|?_;exact au K H
  refine(aa (RA A J (C G U).e))<|?_;exact au K H
 exact rt _ (ms f H)
theorem jX(A:List ZW):Sa 493 [Z 5 ZW.row A] [rB (Xx A)]:=by
 have f:=me (Xx.eq_1 A);refine so func493 ntmps493∘aG (kO.eq_2 A) (fun J=>Z3 22 [eL 0 5 A ZW.row,eI 3 (J:Int)]) (fun D J=>A.length<D+J/\1<=J) (A.length+1) 1<|fun p1 J H T=>(cF H) ?_ ?_<;>intro k2 I H
 ·have N:=ix I;have m2:=ml A (k2 0 _ rfl);have K:=wr J;refine(ac P)<|?_;have i2:=ik (J-1) A;have w2:IntKind.i64.wrap ((J:Int)-1)=(J:Int)-1:=YF Y Y;refine(xp (an i2 (an w2 N)))<|(cF H) ?_ ?_<;>intro k4 X H
  ·exact rt _ (ms f H)
  exact aE (an K w2) H
 exact rt _ (ms f H)
theorem Ss(A:List YZ)(E:List ZX)(G:ZW)(g:R 2314240 A)(w:R 2314240 E):Sa 312 [Z 5 YZ.row A,Z 3 ZX.row E,G.row] [rB (KT A E G)]:=have f:=me (KT.eq_1 A E G);so func312 ntmps312∘aa (qO A E G (sg g) (sg w))<|rt _ f
theorem Fq(A:List YZ)(E:List ZX)(G:Zc)(V:Int)(g:R 2310144 A)(w:R 2310144 E)(L:R 2310144 G):Sa 545 [Z 5 YZ.row A,Z 3 ZX.row E,G.row,rI V] [rB (z4 A E G V)]:=by
 have f:=me (z4.eq_1 A E G V);refine so func545 ntmps545∘av P∘aj (fun gg=>Ag G.b V G.c)∘aj (fun gg=>Z6 (G.a.length:Int) 1 6)∘aj (fun gg=>jX G.a)<|(aF f) ?_ ?_<;>intro k2 I f
 ·have q1:=I;try simp[ZJ]at q1
  simp;exact rt _ f
 have q1:=I;try simp[ZJ]at q1
 simp;refine(aG (WW.eq_2 A E G) (fun J=>Z3 59 [eL 0 5 A YZ.row,eL 1 3 E ZX.row,eX 6 (G.row.map .d),eL 40 5 G.a ZW.row,eI 41 (G.a.length:Int),eI 42 (J:Int)]) (fun D J=>G.a.length<D+J/\J<=G.a.length) (G.a.length+1) 0)<|fun p1 J H T=>(ae H) ?_ ?_<;>intro k4 X H
 ·have N:=ix X;have K:=wr J;refine xp N∘aj (fun gg=>Ss A E (C G.a J) (sg g) (sg w))<|(cF H) ?_ ?_<;>intro k5 h3 H
  ·exact rt _ (ms f H)
  exact aE K H
 exact rt _ (ms f H)
theorem SB(A:List ZX)(E:ZW):Sa 392 [Z 3 ZX.row A,E.row] [rI (Yq A E)]:=by
 have f:=me (Yq.eq_1 A E);refine so func392 ntmps392∘aa (xC A E.a)<|(ae f) ?_ ?_<;>intro k1 I f
 ·have N:(ZN A E.a).toNat<A.length:=dc;exact(xp N)<|rt _ f
 exact rt _ f
theorem En(A:List YZ)(E:List ZX)(G:List Z8)(V:Zc):Sa 553 [Z 5 YZ.row A,Z 3 ZX.row E,Z 4 Z8.row G,V.row] [rI (K4 A E G V)]:=by
 have f:=me (K4.eq_1 A E G V);refine so func553 ntmps553∘aa (Re G V.b)∘ap (qu.eq_2 A E G V) (fun J U=>Z3 42 [eL 0 5 A YZ.row,eL 1 3 E ZX.row,eL 2 4 G Z8.row,eI 9 J,eL 18 5 V.a ZW.row,eI 19 (V.a.length:Int),eI 20 (U:Int)]) (fun D J U=>V.a.length<D+U/\U<=V.a.length) (V.a.length+1) (JQ G V.b) 0<|fun p1 J U H T=>(ae H) ?_ ?_<;>intro k2 I H
 ·have N:=ix I;have m2:=ml V.a (k2 18 _ rfl);have K:=wr U;refine xp N∘aa (SB E (C V.a U))∘aa (Jt A (Yq E (C V.a U)))<|(bg H) ?_ ?_<;>intro k3 X H
  ·exact rt _ (ms f H)
  have i2:(Zi A (Yq E (C V.a U))).toNat<A.length:=by have:=Yy A (Yq E (C V.a U));exact il
  refine xp i2∘aa (Re G (C A (Zi A (Yq E (C V.a U))).toNat).b)<|?_;exact au K H
 exact rt _ (ms f H)
theorem L9(h:b)(k:a:=by(intros;first|omega|with_unfolding_all (first|(first|omega|(have d:E.b.length<=2306048:=Z7 (xs w);have c:=IZ E.b.length Y;(try rw[c]at q1);(try rw[c]at q2);have w3:W (G+1)=G+1:=YF Y Y;have Q:IntKind.i64.wrap (G+1)=G+1:=w3;omega)))|exact wt)):a/\b:=⟨k,h⟩
theorem Lw(A:ZP)(E:ZY)(G:Int)(g:R 2306048 A)(w:R 2306048 E):Sa 547 [A.row,E.row,rI G] [rB (V8 A E G)]:=by
 have f:=me (V8.eq_1 A E G);refine so func547 ntmps547∘aa (Z6 G 0 (W ((E.b.length:Int)-1)))<|?_;have c1:=sl 2306048 E.b (an g w);have K:IntKind.i64.wrap ((E.b.length:Int)-1)=(E.b.length:Int)-1:=YF Y Y;refine(aF f) ?_ ?_<;>intro k1 I f
 ·have q1:=I;try simp[ZJ,K]at q1
  simp;exact rt _ f
 have q1:=I;try simp[ZJ,K]at q1
 simp;refine(ac P)<|?_;have N:G.toNat<E.b.length:=hs
 simp[N,ZG];repeat with_reducible refine L9 ?_
 refine(aa (En A.a A.b A.c (C E.b G.toNat)))<|(aF f) ?_ ?_<;>intro k3 X f
 ·have q2:=X;try simp[K]at q2
  simp;exact rt _ f
 have q2:=X;try simp[K]at q2
 simp;refine(ac P)<|?_;have i2:(W (G+1)).toNat<E.b.length:=hs
 simp[i2,ZG];repeat with_reducible refine L9 ?_
 exact(aa (US A (C E.b (W (G+1)).toNat) (sg g) (sg (Zh (ZY.Qf w)))) (b:=by first|(simp;done)|(simp;done)))<|rt _ f
theorem tA(A:ZP)(E:ZY)(G:List Int)(g:R 2301952 A)(w:R 2301952 E)(L:R 2301952 G):Sa 536 [A.row,E.row,Z 1 S G] [rI (xa A E G)]:=by
 have f:=me (xa.eq_1 A E G);refine(so func536 ntmps536)<|?_;refine cj fun k1=>?_;refine(aG (j9.eq_2 A E G) (fun J=>Z3 58 [eL 2 1 G S,eX 3 (A.row.map .d),eX 4 (E.row.map .d),eI 7 (J:Int)]) (fun D J=>J<D/\J<=E.b.length) (E.b.length+1) E.b.length)<|fun p1 J H T=>(aF H) ?_ ?_<;>intro k2 I H
 ·have q1:=I;try simp at q1
  have q:=ml E.b (k1 11 _ rfl);have K:IntKind.i64.wrap ((J:Int)-1)=(J:Int)-1:=YF Y Y;have w2:((J-1:Nat):Int)=(J:Int)-1:=Y;simp;refine(ac P)<|?_;have i2:=ik (J-1) E.b;refine xp (an i2 K)∘aa (US A (C E.b (J-1)) (sg g) (sg (Zh (ZY.Qf w))))∘av P<|(aM) ?_ ?_<;>intro B
  ·have g1:=B;try simp at g1
   refine(l (an i2 K))<|?_;refine fw rfl rfl rfl rfl rfl rfl (fun gg=>ns E G (W ((J:Int)-1)) (sg w) (sg L)) eF b2 b2 b2 ?_;simp;refine(aC)<|?_;refine fw rfl rfl rfl rfl rfl rfl (fun gg=>Fq A.a A.b (C E.b (J-1)) (jt E G (W ((J:Int)-1))) (sg (ZP.Yb g)) (sg (ZP.Yi g)) (sg (Zh (ZY.Qf w)))) eF b2 b2 b2 ?_;simp;refine(aC)<|?_;refine fw rfl rfl rfl rfl rfl rfl (fun gg=>Lw A E (W ((J:Int)-1)) (sg g) (sg w)) eF b2 b2 b2 ?_;simp;refine(aC)<|(aA H) ?_ ?_<;>intro k5 X H
   ·have q2:=X;try simp[K]at q2
    have f:=ms f H;simp;exact(aC)<|s _ f
   ·have q2:=X;try simp[K]at q2
    simp;refine(aC)<|?_;exact aE (an K (an w2 B)) H
  ·refine(aO)<|?_;simp;refine aC∘aO<|?_;simp;refine(aC)<|?_;refine fw rfl rfl rfl rfl rfl rfl (fun gg=>Lw A E (W ((J:Int)-1)) (sg g) (sg w)) eF b2 b2 b2 ?_;simp;refine(aC)<|(aA H) ?_ ?_<;>intro k6 h3 H
   ·have q3:=h3;try simp[K]at q3
    have f:=ms f H;simp;exact(aC)<|s _ f
   ·simp[B]at h3
 have q1:=I;try simp at q1
 have f:=ms f H;simp;exact rt _ f
theorem Rz(A:ZP)(E:ZY)(G:List Int)(V:Int)(g:R 2297856 A)(w:R 2297856 E)(L:R 2297856 G):Sa 517 [A.row,E.row,Z 1 S G,rI V] [rI (Nr A E G V)]:=by
 have f:=me (Nr.eq_1 A E G V);refine so func517 ntmps517∘aa (tA A E G (sg g) (sg w) (sg L))∘ap (UE.eq_2 A E V) (fun J U=>Z3 49 [eI 3 V,eX 4 (A.row.map .d),eX 5 (E.row.map .d),eI 9 J,eI 10 U]) (fun D J U=>(E.b.length:Int)+1<D+U/\0<=U/\U<=E.b.length) (E.b.length+2) A.d (xa A E G) (v:=by(have z:=AI A E G;(try dsimp only);omega))<|fun p1 J U H T=>(cF H) ?_ ?_<;>intro k2 I H
 ·refine aY fun k3=>?_;refine(ac P)<|?_;have N:=ik U.toNat E.b
  refine xp N∘fd N (US A (C E.b U.toNat) (sg g) (sg (Zh (ZY.Qf w))))<|(cF H) ?_ ?_<;>intro k4 X H
  ·exact ay H (v:=by(have cc:E.b.length<=2297856:=Z7 (xs w);have w2:W (U+1)=U+1:=YF cU cU;(try dsimp only);rw[w2];simp at*;omega))
  exact ay H (v:=by(have cc:E.b.length<=2297856:=Z7 (xs w);have w2:W (U+1)=U+1:=YF cU cU;(try dsimp only);rw[w2];simp at*;omega))
 exact rt _ (ms f H)
theorem AR(A:ZP)(E:ZY)(G:List Int)(V:ZS)(g:R 2293760 A)(w:R 2293760 E)(L:R 2293760 G)(a:R 2293760 V):Sa 490 [A.row,E.row,Z 1 S G,V.row] [rI (Wn A E G V)]:=have f:=me (Wn.eq_1 A E G V);so func490 ntmps490∘aa (uw E V)∘cQ f<|fun k1 I f=>(aa (Rz A E G (Kh E V) (sg g) (sg w) (sg L)))<|rt _ f
theorem PX(A:ZP)(E:M)(G:List (List Int))(V:ZS)(g:R 2289664 A)(w:R 2289664 E)(L:R 2289664 G)(a:R 2289664 V):Sa 447 [A.row,E.row,Z 1 (aH 1 S) G,V.row] [rI (XP A E G V)]:=by
 have f:=me (XP.eq_1 A E G V);refine so func447 ntmps447∘ap (KD.eq_2 A E G V) (fun J U=>Z3 38 [eL 2 1 G (aH 1 S),eX 4 (A.row.map .d),eX 7 (V.row.map .d),eI 9 J,eL 15 2 E.a ZY.row,eI 16 (E.a.length:Int),eI 17 (U:Int)]) (fun D J U=>E.a.length<D+U/\U<=E.a.length) (E.a.length+1) A.d 0<|fun p1 J U H T=>(ae H) ?_ ?_<;>intro k2 I H
 ·have N:=ix I;have m2:=ml E.a (k2 15 _ rfl);have c1:=sl 2289664 E.a (an g (an w (an L a)));have K:=wr U;refine(xp N)<|(cF H) ?_ ?_<;>intro k3 X H
  ·have i2:=ix X;have w2:=wr U;refine ac P∘xp i2∘aa (AR A (C E.a U) (C G U) V (sg g) (sg (Zh (M.Y8 w))) (sg (Zh L)) (sg a))<|?_;exact au w2 H
  exact au K H
 exact rt _ (ms f H)
theorem NN(A:ZS):Sa 497 [A.row] [(Ql A).1.row,rB (Ql A).2]:=by
 have f:=me (Ql.eq_1 A);refine so func497 ntmps497∘av P∘aa (y3 A)<|(aM) ?_ ?_<;>intro B
 ·have o:=B;have g1:=B;try simp at g1
  have N:4<A.a.length:=c;refine(l N)<|(cK f) ?_ ?_<;>intro k2 I f
  ·try(simp[B]at I;done)
   all_goals
    exact s _ f
  ·try(simp[B]at I;done)
   all_goals
    refine(ac P)<|?_;have i2:1<A.a.length:=c
    have i3:2<A.a.length:=c;have i4:3<A.a.length:=c;simp[i2,ZG,i3,i4,N,B];exact(aC)<|s _ f
 ·have o:=B;refine(cK f) ?_ ?_<;>intro k4 X f
  ·try(simp[B]at X;done)
   all_goals
    exact s _ f
  ·try(simp[B]at X;done)
   all_goals
    refine(ac P)<|?_;have i6:1<A.a.length:=c
    have i7:2<A.a.length:=c;have i8:3<A.a.length:=c;have q:4<A.a.length:=c;simp[i6,ZG,i7,i8,q,B];exact(aC)<|s _ f
theorem AU(A:ZS):Sa 518 [A.row] [(zi A).1.row,rB (zi A).2]:=by have f:=me (zi.eq_1 A);refine so func518 ntmps518∘aa (y3 A)∘cQ f<|fun k1 I f=>(ac P)<|?_;have N:1<A.a.length:=c;have i2:2<A.a.length:=c;have i3:3<A.a.length:=c;have i4:4<A.a.length:=c;simp[N,ZG,i2,i3,i4];exact(bi)<|rt _ f
theorem uB(A:ZS):Sa 519 [A.row] [(yw A).1.row,rB (yw A).2]:=by
 have f:=me (yw.eq_1 A);refine so func519 ntmps519∘av P∘aa (y3 A)<|(aM) ?_ ?_<;>intro B
 ·have o:=B;have g1:=B;try simp at g1
  have N:1<A.a.length:=c;refine(l N)<|(cK f) ?_ ?_<;>intro k2 I f
  ·try(simp[B]at I;done)
   all_goals
    exact s _ f
  ·try(simp[B]at I;done)
   all_goals
    refine(ac P)<|?_;have i2:2<A.a.length:=c
    have i3:3<A.a.length:=c;have i4:4<A.a.length:=c;have d:5<A.a.length:=c;have i6:6<A.a.length:=c;have i7:7<A.a.length:=c;have i8:8<A.a.length:=c;simp[N,ZG,i2,i3,i4,d,i6,i7,i8,B];exact(aC)<|s _ f
 ·have o:=B;refine(cK f) ?_ ?_<;>intro k4 X f
  ·try(simp[B]at X;done)
   all_goals
    exact s _ f
  ·try(simp[B]at X;done)
   all_goals
    refine(ac P)<|?_;have af:1<A.a.length:=c
    have ad:2<A.a.length:=c;have r:3<A.a.length:=c;have ae:4<A.a.length:=c;have w:5<A.a.length:=c;have b:6<A.a.length:=c;have a:7<A.a.length:=c;have e:8<A.a.length:=c;simp[af,ZG,ad,r,ae,w,b,a,e,B];exact(aC)<|s _ f
theorem OO(A:ZS):Sa 502 [A.row] [(JC A).1.row,rB (JC A).2]:=by
 have f:=me (JC.eq_1 A);refine so func502 ntmps502∘av P∘aa (y3 A)<|(aM) ?_ ?_<;>intro B
 ·have o:=B;have g1:=B;try simp at g1
  have N:5<A.a.length:=c;refine(l N)<|(cK f) ?_ ?_<;>intro k2 I f
  ·try(simp[B]at I;done)
   all_goals
    exact s _ f
  ·try(simp[B]at I;done)
   all_goals
    refine(ac P)<|?_;have i2:1<A.a.length:=c
    have i3:2<A.a.length:=c;have i4:3<A.a.length:=c;have d:4<A.a.length:=c;simp[i2,ZG,i3,i4,d,N,B];exact(aC)<|s _ f
 ·have o:=B;refine(cK f) ?_ ?_<;>intro k4 X f
  ·try(simp[B]at X;done)
   all_goals
    exact s _ f
  ·try(simp[B]at X;done)
   all_goals
    refine(ac P)<|?_;have i7:1<A.a.length:=c
    have i8:2<A.a.length:=c;have q:3<A.a.length:=c;have af:4<A.a.length:=c;have ad:5<A.a.length:=c;simp[i7,ZG,i8,q,af,ad,B];exact(aC)<|s _ f
theorem BM(A:List YZ)(E:ZS)(g:R 2314240 A)(w:R 2314240 E):Sa 491 [Z 5 YZ.row A,E.row] [rB (zw A E)]:=by
 have f:=me (zw.eq_1 A E);refine so func491 ntmps491∘aa (y3 E)<|(cF f) ?_ ?_<;>intro k1 I f
 ·exact aa (PQ E)∘aj (fun gg=>K1 A E.c E.a E.f (sg g) (sg (ZS.T5 w)))<|rt _ f
 refine(cF f) ?_ ?_<;>intro k2 X f
 ·exact aa (NN E)∘aj (fun gg=>K1 A E.c E.a E.f (sg g) (sg (ZS.T5 w)))<|rt _ f
 refine(cF f) ?_ ?_<;>intro k3 h3 f
 ·exact aa (AU E)∘aj (fun gg=>K1 A E.c E.a E.f (sg g) (sg (ZS.T5 w)))<|rt _ f
 refine(cF f) ?_ ?_<;>intro k4 h4 f
 ·exact aa (uB E)∘aj (fun gg=>K1 A E.c E.a E.f (sg g) (sg (ZS.T5 w)))<|rt _ f
 refine(cF f) ?_ ?_<;>intro k5 h5 f
 ·exact aa (OO E)∘aj (fun gg=>K1 A E.c E.a E.f (sg g) (sg (ZS.T5 w)))<|rt _ f
 exact(aj (fun gg=>K1 A E.c E.a E.f (sg g) (sg (ZS.T5 w))))<|rt _ f
theorem CV(A E:ZS):Sa 492 [A.row,E.row] [rB (XS A E)]:=by
 have f:=me (XS.eq_1 A E);refine so func492 ntmps492∘aG (xZ.eq_2 A E) (fun J=>Z3 73 [eX 2 (A.row.map .d),eX 3 (E.row.map .d),eI 5 (J:Int)]) (fun D J=>A.a.length<D+J/\J<=A.a.length) (A.a.length+1) 0<|fun p1 J H T=>(cF H) ?_ ?_<;>intro k2 I H
 ·have N:J<A.a.length:=bP;have m2:=ml A.a (k2 8 _ rfl);have K:=wr J;refine(ac P)<|?_;have i2:=ik J E.a;refine(xp (an N i2))<|(cF H) ?_ ?_<;>intro k4 X H
  ·refine aY fun k5=>?_;refine(ac P)<|?_;have f:=ms f H
   exact(xp (an N i2))<|rt _ f
  exact aE K H
 have f:=ms f H;exact(cQ f)<|fun k6 h3 f=>(cQ f)<|fun c h4 f=>rt _ f
theorem P0(h:b)(k:a:=by(intros;first|omega|with_unfolding_all (first|(first|omega|(simp_all;done)|(simp_all;omega)))|exact wt)):a/\b:=⟨k,h⟩
theorem Y1(h:b)(k:a:=by(intros;first|omega|with_unfolding_all (first|(first|omega|(simp_all;done)|(simp_all;omega)))|(simp_all;done)|(simp_all;omega)|grind|exact wt)):a/\b:=⟨k,h⟩
theorem FV(A:ZP)(E:M)(G:List (List Int))(g:R 2285568 A)(w:R 2285568 E)(L:R 2285568 G)(a:rl E<=2097152):So 448 [A.row,E.row,Z 1 (aH 1 S) G] [Z 3 ZS.row (YR A E G)]:=by
 have f:=me (YR.eq_1 A E G);refine so func448 ntmps448∘ap (zd.eq_2 A E G) (fun J U=>Z3 79 [eL 2 1 G (aH 1 S),eX 3 (A.row.map .d),eX 4 (E.row.map .d),(7,.one (.O 7 0 0 J.length),[.arr false 3 (J.map ZS.row)]),eL 14 2 E.a ZY.row,eI 15 (E.a.length:Int),eI 16 (U:Int)]) (fun D J U=>E.a.length<D+U/\U<=E.a.length/\J.length+af (fun s:ZY=>s.a.length) (E.a.drop U)<=2097152/\R 2285568 J) (E.a.length+1) ([]:List ZS) 0 (v:=by(have u:af (fun s:ZY=>s.a.length) E.a<=2097152:=a;(try dsimp only);refine⟨Y,Y,Y,?_,⟨Nat.zero_le _,fun x O=>by cases O⟩⟩;rw[List.drop_zero];simp only[List.length_nil];omega)) (h0:=aw [((7,0),none)] [])<|fun p1 J U H T=>?_;try dsimp only at T
 refine(aF H) ?_ ?_<;>intro k2 I H
 ·have q1:=I;try simp at q1
  have N:=ix I;have m2:=ml E.a (k2 14 _ rfl);have c1:=sl 2285568 E.a (an g (an w (an L a)));have K:=wr U;simp[N,ZG];repeat with_reducible refine P0 ?_
  refine(ap (Js.eq_2 A E G U) (fun q n=>Z3 79 [eL 2 1 G (aH 1 S),eX 3 (A.row.map .d),eX 4 (E.row.map .d),(7,.one (.O 7 0 0 q.length),[.arr false 3 (q.map ZS.row)]),eL 14 2 E.a ZY.row,eI 15 (E.a.length:Int),eI 16 (U:Int),eL 21 3 (C E.a U).a ZS.row,eI 22 ((C E.a U).a.length:Int),eI 23 (n:Int)]) (fun n2 q n=>(C E.a U).a.length<n2+n/\n<=(C E.a U).a.length/\q.length+((C E.a U).a.length-n)+af (fun s:ZY=>s.a.length) (E.a.drop (U+1))<=2097152/\R 2285568 q) ((C E.a U).a.length+1) J 0 (v:=by(have d:=A9 (l:=E.a) (i:=U) br;refine⟨?_,?_,?_,?_,T.2.2.2.2⟩<;>((try dsimp only);omega))))<|fun p2 q n e2 j2=>?_;try dsimp only at j2
  refine(aF e2) ?_ ?_<;>intro k4 X e2
  ·have q2:=X;try simp at q2
   have i2:=ix X;have m4:=ml (C E.a U).a (k4 21 _ rfl);have c2:=sl 2285568 (C E.a U).a (an g (an w (an L a)));have w2:=wr n;simp[i2,ZG];repeat with_reducible refine P0 ?_
   refine av P∘aa (Tz q (C (C E.a U).a n))∘aj (fun gg=>BM A.a (C (C E.a U).a n) c6 c6)∘aj (fun gg=>PX A E G (C (C E.a U).a n) c6 c6 c6 c6)∘aj (fun gg=>S9 A (C (C E.a U).a n).c)<|(aF e2) ?_ ?_<;>intro k6 h3 e2
   ·have q3:=h3;try simp at q3
    simp;exact au (an K w2) e2 (v:=by first|(refine⟨?_,?_,?_,?_,j2.2.2.2.2⟩<;>((try dsimp only);omega))|(have c:R 2285568 (C (C E.a U).a n):=Zh (ZY.Yw (Zh (M.Y8 w)));obtain⟨q1,q2⟩:=mu (z:=j) j2.2.2.2.2 c Y;refine⟨?_,?_,?_,?_,q1⟩<;>((try dsimp only);omega)))
   have q3:=h3;try simp at q3
   simp;refine(aG (qy.eq_2 E U q n) (fun j=>Z3 79 [eL 2 1 G (aH 1 S),eX 3 (A.row.map .d),eX 4 (E.row.map .d),(7,.one (.O 7 0 0 q.length),[.arr false 3 (q.map ZS.row)]),eX 11 ((C (C E.a U).a n).row.map .d),eI 12 (j:Int),eL 14 2 E.a ZY.row,eI 15 (E.a.length:Int),eI 16 (U:Int),eL 21 3 (C E.a U).a ZS.row,eI 22 ((C E.a U).a.length:Int),eI 23 (n:Int)]) (fun p j=>q.length<p+j/\j<=q.length) (q.length+1) 0)<|fun p3 j e3 b=>?_;try dsimp only at b
   refine(av P)<|(bE) ?_ ?_<;>intro B
   ·have o:=B;have g1:=B;try simp at g1
    have i3:=ik j q;simp[i3,ZG,B];refine(bl) ?_;refine(db (fun gg=>CV (C q j) (C (C E.a U).a n)))<|?_;simp[B];refine(bl) ?_;refine(aA e3) ?_ ?_<;>intro k9 h4 e3
    ·have q4:=h4;try simp at q4
     have i4:j<q.length:=by(simp at h4;omega)
     have m6:=ml q (k9 7 _ rfl);have w3:=wr j;simp[B];refine(bl) ?_;exact aE (an K (an w2 (an w3 B))) e3
    ·have q4:=h4;try simp at q4
     have e2:=ms e2 e3;simp[B];refine(bl) ?_;refine(ac P)<|?_;simp[B];refine(bl) ?_;refine bz rfl rfl rfl ?_;simp[B];refine(bl) ?_;refine bz rfl rfl rfl ?_;simp[B];refine(bl) ?_;refine(cR (YJ.rd (VW (C (C E.a U).a n) c6)))<|?_;simp[B];refine(bl) ?_;refine bz rfl rfl rfl ?_;simp[B];refine(bl) ?_;refine bz rfl rfl rfl ?_;simp[B];refine(bl) ?_;refine bz rfl rfl rfl ?_;simp[B];refine(bl) ?_;exact ay e2 (v:=by first|(refine⟨?_,?_,?_,?_,j2.2.2.2.2⟩<;>((try dsimp only);omega))|(have c:R 2285568 (C (C E.a U).a n):=Zh (ZY.Yw (Zh (M.Y8 w)));obtain⟨q1,q2⟩:=mu (z:=j) j2.2.2.2.2 c Y;refine⟨?_,?_,?_,?_,q1⟩<;>((try dsimp only);omega))) (hw:=Ya [((7,0),some (75,0))] [] rfl c5)
   ·have o:=B;simp[B];refine(bl) ?_;refine(aO)<|?_;simp[B];refine(bl) ?_;refine(aA e3) ?_ ?_<;>intro ar h5 e3
    ·simp[B]at h5
    ·have r:=h5;try simp at r
     have e2:=ms e2 e3;simp[B];refine(bl) ?_;refine(ac P)<|?_;simp[B];refine(bl) ?_;refine bz rfl rfl rfl ?_;simp[B];refine(bl) ?_;refine bz rfl rfl rfl ?_;simp[B];refine(bl) ?_;refine(cR (YJ.rd (VW (C (C E.a U).a n) c6)))<|?_;simp[B];refine(bl) ?_;refine bz rfl rfl rfl ?_;simp[B];refine(bl) ?_;refine bz rfl rfl rfl ?_;simp[B];refine(bl) ?_;refine bz rfl rfl rfl ?_;simp[B];refine(bl) ?_;exact ay e2 (v:=by first|(refine⟨?_,?_,?_,?_,j2.2.2.2.2⟩<;>((try dsimp only);omega))|(have c:R 2285568 (C (C E.a U).a n):=Zh (ZY.Yw (Zh (M.Y8 w)));obtain⟨q1,q2⟩:=mu (z:=j) j2.2.2.2.2 c Y;refine⟨?_,?_,?_,?_,q1⟩<;>((try dsimp only);omega))) (hw:=Ya [((7,0),some (75,0))] [] rfl c5)
  have q2:=X;try simp at q2
  have c3:=sl 2285568 (C E.a U).a (an g (an w (an L a)));have H:=ms H e2;simp;exact au K H (v:=by(refine⟨?_,?_,?_,?_,j2.2.2.2.2⟩<;>((try dsimp only);omega)))
 have q1:=I;try simp at q1
 have c4:=sl 2285568 E.a (an g (an w (an L a)));have f:=ms f H;simp;exact bT _ f
theorem H9(A:Yv):Sa 464 [A.row] [(xD A).row]:=have f:=me (xD.eq_1 A);(so func464 ntmps464)<|rt _ f
theorem pl(A:Yv):Sa 396 [A.row] [rB (NU A)]:=have f:=me (NU.eq_1 A);so func396 ntmps396∘aa (Z6 A.a 1 999)∘aj (fun gg=>Z6 A.c 1 99)∘aj (fun gg=>Z6 A.e 1 99)∘aj (fun gg=>Z6 A.g 0 99)∘aj (fun gg=>H9 A)∘aj (fun gg=>yA (xD A))<|rt _ f
end Go.Proofs.YtipadonicggnbaaGreat
