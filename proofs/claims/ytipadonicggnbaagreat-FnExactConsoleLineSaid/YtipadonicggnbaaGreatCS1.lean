/- Contracts of the functions Hb the abstract machine, part S1. No condition. -/
import Derived.Test.YtipadonicggnbaaGreatE
import Derived.Test.YtipadonicggnbaaGreatTy
namespace Go.Proofs.YtipadonicggnbaaGreat
open Tryz
open Go.Vm Go.Mo
set_option maxHeartbeats 1000000
set_option maxRecDepth 100000
set_option linter.unusedSimpArgs false
set_option linter.unusedVariables false
variable{a b:Prop}
theorem T3(h:b)(k:a:=by(intros;first|omega|with_unfolding_all (first|first|omega|(simp at*;omega))|(simp_all;done)|(simp_all;omega)|grind|exact wt)):a/\b:=⟨k,h⟩
theorem rD(A:ByteArray)(g:R 2342912 A):y 15 [rS A] [Z 1 sR (Xs A)]:=by
 have f:=me (Xs.eq_1 A);refine ao func15 ntmps15∘bH (Kz.eq_2 A) (fun J U p=>Z3 37 [(0,.one (.d (.str A)),[]),(3,.one (.O 3 0 0 J.length),[.arr false 1 (J.map sR)]),(4,.one (.d (.str U)),[]),eI 5 (p:Int)]) (fun D J U p=>A.size+1<D+p/\J.length<=p/\p<=A.size+1/\U.size<=p) (A.size+2) ([]:List ByteArray) (⟨#[]⟩:ByteArray) 0 (h0:=aw [((3,0),some (6,0))] [])<|fun p1 J U p H T=>(cF H) ?_ ?_<;>intro k2 I H
 ·have c1:A.size<=2342912:=Xw (xs g);have K:=wr p;refine(bE) ?_ ?_<;>intro B
  ·have g1:=B;try simp at g1
   simp[B];repeat with_reducible refine T3 ?_
   refine(aA H) ?_ ?_<;>intro k3 X H
   ·have w2:=wr p;simp[B];repeat with_reducible refine T3 ?_
    exact aR (an w2 B) H (v:=by(have hh:=of_decide_eq_true I;(try dsimp only);refine⟨Y,Y,by first|omega|(rw[List.length_append];show _+1<=_;omega),Y,by first|exact Nat.zero_le _|(have hw:W ((p:Int)+1)=(p:Int)+1:=YF Y Y;simp[hw];omega)⟩))
   ·simp[B];refine(aA H) ?_ ?_<;>intro k4 h3 H
    ·simp[B];repeat with_reducible refine T3 ?_
     exact bh H (v:=by(have hh:=of_decide_eq_true I;(try dsimp only);refine⟨Y,Y,by first|omega|(rw[List.length_append];show _+1<=_;omega),Y,by first|exact Nat.zero_le _|(have hw:W ((p:Int)+1)=(p:Int)+1:=YF Y Y;simp[hw];omega)⟩)) (hw:=Ya [((3,0),some (35,0))] [] rfl bG)
    ·simp[B];exact aR (an K B) H (v:=by(have hh:=of_decide_eq_true I;(try dsimp only);refine⟨Y,Y,by first|omega|(rw[List.length_append];show _+1<=_;omega),Y,by first|exact Nat.zero_le _|(have hw:W ((p:Int)+1)=(p:Int)+1:=YF Y Y;simp[hw];omega)⟩))
  ·simp[B];refine(aA H) ?_ ?_<;>intro k5 h4 H
   ·simp[B]at h4
   ·simp[B];refine(aA H) ?_ ?_<;>intro k6 h5 H
    ·simp[B];repeat with_reducible refine T3 ?_
     exact bh H (v:=by(have hh:=of_decide_eq_true I;(try dsimp only);refine⟨Y,Y,by first|omega|(rw[List.length_append];show _+1<=_;omega),Y,by first|exact Nat.zero_le _|(have hw:W ((p:Int)+1)=(p:Int)+1:=YF Y Y;simp[hw];omega)⟩)) (hw:=Ya [((3,0),some (35,0))] [] rfl bG)
    ·simp[B];exact aR (an K B) H (v:=by(have hh:=of_decide_eq_true I;(try dsimp only);refine⟨Y,Y,by first|omega|(rw[List.length_append];show _+1<=_;omega),Y,by first|exact Nat.zero_le _|(have hw:W ((p:Int)+1)=(p:Int)+1:=YF Y Y;simp[hw];omega)⟩))
 exact ag _ (ms f H)
theorem sr(A:ZP)(g:R 2342912 A):y 43 [A.row] [(SF A).row]:=have f:=me (SF.eq_1 A);have c1:=sl 2342912 A.a g;have c2:=sl 2342912 A.b g;have c3:=sl 2342912 A.c g;(ao func43 ntmps43)<|ag _ f
theorem v8(A:ZP)(g:R 2342912 A):y 43 [A.row] [A.row]:=by have h:=sr A g;rwa[I4]at h
theorem mC(A:ZV)(g:R 2342912 A):y 157 [A.row] [(WH A).row]:=by have f:=me (WH.eq_1 A);refine(ao func157 ntmps157)<|?_;refine C8 [2,3,4,5,6,7,8,9,0,1,10,11] P ai ai ai ?_;have c1:=sl 2342912 A.a g;have c2:=sl 2342912 A.d g;exact(bd)<|ag _ f
theorem FH(A:ZV)(g:R 2342912 A):y 157 [A.row] [A.row]:=by have h:=mC A g;rwa[P5]at h
theorem p3(A:ZS)(g:R 2342912 A):y 272 [A.row] [(SM A).row]:=by have f:=me (SM.eq_1 A);refine(ao func272 ntmps272)<|?_;refine C8 [2,3,4,5,0,1,6,7,8,9] P ai ai ai ?_;have c1:=sl 2342912 A.a g;exact(bd)<|ag _ f
theorem SA(A:ZS)(g:R 2342912 A):y 272 [A.row] [A.row]:=by have h:=p3 A g;rwa[Lx]at h
theorem mG(A:List ZS)(g:R 2338816 A):y 183 [Z 3 ZS.row A] [Z 3 ZS.row (We A)]:=by
 have f:=me (We.eq_1 A);refine(ao func183 ntmps183)<|?_;refine i6 (al:=([]:List ZS).map ZS.row) (L:=[]) rfl rfl rfl rfl ab ab ab ab ab ab ?_;simp;refine(ap (kg.eq_2 A) (fun J U=>Z3 21 [eL 0 3 A ZS.row,(3,.one (.O 3 0 0 J.length),[.arr true 3 (J.map ZS.row)]),eI 4 (U:Int)]) (fun D J U=>A.length<D+U/\U<=A.length/\J.length<=0+1*U) (A.length+1) ([]:List ZS) 0 (h0:=aw [((3,0),some (5,0))] []))<|fun p1 J U H T=>(ae H) ?_ ?_<;>intro k2 I H
 ·have N:=ix I;have m2:=ml A (k2 0 _ rfl);have c1:=sl 2338816 A g;have K:=wr U;refine xp N∘ah [true,false] (SA (C A U) (sg (Zh g)))∘VR<|?_;simp;refine(TH (aq:=J.map ZS.row) (al:=([C A U]:List ZS).map ZS.row) (l1:=[(3,0)]) (l2:=[(17,1)]) (Q:=3))<|?_;simp;exact ay H (hw:=Ya [((3,0),some (19,0))] [] rfl ad)
 exact ag _ (ms f H)
theorem mI(A:List ZS)(g:R 2338816 A):y 183 [Z 3 ZS.row A] [Z 3 ZS.row A]:=by have h:=mG A g;rwa[Lj]at h
theorem mF(A:Zc)(g:R 2342912 A):y 184 [A.row] [(VI A).row]:=have f:=me (VI.eq_1 A);have c1:=sl 2342912 A.c g;have c2:=sl 2342912 A.a g;(ao func184 ntmps184)<|ag _ f
theorem Hx(A:Zc)(g:R 2342912 A):y 184 [A.row] [A.row]:=by have h:=mF A g;rwa[NZ]at h
theorem IT(A:ZY)(g:R 2334720 A):y 109 [A.row] [(Wu A).row]:=by
 have f:=me (Wu.eq_1 A);refine ao func109 ntmps109∘ah [] (mI A.a (sg (ZY.Yw g)))∘ap (kj.eq_2 A) (fun J U=>Z3 28 [eX 1 (A.row.map .d),(2,.one (.Z 2 0),[.box [.nil 3,.nil 5]]),(3,.one (.Z 3 0),[.box [.O 7 0 0 A.a.length,.O 3 2 0 U.length],.none,.arr true 5 (U.map Zc.row)]),eI 4 (J:Int),(7,.any,[.arr true 3 (A.a.map ZS.row)])]) (fun D J U=>A.b.length<D+J/\J<=A.b.length/\U.length<=0+1*J) (A.b.length+1) 0 ([]:List Zc) (h0:=aw [((3,2),none)] [])<|fun p1 J U H T=>(cF H) ?_ ?_<;>intro k2 I H
 ·have N:=ix I;have m2:=ml A.b (k2 11 _ rfl);have c1:=sl 2334720 A.b g;have K:=wr J;refine be [25] P∘xp N∘ah [true,true,true,false,false] (Hx (C A.b J) (sg (Zh (ZY.Qf g))))∘VR<|?_;simp;refine(TH (aq:=U.map Zc.row) (al:=([C A.b J]:List Zc).map Zc.row) (l1:=[(3,2)]) (l2:=[(23,3),(23,4)]) (Q:=5))<|?_;simp;exact ay H (hw:=Ya [((3,2),some (25,0))] [] rfl ad)
 have c2:=sl 2334720 A.b g;exact ag _ (ms f H)
theorem yl(A:ZY)(g:R 2334720 A):y 109 [A.row] [A.row]:=by have h:=IT A g;rwa[LS]at h
theorem vs(A:ZU)(g:R 2330624 A):y 89 [A.row] [(PI A).row]:=have f:=me (PI.eq_1 A);ao func89 ntmps89∘ah [true,false,false] (FH A.c (sg (ZU.Q6 g)))∘ah [] (yl A.a (sg (ZU.YU g)))<|ag _ f
theorem KQ(A:ZU)(g:R 2330624 A):y 89 [A.row] [A.row]:=by have h:=vs A g;rwa[H7]at h
theorem vb(A:ZE)(g:R 2326528 A):y 44 [A.row] [(kN A).row]:=by
 have f:=me (kN.eq_1 A);refine ao func44 ntmps44∘ap (jv.eq_2 A) (fun J U=>Z3 27 [eX 1 (A.row.map .d),(2,.one (.Z 2 0),[.box [.d (.int .i64 0),.nil 16]]),(3,.one (.Z 3 0),[.box [.d (.int .i64 A.b),.O 3 2 0 U.length],.none,.arr true 16 (U.map ZU.row)]),eI 4 (J:Int)]) (fun D J U=>A.a.length<D+J/\J<=A.a.length/\U.length<=0+1*J) (A.a.length+1) 0 ([]:List ZU) (h0:=aw [((3,2),none)] [])<|fun p1 J U H T=>(cF H) ?_ ?_<;>intro k2 I H
 ·have N:=ix I;have m2:=ml A.a (k2 10 _ rfl);have c1:=sl 2326528 A.a g;have K:=wr J;refine be [24] P∘xp N∘ah [true,true,true,false,false] (KQ (C A.a J) (sg (Zh (ZE.YO g))))∘VR<|?_;simp;refine(TH (aq:=U.map ZU.row) (al:=([C A.a J]:List ZU).map ZU.row) (l1:=[(3,2)]) (l2:=[(22,3),(22,4),(22,14),(22,15)]) (Q:=16))<|?_;simp;exact ay H (hw:=Ya [((3,2),some (24,0))] [] rfl ad)
 have c2:=sl 2326528 A.a g;exact ag _ (ms f H)
theorem JG(A:ZE)(g:R 2326528 A):y 44 [A.row] [A.row]:=by have h:=vb A g;rwa[NX]at h
theorem m3(A:ZF)(g:R 2322432 A):y 16 [A.row] [(V4 A).row]:=by
 have f:=me (V4.eq_1 A);refine(ao func16 ntmps16)<|?_;refine C8 [0,1,2,3,4,5,6,7,8,9,10,11,12,13,14,15,16,17,18,21,22,23,24,19,20,25,26,27] P ai ai ai ?_;simp;have c1:=sl 2322432 A.c g;have c2:=sl 2322432 A.d g;have c3:=sl 2322432 A.e g;have c4:=sl 2322432 A.f g;have c5:=sl 2322432 A.g g;refine ah [false,false,false] (v8 A.b (sg (ZF.YW g)))∘ap (W6.eq_2 A) (fun J U=>Z3 50 [eX 1 (A.row.map .d),(2,.one (.Z 2 0),[.box [.nil 5,.nil 3,.nil 4,.d (.int .i64 0),.d (.int .i64 0),.nil 7,.nil 1,.nil 2,.nil 1,.nil 1,.d (.int .i64 0),.nil 1]]),(3,.one (.Z 3 0),[.box [.O 7 0 0 A.b.a.length,.O 7 1 0 A.b.b.length,.O 7 2 0 A.b.c.length,.d (.int .i64 A.b.e),.d (.int .i64 A.b.d),.O 11 0 0 A.c.length,.O 15 0 0 A.d.length,.O 3 8 0 U.length,.O 19 0 0 A.e.length,.O 23 0 0 A.f.length,.d (.int .i64 A.h),.O 29 0 0 A.g.length],.none,.none,.none,.none,.none,.none,.none,.arr true 2 (U.map ZE.row)]),eI 4 (J:Int),(7,.any,[.arr false 5 (A.b.a.map YZ.row),.arr false 3 (A.b.b.map ZX.row),.arr false 4 (A.b.c.map Z8.row)]),(11,.any,[.arr false 7 (A.c.map Yv.row)]),(15,.any,[.arr false 1 (A.d.map S)]),(19,.any,[.arr false 1 (A.e.map S)]),(23,.any,[.arr false 1 (A.f.map S)]),(29,.any,[.arr false 1 (A.g.map S)])]) (fun D J U=>A.a.length<D+J/\J<=A.a.length/\U.length<=0+1*J) (A.a.length+1) 0 ([]:List ZE) (h0:=aw [((3,8),none)] [])<|fun p1 J U H T=>(cF H) ?_ ?_<;>intro k3 I H
 ·have N:=ix I;have m2:=ml A.a (k3 33 _ rfl);have c6:=sl 2322432 A.a g;have K:=wr J;refine be [47] P∘xp N∘ah [] (JG (C A.a J) (sg (Zh (ZF.Zz g))))∘VR<|?_;simp;refine(TH (aq:=U.map ZE.row) (al:=([C A.a J]:List ZE).map ZE.row) (l1:=[(3,8)]) (l2:=[(45,1)]) (Q:=2))<|?_;simp;exact ay H (hw:=Ya [((3,8),some (47,0))] [] rfl ad)
 have c7:=sl 2322432 A.a g;exact ag _ (ms f H)
theorem XA(A:ZF)(g:R 2322432 A):y 16 [A.row] [A.row]:=by have h:=m3 A g;rwa[L6]at h
theorem YX(A E G:Int):Sa 104 [rI A,rI E,rI G] [rB (ZJ A E G)]:=by
 rw[<-xy];have f:=me (g5.eq_1 A E G)
 exact(so func104 ntmps104)<|rt _ f
theorem XV(A:Int):Sa 48 [rI A] [rS (Zr A)]:=by
 rw[<-x1];have f:=me (IE.eq_1 A)
 refine so func48 ntmps48∘cQ f<|fun k1 I f=>(ap (qG.eq_2) (fun J U=>Z3 31 [eI 0 A,(3,.one (.d (.str J)),[]),eI 4 U]) (fun D J U=>(D=22\/U.natAbs<10^(D-1))/\J.size+D=22) 22 (⟨#[]⟩:ByteArray) A (v:=by exact⟨Y,.inl rfl,rfl⟩))<|fun p1 J U H T=>(cF H) ?_ ?_<;>intro k3 X H
 ·refine(cF H) ?_ ?_<;>intro k4 h3 H
  ·refine c4 (l:=([UInt8.ofInt (W (48+W (-Int.tmod U 10)))]:List UInt8)) rfl rfl rfl ab ab ab (by simp[yh]) ?_;refine(bd)<|?_;exact ay H (v:=by(try dsimp only);obtain⟨c,d⟩:=fE T.2.1 X;refine⟨c,d,?_⟩;have:=T.2.2;simp;omega)
  refine c4 (l:=([UInt8.ofInt (W (48+Int.tmod U 10))]:List UInt8)) rfl rfl rfl ab ab ab (by simp[yh]) ?_;refine(bd)<|?_;exact ay H (v:=by(try dsimp only);obtain⟨c,d⟩:=fE T.2.1 X;refine⟨c,d,?_⟩;have:=T.2.2;simp;omega)
 have f:=ms f H;exact(cQ f)<|fun k5 h4 f=>rt _ f
theorem H3(h:b)(k:a:=by(intros;first|omega|with_unfolding_all (first|first|omega|(simp at X;omega))|exact wt)):a/\b:=⟨k,h⟩
theorem zj(A:ByteArray)(g:R 2338816 A):Sa 49 [rS A] [rI (YY A).1,rB (YY A).2]:=by
 rw[<-sa];have f:=me (G1.eq_1 A)
 refine so func49 ntmps49∘aa (YX (A.size:Int) 1 13)<|(aF f) ?_ ?_<;>intro k1 I f
 ·have q1:=I;try simp[ZJ]at q1
  simp;exact rt _ f
 have q1:=I;try simp[ZJ]at q1
 simp;refine(ap (Un.eq_2 A) (fun J U=>Z3 39 [(0,.one (.d (.str A)),[]),eI 4 J,eI 5 (U:Int)]) (fun D J U=>A.size<D+U/\U<=A.size) (A.size+1) 0 0)<|fun p1 J U H T=>(ae H) ?_ ?_<;>intro k3 X H
 ·have K:=wr U;simp;repeat with_reducible refine H3 ?_
  refine(aa (YX (W ((bk A U):Int)) 48 57))<|(aF H) ?_ ?_<;>intro k4 h3 H
  ·have q3:=h3;try simp[ZJ]at q3
   have f:=ms f H;simp;exact rt _ f
  have q3:=h3;try simp[ZJ]at q3
  simp;repeat with_reducible refine H3 ?_
  exact au K H
 have f:=ms f H;exact aj (fun gg=>XV J)∘cQ f<|fun k5 h4 f=>rt _ f
theorem jf(A:List ByteArray)(g:R 2334720 A):y 45 [Z 1 sR A] [Z 1 S (Z5 A).1,rB (Z5 A).2]:=by
 have f:=me (Z5.eq_1 A);refine ao func45 ntmps45∘ap (Ja.eq_2 A) (fun J U=>Z3 31 [eL 0 1 A sR,(4,.one (.O 4 0 0 J.length),[.arr false 1 (J.map S)]),eI 5 (U:Int)]) (fun D J U=>A.length<D+U/\U<=A.length/\J.length<=0+1*U) (A.length+1) ([]:List Int) 0 (h0:=aw [((4,0),some (8,0))] [])<|fun p1 J U H T=>(ae H) ?_ ?_<;>intro k2 I H
 ·have N:=ix I;have m2:=ml A (k2 0 _ rfl);have c1:=sl 2334720 A g;have K:=wr U;refine xp N∘aa (zj (C A U) (sg (Zh g)))<|(cF H) ?_ ?_<;>intro k3 X H
  ·exact ag _ (ms f H)
  exact ay H (hw:=Ya [((4,0),some (29,0))] [] rfl ad)
 exact ag _ (ms f H)
theorem lL(A E:Int):Sa 249 [rI A,rI E] [rI (iV A E)]:=by
 have f:=me (iV.eq_1 A E);refine so func249 ntmps249∘aa (YX E 1 1000000000000)<|(aF f) ?_ ?_<;>intro k1 I f
 ·have q1:=I;try simp[ZJ]at q1
  simp;exact rt _ f
 have q1:=I;try simp[ZJ]at q1
 exact(bd)<|rt _ f
theorem pt(A:List Int):Sa 158 [Z 1 S A] [rI (DT A)]:=by
 have f:=me (DT.eq_1 A);refine so func158 ntmps158∘ap (FP.eq_2 A) (fun J U=>Z3 22 [eL 0 1 A S,eI 3 J,eI 4 (U:Int)]) (fun D J U=>A.length<D+U/\U<=A.length) (A.length+1) 11 0<|fun p1 J U H T=>(ae H) ?_ ?_<;>intro k2 I H
 ·have N:=ix I;have m2:=ml A (k2 0 _ rfl);have K:=wr U;refine xp N∘aa (lL (C A U) 2147483647)<|?_;exact au K H
 exact rt _ (ms f H)
theorem L5(A:Int)(E:List Int)(g:R 2330624 E):Sa 91 [rI A,Z 1 S E] [rI (yp A E)]:=have f:=me (yp.eq_1 A E);have c1:=sl 2330624 E g;so func91 ntmps91∘aa (pt ((([A]:List Int)++E)++([A]:List Int)))<|rt _ f
theorem QW(A E:Int):Sa 90 [rI A,rI E] [rI (yz A E)]:=have f:=me (yz.eq_1 A E);so func90 ntmps90∘cQ f<|fun k1 I f=>rt _ f
theorem jl(A:ZV):Sa 92 [A.row] [rB (Xm A)]:=by
 rw[<-AN];have f:=me (Mj.eq_1 A)
 refine so func92 ntmps92∘aG (U2.eq_2 A) (fun J=>Z3 51 [eX 1 (A.row.map .d),eI 3 (J:Int)]) (fun D J=>A.a.length<D+J/\J<=A.a.length) (A.a.length+1) 0<|fun p1 J H T=>(ae H) ?_ ?_<;>intro k2 I H
 ·have N:=ix I;have m2:=ml A.a (k2 7 _ rfl);have K:=wr J;refine(xp N)<|(cF H) ?_ ?_<;>intro k3 X H
  ·exact rt _ (ms f H)
  exact aE K H
 have f:=ms f H;refine(aG (Uk.eq_2 A) (fun q=>Z3 51 [eX 1 (A.row.map .d),eI 4 (q:Int)]) (fun n2 q=>A.d.length<n2+q/\q<=A.d.length) (A.d.length+1) 0)<|fun p2 q e2 j2=>(ae e2) ?_ ?_<;>intro k5 h3 e2
 ·have i2:=ix h3;have m4:=ml A.d (k5 21 _ rfl);have w2:=wr q;refine xp i2∘aa (YX (C A.d q) 1 1000000000000)<|(aF e2) ?_ ?_<;>intro k6 h4 e2
  ·have q4:=h4;try simp[ZJ]at q4
   have f:=ms f e2;simp;exact rt _ f
  have q4:=h4;try simp[ZJ]at q4
  simp;exact aE w2 e2
 have f:=ms f e2;exact aa (YX A.e 0 999)∘aj (fun gg=>YX (A.a.length:Int) 1 6)<|rt _ f
theorem M8(A:Int):Sa 93 [rI A] [rB (xw A)]:=have f:=me (xw.eq_1 A);so func93 ntmps93∘aa (YX A 1 2147483646)<|rt _ f
theorem ED(A:Int)(E:List ByteArray)(G:Int)(g:R 2326528 E):y 46 [rI A,Z 1 sR E,rI G] [(Y0 A E G).1.row,rB (Y0 A E G).2]:=by
 rw[<-FE];have f:=me (R1.eq_1 A E G)
 have c1:=sl 2326528 E g;refine ao func46 ntmps46∘ap (qq.eq_2 A E G) (fun J U=>Z3 42 [eI 0 A,eL 1 1 E sR,eI 2 G,(6,.one (.Z 6 0),[.box [.d (.int .i64 0),.nil 1,.nil 1]]),(8,.one (.Z 8 0),[.box [.d (.int .i64 A),.O 13 0 0 E.length,.O 8 3 0 U.length],.none,.none,.arr false 1 (U.map S)]),eI 9 (J:Int),(13,.any,[.arr false 1 (E.map sR)])]) (fun D J U=>E.length<D+J/\J<=E.length/\U.length<=0+1*J) (E.length+1) 0 ([]:List Int) (h0:=aw [((8,3),none)] [])<|fun p1 J U H T=>(cF H) ?_ ?_<;>intro k2 I H
 ·have N:=ix I;have m2:=ml E (k2 1 _ rfl);have K:=wr J;refine av P∘aa (L5 G ([A,(J:Int)]:List Int) hc)∘aa (QW 1 (yp G ([A,(J:Int)]:List Int)))<|?_;exact ay H (hw:=Ya [((8,3),some (30,0))] [] rfl ad)
 have f:=ms f H;exact aa (jl (ZV.mk A E U))∘aj (fun gg=>M8 G)∘cQ f<|fun k4 X f=>ag _ f
theorem ra(A:ZF)(E:Int)(g:R 2318336 A):y 94 [A.row,rI E] [(zV A E).1.row,rB (zV A E).2]:=by
 have f:=me (zV.eq_1 A E);refine ao func94 ntmps94∘ah qW (XA A (sg g))∘aa (YX E 0 100)<|(aF f) ?_ ?_<;>intro k1 I f
 ·have q1:=I;try simp[ZJ]at q1
  simp;exact ag _ f
 have q1:=I;try simp[ZJ]at q1
 simp;exact ag _ f
theorem QA(A:List YZ)(E:Int):Sa 105 [Z 5 YZ.row A,rI E] [rI (Zi A E)]:=by
 have f:=me (Zi.eq_1 A E);refine so func105 ntmps105∘aG (Sf.eq_2 A E) (fun J=>Z3 20 [eL 0 5 A YZ.row,eI 1 E,eI 5 (J:Int)]) (fun D J=>A.length<D+J/\J<=A.length) (A.length+1) 0<|fun p1 J H T=>(ae H) ?_ ?_<;>intro k2 I H
 ·have N:=ix I;have m2:=ml A (k2 0 _ rfl);have K:=wr J;refine(xp N)<|(cF H) ?_ ?_<;>intro k3 X H
  ·exact rt _ (ms f H)
  exact aE K H
 exact rt _ (ms f H)
theorem V9(A:ZF)(E:Int):Sa 159 [A.row,rI E] [rB (Zw A E)]:=have f:=me (Zw.eq_1 A E);so func159 ntmps159∘aa (YX E 0 (W ((A.a.length:Int)-1)))<|rt _ f
theorem VY(A:List Z8)(E:Int):Sa 167 [Z 4 Z8.row A,rI E] [rI (ZL A E)]:=by
 rw[<-Br];have f:=me (Ms.eq_1 A E)
 refine so func167 ntmps167∘ap (qS.eq_2 A E) (fun J U=>Z3 54 [eL 0 4 A Z8.row,eI 1 E,eI 5 J,eI 6 (U:Int)]) (fun D J U=>A.length<D+U/\U<=A.length/\-1<=J/\J<(A.length:Int)) (A.length+1) (-1) 0<|fun p1 J U H T=>(cF H) ?_ ?_<;>intro k2 I H
 ·have N:=ix I;have m2:=ml A (k2 0 _ rfl);have K:=wr U;refine ac P∘xp N<|(aM) ?_ ?_<;>intro B
  ·refine(l N)<|(aI B) ?_ ?_<;>intro B
   ·all_goals
     refine l N∘gK<|fun _=>?_;have i2:=ik J.toNat A
     refine(l i2)<|(cK H) ?_ ?_<;>intro k4 X H
     ·exact au (an K B) H
     ·exact au (an K B) H
   ·all_goals
     refine(aW)<|(cK H) ?_ ?_<;>intro k5 h3 H
     ·exact au (an K B) H
     ·exact au (an K B) H
  ·refine(aI B) ?_ ?_<;>intro B
   ·try(simp at B;done)
    all_goals
     refine l N∘gK<|fun _=>?_;have i4:=ik J.toNat A
     refine(l i4)<|(cK H) ?_ ?_<;>intro k6 h4 H
     ·simp[B]at h4
     ·simp[B]at h4
   ·all_goals
     refine(aW)<|(cK H) ?_ ?_<;>intro c h5 H
     ·simp[B]at h5
     ·exact au (an K B) H
 have f:=ms f H;refine(bC f)<|fun k8 h6 f=>?_;have i6:=ik J.toNat A;exact(xp i6)<|rt _ f
theorem uH(A:ZF)(E:Int):Sa 250 [A.row,rI E] [rI (QQ A E)]:=by
 have f:=me (QQ.eq_1 A E);refine so func250 ntmps250∘aG (zk.eq_2 A E) (fun J=>Z3 22 [eI 1 E,eX 2 (A.row.map .d),eI 5 (J:Int)]) (fun D J=>A.c.length<D+J/\J<=A.c.length) (A.c.length+1) 0<|fun p1 J H T=>(ae H) ?_ ?_<;>intro k2 I H
 ·have N:=ix I;have m2:=ml A.c (k2 8 _ rfl);have K:=wr J;refine(xp N)<|(cF H) ?_ ?_<;>intro k3 X H
  ·exact rt _ (ms f H)
  exact aE K H
 exact rt _ (ms f H)
theorem KG(A:Int)(E:List Int)(g:R 68719476736 E):Sa 330 [rI A,Z 1 S E] [rI (QS A E)]:=have f:=me (QS.eq_1 A E);have c1:=sl 68719476736 E g;so func330 ntmps330∘aa (pt (([7,A]:List Int)++E))<|rt _ f
theorem VV(A:Int)(E:ByteArray)(G:Int)(g:R 2326528 E):Sa 278 [rI A,rS E,rI G] [rI (yb A E G)]:=by
 rw[<-Bd];have f:=me (Md.eq_1 A E G)
 refine so func278 ntmps278∘ap (km.eq_2 E) (fun J U=>Z3 27 [eI 0 A,(1,.one (.d (.str E)),[]),(7,.one (.O 7 0 0 J.length),[.arr false 1 (J.map S)]),eI 8 (U:Int)]) (fun D J U=>E.size<D+U/\U<=E.size/\J.length<=1+1*U) (E.size+1) ([G]:List Int) 0 (h0:=aw [((7,0),some (10,0))] [])<|fun p1 J U H T=>(aF H) ?_ ?_<;>intro k2 I H
 ·have q1:=I;try simp at q1
  have c1:E.size<=2326528:=Xw (xs g);have K:=wr U;refine(bd)<|?_;exact ay H (hw:=Ya [((7,0),some (23,0))] [] rfl ad)
 have q1:=I;try simp at q1
 have c2:E.size<=2326528:=Xw (xs g);have f:=ms f H;simp;exact(aa (KG A J bL))<|rt _ f
theorem U3(A:Int)(E:ZV)(g:R 2322432 E):Sa 252 [rI A,E.row] [rI (Yh A E)]:=by
 have f:=me (Yh.eq_1 A E);refine so func252 ntmps252∘aa (jl E)∘cQ f<|fun k1 I f=>(ap (T6.eq_2 A E) (fun J U=>Z3 38 [eI 0 A,eX 3 (E.row.map .d),(5,.one (.O 5 0 0 J.length),[.arr false 1 (J.map S)]),eI 6 (U:Int)]) (fun D J U=>E.a.length<D+U/\U<=E.a.length/\J.length<=1+1*U) (E.a.length+1) ([E.e]:List Int) 0 (h0:=aw [((5,0),some (12,0))] []))<|fun p1 J U H T=>(cF H) ?_ ?_<;>intro k3 X H
 ·have N:=ix X;have m2:=ml E.a (k3 15 _ rfl);have c1:=sl 2322432 E.a g;have K:=wr U;refine(ac P)<|?_;have i2:U<E.d.length:=by(have:=NQ (a:=E);first|(simp_all;done)|(simp_all;omega))
  refine xp (an N i2)∘aa (VV A (C E.a U) (C E.d U) (sg (Zh (ZV.xy g))))<|?_;exact ay H (hw:=Ya [((5,0),some (34,0))] [] rfl ad)
 have c2:=sl 2322432 E.a g;have f:=ms f H;exact(aa (KG A J bL))<|rt _ f
theorem Tn(A:Zu):Sa 328 [A.row] [rB (Jp A)]:=have f:=me (Jp.eq_1 A);so func328 ntmps328∘aa (YX A.c 1 99)∘aj (fun gg=>YX A.a 1 999)∘aj (fun gg=>YX A.b 0 99)∘aj (fun gg=>YX A.g 0 99)∘aj (fun gg=>YX A.h 1 3)∘aj (fun gg=>YX A.e 0 1000000000000)∘aj (fun gg=>YX A.i 0 1000000000000)∘aj (fun gg=>YX A.d 0 1000000000000)<|rt _ f
theorem Vu(A:Zu):y 329 [A.row] [Z 1 S (Xk A)]:=have f:=me (Xk.eq_1 A);(ao func329 ntmps329)<|ag _ f
theorem T8(A:YZ)(E:List Int)(g:R 2326528 E):Sa 258 [A.row,Z 1 S E] [rI (jQ A E)]:=by have f:=me (jQ.eq_1 A E);refine(so func258 ntmps258)<|?_;refine C8 [2,3,4,5,6,0,1,7,8] P ai ai ai ?_;have c1:=sl 2326528 E g;exact bd∘aa (L5 A.d (([A.b]:List Int)++E) ce)<|rt _ f
theorem By(A:List YZ)(E:Zu)(g:R 2322432 A):Sa 251 [Z 5 YZ.row A,E.row] [(XJ A E).1.row,rB (XJ A E).2]:=by
 rw[<-Qs];have f:=me (MT.eq_1 A E)
 refine so func251 ntmps251∘aa (QA A E.c)∘aa (Tn E)∘cQ f<|fun k1 I f=>(ac P)<|?_;have N:(Zi A E.c).toNat<A.length:=by have:=Yy A E.c;exact il
 exact xp N∘aa (YJ.rd (Vu E))∘aa (T8 (C A (Zi A E.c).toNat) (Xk E) (by simp(maxDischargeDepth:=12) [xI,ZT (m:=2326528) aq g];try omega))<|rt _ f
theorem Pq(A:Zu):y 253 [A.row] [(Yf A).row]:=have f:=me (Yf.eq_1 A);ao func253 ntmps253∘av P∘ah [false] (Vu A)<|ag _ f
theorem H0(A:Yv):y 331 [A.row] [Z 1 S (yT A)]:=have f:=me (yT.eq_1 A);(ao func331 ntmps331)<|ag _ f
theorem uv(A:Yv):y 254 [A.row] [(Kk A).row]:=have f:=me (Kk.eq_1 A);ao func254 ntmps254∘av P∘ah [false] (H0 A)<|ag _ f
theorem Mw(A:ZF)(E:Int)(G:ZV)(V a4:Int)(g:R 2318336 A)(w:R 2318336 G):So 160 [A.row,rI E,G.row,rI V,rI a4] [(Xq A E G V a4).1.row,rB (Xq A E G V a4).2]:=by
 have f:=me (Xq.eq_1 A E G V a4);refine so func160 ntmps160∘aa (VY A.b.c A.b.d)∘aa (uH A E)∘cQ f<|fun k1 I f=>(ac P)<|?_;have N:(QQ A E).toNat<A.c.length:=by have:=tL A E;exact il
 exact xp N∘aa (U3 (ZL A.b.c A.b.d) G (sg w))∘aa (By A.b.a (Zu.mk E (C A.c (QQ A E).toNat).a (ZL A.b.c A.b.d) (Yh (ZL A.b.c A.b.d) G) 1 V 0 0 0) (sg (ZP.Yb (ZF.YW g))))∘av P∘ah [true,false,false] (FH G (sg w))∘fd N (YJ.rd (Pq (XJ A.b.a (Zu.mk E (C A.c (QQ A E).toNat).a (ZL A.b.c A.b.d) (Yh (ZL A.b.c A.b.d) G) 1 V 0 0 0)).1))∘aa (YJ.rd (uv (C A.c (QQ A E).toNat)))∘bB<|bT _ f
theorem yo(A:Int):Sa 262 [rI A] [rB (yF A)]:=have f:=me (yF.eq_1 A);so func262 ntmps262∘aa (YX A 0 10000)<|rt _ f
theorem vF(A E:List Int):Sa 470 [Z 1 S A,Z 1 S E] [rB (UC A E)]:=by
 have f:=me (UC.eq_1 A E);refine so func470 ntmps470∘cQ f<|fun k1 I f=>(aG (Tu.eq_2 A E) (fun J=>Z3 26 [eL 0 1 A S,eL 1 1 E S,eI 5 (J:Int)]) (fun D J=>A.length<D+J/\J<=A.length) (A.length+1) 0)<|fun p1 J H T=>(cF H) ?_ ?_<;>intro k3 X H
 ·have N:=ix X;have m2:=ml A (k3 0 _ rfl);have K:=wr J;refine(ac P)<|?_;have i2:=ik J E;refine(xp (an N i2))<|(cF H) ?_ ?_<;>intro k5 h3 H
  ·exact rt _ (ms f H)
  exact aE K H
 exact rt _ (ms f H)
theorem qR(A E:ZS):Sa 408 [A.row,E.row] [rB (Kx A E)]:=have f:=me (Kx.eq_1 A E);so func408 ntmps408∘aj (fun gg=>vF A.a E.a)<|rt _ f
theorem Ij(A:ZY)(E:ZS):Sa 338 [A.row,E.row] [rI (Kh A E)]:=by
 have f:=me (Kh.eq_1 A E);refine so func338 ntmps338∘aG (VA.eq_2 A E) (fun J=>Z3 21 [eX 2 (A.row.map .d),eX 3 (E.row.map .d),eI 5 (J:Int)]) (fun D J=>A.a.length<D+J/\J<=A.a.length) (A.a.length+1) 0<|fun p1 J H T=>(cF H) ?_ ?_<;>intro k2 I H
 ·have N:=ix I;have m2:=ml A.a (k2 8 _ rfl);have K:=wr J;refine ac P∘xp N∘aa (qR (C A.a J) E)<|(cF H) ?_ ?_<;>intro k4 X H
  ·exact rt _ (ms f H)
  exact aE K H
 exact rt _ (ms f H)
theorem NA(A:ZY):Sa 271 [A.row] [rB (qF A)]:=by
 rw[<-sM];have f:=me (G6.eq_1 A)
 refine so func271 ntmps271∘aG (MV.eq_2 A) (fun J=>Z3 69 [eX 1 (A.row.map .d),eI 3 (J:Int)]) (fun D J=>A.a.length<D+J/\J<=A.a.length) (A.a.length+1) 0<|fun p1 J H T=>(cF H) ?_ ?_<;>intro k2 I H
 ·have N:=ix I;have m2:=ml A.a (k2 7 _ rfl);have K:=wr J;refine ac P∘xp N∘aa (Ij A (C A.a J))<|(cF H) ?_ ?_<;>intro k4 X H
  ·exact rt _ (ms f H)
  exact aE K H
 have f:=ms f H;refine(aG (Mp.eq_2 A) (fun q=>Z3 69 [eX 1 (A.row.map .d),eI 4 (q:Int)]) (fun n2 q=>A.b.length<n2+q/\q<=A.b.length) (A.b.length+1) 0)<|fun p2 q e2 j2=>(cF e2) ?_ ?_<;>intro k6 h3 e2
 ·have i2:=ix h3;have m4:=ml A.b (k6 23 _ rfl);have w2:=wr q;refine ac P∘xp i2∘aa (YX (C A.b q).d 1 (A.a.length:Int))<|(aM) ?_ ?_<;>intro B
  ·have i3:=ik (q-1) A.b;have w3:IntKind.i64.wrap ((q:Int)-1)=(q:Int)-1:=YF Y Y;refine l (an i3 w3)∘gK<|fun _=>(l i2)<|(aA e2) ?_ ?_<;>intro k8 h4 e2
   ·have q4:=h4;try simp[ZJ]at q4
    have f:=ms f e2;simp;exact(aC)<|s _ f
   ·have q4:=h4;try simp[ZJ]at q4
    simp;refine(aC)<|?_;exact aE (an w2 (an w3 B)) e2
  ·refine(aW)<|(aA e2) ?_ ?_<;>intro k9 h5 e2
   ·have r:=h5;try simp[ZJ]at r
    have f:=ms f e2;simp;exact(aC)<|s _ f
   ·have r:=h5;try simp[ZJ]at r
    simp;refine(aC)<|?_;exact aE (an w2 B) e2
 have f:=ms f e2;exact(aa (YX (A.a.length:Int) 1 12))<|rt _ f
theorem C3(A:ZU):Sa 332 [A.row] [rB (N1 A)]:=by
 have f:=me (N1.eq_1 A);refine so func332 ntmps332∘av P∘aa (YX A.b 1 999)∘aj (fun gg=>yo A.e)∘aj (fun gg=>jl A.c)∘aj (fun gg=>NA A.a)<|(aM) ?_ ?_<;>intro B
 ·have g1:=B;try simp[ZJ]at g1
  have N:0<A.a.a.length:=by have:=IK (a:=A.a);simp_all
  exact l N∘aS (fun gg=>YJ.rd (Pq A.d))∘aS (fun gg=>qR (C A.a.a 0) (Yf A.d))<|s _ f
 ·refine(aO)<|?_;simp;refine aC∘aO<|?_;simp;exact(aC)<|s _ f
theorem qx(A:ZE):Sa 255 [A.row] [rB (QC A)]:=by
 have f:=me (QC.eq_1 A);refine so func255 ntmps255∘aG (Tx.eq_2 A) (fun J=>Z3 47 [eX 1 (A.row.map .d),eI 3 (J:Int)]) (fun D J=>A.a.length<D+J/\J<=A.a.length) (A.a.length+1) 0<|fun p1 J H T=>(cF H) ?_ ?_<;>intro k2 I H
 ·have N:=ix I;have m2:=ml A.a (k2 6 _ rfl);have K:=wr J;refine ac P∘xp N∘aa (C3 (C A.a J))<|(aM) ?_ ?_<;>intro B
  ·have i2:=ik (J-1) A.a;have w2:IntKind.i64.wrap ((J:Int)-1)=(J:Int)-1:=YF Y Y;refine l (an i2 w2)∘gK<|fun _=>(l N)<|(cK H) ?_ ?_<;>intro k4 X H
   ·exact s _ (ms f H)
   ·exact aE (an K (an w2 B)) H
  ·refine(aW)<|(cK H) ?_ ?_<;>intro k5 h3 H
   ·exact s _ (ms f H)
   ·exact aE (an K B) H
 have f:=ms f H;exact(aa (YX A.b 0 99))<|rt _ f
theorem VS(A:ZE)(E:Int):Sa 191 [A.row,rI E] [rI (B A E)]:=by
 have f:=me (B.eq_1 A E);refine so func191 ntmps191∘aG (WZ.eq_2 A E) (fun J=>Z3 22 [eI 1 E,eX 2 (A.row.map .d),eI 5 (J:Int)]) (fun D J=>A.a.length<D+J/\J<=A.a.length) (A.a.length+1) 0<|fun p1 J H T=>(ae H) ?_ ?_<;>intro k2 I H
 ·have N:=ix I;have m2:=ml A.a (k2 8 _ rfl);have K:=wr J;refine(xp N)<|(cF H) ?_ ?_<;>intro k3 X H
  ·exact rt _ (ms f H)
  exact aE K H
 exact rt _ (ms f H)
theorem Rj(A:ZE)(E:ZU)(g:R 2318336 A)(w:R 2318336 E):y 161 [A.row,E.row] [(XE A E).1.row,rB (XE A E).2]:=by
 rw[<-p7];have f:=me (Da.eq_1 A E)
 refine ao func161 ntmps161∘aa (qx A)∘aj (fun gg=>VS A E.b)<|(cF f) ?_ ?_<;>intro k1 I f
 ·exact(ah [] (JG A (sg g)))<|ag _ f
 refine(bH (yr.eq_2 A E) (fun J U p=>Z3 77 [eX 2 (A.row.map .d),eX 3 (E.row.map .d),(4,.one (.Z 4 0),[.box [.d (.int .i64 0),.nil 16]]),(6,.one (.Z 6 0),[.box [.d (.int .i64 A.b),.O 6 2 0 p.length],.none,.arr true 16 (p.map ZU.row)]),eB 7 J,eI 8 (U:Int)]) (fun D J U p=>A.a.length<D+U/\U<=A.a.length/\p.length<=0+2*U) (A.a.length+1) false 0 ([]:List ZU) (h0:=aw [((6,2),none)] []))<|fun p1 J U p H T=>(cF H) ?_ ?_<;>intro k3 X H
 ·have N:=ix X;have m2:=ml A.a (k3 26 _ rfl);have c1:=sl 2318336 A.a (an g w);have K:=wr U;refine(av P)<|(aM) ?_ ?_<;>intro B
  ·refine(l N)<|(cK H) ?_ ?_<;>intro k5 h3 H
   ·try(simp[B]at h3;done)
    all_goals
     refine(be [49] P)<|?_;simp;refine bf [true,true,true,false,false] (KQ E (sg w))∘VR∘aL∘TH (aq:=p.map ZU.row) (al:=([E]:List ZU).map ZU.row) (l1:=[(6,2)]) (l2:=[(47,3),(47,4),(47,14),(47,15)]) (Q:=16)∘aL∘be [60] P∘l N∘bf [true,true,true,false,false] (KQ (C A.a U) (sg (Zh (ZE.YO g))))∘VR∘aL∘TH (aq:=(p++([E]:List ZU)).map ZU.row) (al:=([C A.a U]:List ZU).map ZU.row) (l1:=[(49,0)]) (l2:=[(58,3),(58,4),(58,14),(58,15)]) (Q:=16)∘aL<|?_;exact bh H (hw:=Ya [((6,2),some (60,0))] [] rfl bG)
   ·try(simp[B]at h3;done)
    all_goals
     refine be [60] P∘l N∘bf [true,true,true,false,false] (KQ (C A.a U) (sg (Zh (ZE.YO g))))∘VR∘aL∘TH (aq:=p.map ZU.row) (al:=([C A.a U]:List ZU).map ZU.row) (l1:=[(6,2)]) (l2:=[(58,3),(58,4),(58,14),(58,15)]) (Q:=16)∘aL<|?_;exact bh H (hw:=Ya [((6,2),some (60,0))] [] rfl bG)
  ·refine(cK H) ?_ ?_<;>intro k9 h4 H
   ·try(simp[B]at h4;done)
    all_goals
     refine(be [49] P)<|?_;simp;refine bf [true,true,true,false,false] (KQ E (sg w))∘VR∘aL∘TH (aq:=p.map ZU.row) (al:=([E]:List ZU).map ZU.row) (l1:=[(6,2)]) (l2:=[(47,3),(47,4),(47,14),(47,15)]) (Q:=16)∘aL∘be [60] P∘l N∘bf [true,true,true,false,false] (KQ (C A.a U) (sg (Zh (ZE.YO g))))∘VR∘aL∘TH (aq:=(p++([E]:List ZU)).map ZU.row) (al:=([C A.a U]:List ZU).map ZU.row) (l1:=[(49,0)]) (l2:=[(58,3),(58,4),(58,14),(58,15)]) (Q:=16)∘aL<|?_;exact bh H (hw:=Ya [((6,2),some (60,0))] [] rfl bG)
   ·try(simp[B]at h4;done)
    all_goals
     refine be [60] P∘l N∘bf [true,true,true,false,false] (KQ (C A.a U) (sg (Zh (ZE.YO g))))∘VR∘aL∘TH (aq:=p.map ZU.row) (al:=([C A.a U]:List ZU).map ZU.row) (l1:=[(6,2)]) (l2:=[(58,3),(58,4),(58,14),(58,15)]) (Q:=16)∘aL<|?_;exact bh H (hw:=Ya [((6,2),some (60,0))] [] rfl bG)
 have c2:=sl 2318336 A.a (an g w);have f:=ms f H;refine(cF f) ?_ ?_<;>intro ax h5 f
 ·refine aY fun aD=>?_;refine(be [69] P)<|?_;simp;refine ah [true,true,true,false,false] (KQ E (sg w))∘VR<|?_;simp;refine(TH (aq:=p.map ZU.row) (al:=([E]:List ZU).map ZU.row) (l1:=[(6,2)]) (l2:=[(67,3),(67,4),(67,14),(67,15)]) (Q:=16))<|?_;simp;refine(aa (qx (ZE.mk A.b (p++([E]:List ZU)))))<|(cF f) ?_ ?_<;>intro ay h6 f
  ·exact(ah [] (JG A (sg g)))<|ag _ f
  exact ag _ f
 refine(aa (qx (ZE.mk A.b p)))<|(cF f) ?_ ?_<;>intro aH h7 f
 ·exact(ah [] (JG A (sg g)))<|ag _ f
 exact ag _ f
theorem rU(A:ZF)(E G:Int)(V:ZV)(a4 a5:Int)(g:R 2314240 A)(w:R 2314240 V):y 95 [A.row,rI E,rI G,V.row,rI a4,rI a5] [(Kc A E G V a4 a5).1.row,rB (Kc A E G V a4 a5).2]:=by
 rw[<-rW];have f:=me (GN.eq_1 A E G V a4 a5)
 refine ao func95 ntmps95∘ah qW (XA A (sg g))∘aa (QA A.b.a G)∘av P∘aa (V9 A E)<|(aM) ?_ ?_<;>intro B
 ·have c1:=sl 2314240 A.a (an g w);have K:IntKind.i64.wrap ((A.a.length:Int)-1)=(A.a.length:Int)-1:=YF Y Y;have g1:=B;try simp[K,Zw,ZJ]at g1
  have N:(Zi A.b.a G).toNat<A.b.a.length:=by have:=Yy A.b.a G;exact il
  refine(l N)<|(aA f) ?_ ?_<;>intro k2 I f
  ·try(simp[B]at I;done)
   all_goals
    have q1:=I;try simp[K,Zw,ZJ]at q1
    exact(aL)<|Jq _ f
  ·try(simp[B]at I;done)
   all_goals
    have q1:=I;try simp[K,Zw,ZJ]at q1
    refine aL∘aT (Mw A G V a4 a5 (sg g) (sg w))<|(cK f) ?_ ?_<;>intro k3 X f
    ·try(simp[B]at X;done)
     all_goals
      exact Jq _ f
    ·try(simp[B]at X;done)
     all_goals
      refine(ac P)<|?_;have i2:=ik E.toNat A.a
      refine l i2∘bf [] (Rj (C A.a E.toNat) (Xq A G V a4 a5).1 dd dd)<|(c9 f) ?_ ?_<;>intro k5 h3 f
      ·try(simp[B]at h3;done)
       all_goals
        exact Jq _ f
      ·try(simp[B]at h3;done)
       all_goals
        refine l i2∘TF (t:=21) (j:=7) (i:=E.toNat) (Q:=2) (M:=A.a.map ZE.row) (ds:=(XE (C A.a E.toNat) (Xq A G V a4 a5).1).1.row) (L:=[(68,1)])<|?_;simp[Xv (x:=(XE (C A.a E.toNat) (Xq A G V a4 a5).1).1) rfl,c1,i2,ZG,YK,B];exact(aC)<|Jq _ f
 ·have c2:=sl 2314240 A.a (an g w);have w2:IntKind.i64.wrap ((A.a.length:Int)-1)=(A.a.length:Int)-1:=YF Y Y;refine(aA f) ?_ ?_<;>intro k6 h4 f
  ·try(simp[B]at h4;done)
   all_goals
    have q4:=h4;try simp[w2,Zw,ZJ]at q4
    exact(aL)<|Jq _ f
  ·try(simp[B]at h4;done)
   all_goals
    have q4:=h4;try simp[w2,Zw,ZJ]at q4
    refine aL∘aT (Mw A G V a4 a5 (sg g) (sg w))<|(cK f) ?_ ?_<;>intro c h5 f
    ·try(simp[B]at h5;done)
     all_goals
      exact Jq _ f
    ·try(simp[B]at h5;done)
     all_goals
      refine(ac P)<|?_;have i4:=ik E.toNat A.a
      refine l i4∘bf [] (Rj (C A.a E.toNat) (Xq A G V a4 a5).1 dd dd)<|(c9 f) ?_ ?_<;>intro k9 h6 f
      ·try(simp[B]at h6;done)
       all_goals
        exact Jq _ f
      ·try(simp[B]at h6;done)
       all_goals
        refine l i4∘TF (t:=21) (j:=7) (i:=E.toNat) (Q:=2) (M:=A.a.map ZE.row) (ds:=(XE (C A.a E.toNat) (Xq A G V a4 a5).1).1.row) (L:=[(68,1)])<|?_;simp[Xv (x:=(XE (C A.a E.toNat) (Xq A G V a4 a5).1).1) rfl,c2,i4,ZG,YK,B];exact(aC)<|Jq _ f
theorem SL(A:ZF)(E:Int):Sa 114 [A.row,rI E] [rI (u A E).1,rI (u A E).2]:=by
 have f:=me (u.eq_1 A E);refine so func114 ntmps114∘aG (TO.eq_2 A E) (fun J=>Z3 26 [eI 1 E,eX 2 (A.row.map .d),eI 6 (J:Int)]) (fun D J=>A.a.length<D+J/\J<=A.a.length) (A.a.length+1) 0<|fun p1 J H T=>(ae H) ?_ ?_<;>intro k2 I H
 ·have N:=ix I;have m2:=ml A.a (k2 10 _ rfl);have K:=wr J;refine xp N∘aa (VS (C A.a J) E)<|(cF H) ?_ ?_<;>intro k3 X H
  ·exact rt _ (ms f H)
  exact aE K H
 exact rt _ (ms f H)
theorem qv(A:ZS):Sa 256 [A.row] [rI (Yc A)]:=by
 rw[<-Dq];have f:=me (ND.eq_1 A)
 refine(so func256 ntmps256)<|(aM) ?_ ?_<;>intro B
 ·have N:=ik 0 A.a;refine l N∘aS (fun gg=>YX (C A.a 0) 101 105)<|(aA f) ?_ ?_<;>intro k1 I f
  ·have q1:=I;try simp[ZJ]at q1
   simp;exact(aC)<|s _ f
  ·have q1:=I;try simp[ZJ]at q1
   simp;refine aC∘ac P<|?_;have i2:=ik (W (C A.a 0-101)).toNat ([7,5,5,9,6]:List Int)
   have r1:=ZG (f:=S) i2;try simp at r1
   simp[N,ZG,r1];refine(aC)<|(c9 f) (fun k3 X f=>s _ f)<|fun k3 X f=>?_
   ·simp[N,ZG];exact(aC)<|s _ f
 ·refine(aO)<|?_;simp;refine(aC)<|(aA f) ?_ ?_<;>intro k4 h3 f
  ·have q3:=h3;try simp[ZJ]at q3
   simp;exact(aC)<|s _ f
  ·simp[B]at h3
theorem qP(A:ZS):Sa 162 [A.row] [(v A).1.row,rB (v A).2]:=by
 have f:=me (v.eq_1 A);refine so func162 ntmps162∘av P∘aa (qv A)<|(aM) ?_ ?_<;>intro B
 ·have o:=B;have g1:=B;try simp at g1
  have N:6<A.a.length:=c;refine(l N)<|(cK f) ?_ ?_<;>intro k2 I f
  ·try(simp[B]at I;done)
   all_goals
    exact s _ f
  ·try(simp[B]at I;done)
   all_goals
    refine(ac P)<|?_;have i2:1<A.a.length:=c
    have i3:2<A.a.length:=c;have i4:3<A.a.length:=c;have d:4<A.a.length:=c;have i6:5<A.a.length:=c;simp[i2,ZG,i3,i4,d,i6,N,B];exact(aC)<|s _ f
 ·have o:=B;refine(cK f) ?_ ?_<;>intro k4 X f
  ·try(simp[B]at X;done)
   all_goals
    exact s _ f
  ·try(simp[B]at X;done)
   all_goals
    refine(ac P)<|?_;have i8:1<A.a.length:=c
    have q:2<A.a.length:=c;have af:3<A.a.length:=c;have ad:4<A.a.length:=c;have r:5<A.a.length:=c;have ae:6<A.a.length:=c;simp[i8,ZG,q,af,ad,r,ae,B];exact(aC)<|s _ f
theorem W8(A:List Yv)(E:Int):Sa 163 [Z 7 Yv.row A,rI E] [rI (Zj A E)]:=by
 have f:=me (Zj.eq_1 A E);refine so func163 ntmps163∘aG (Wm.eq_2 A E) (fun J=>Z3 20 [eL 0 7 A Yv.row,eI 1 E,eI 5 (J:Int)]) (fun D J=>A.length<D+J/\J<=A.length) (A.length+1) 0<|fun p1 J H T=>(ae H) ?_ ?_<;>intro k2 I H
 ·have N:=ix I;have m2:=ml A (k2 0 _ rfl);have K:=wr J;refine(xp N)<|(cF H) ?_ ?_<;>intro k3 X H
  ·exact rt _ (ms f H)
  exact aE K H
 exact rt _ (ms f H)
theorem s9(A:O):Sa 257 [A.row] [rB (Tm A)]:=have f:=me (Tm.eq_1 A);so func257 ntmps257∘aa (YX A.a 1 999)∘aj (fun gg=>yo A.b)∘aj (fun gg=>YX A.d (-1) (W (A.b+1)))∘aj (fun gg=>YX A.e 1 99)<|rt _ f
theorem LZ(A:O):y 259 [A.row] [Z 1 S (J0 A)]:=have f:=me (J0.eq_1 A);(ao func259 ntmps259)<|ag _ f
theorem zQ(A:List YZ)(E:O)(g:R 2322432 A):Sa 164 [Z 5 YZ.row A,E.row] [(Zv A E).1.row,rB (Zv A E).2]:=by
 rw[<-LF];have f:=me (Uj.eq_1 A E)
 refine so func164 ntmps164∘aa (QA A E.e)∘aa (s9 E)∘cQ f<|fun k1 I f=>(ac P)<|?_;have N:(Zi A E.e).toNat<A.length:=by have:=Yy A E.e;exact il
 exact xp N∘aa (YJ.rd (LZ E))∘aa (T8 (C A (Zi A E.e).toNat) (J0 E) (by simp(maxDischargeDepth:=12) [Sl,ZT (m:=2326528) aq g];try omega))<|rt _ f
theorem QI(A:O):y 166 [A.row] [(Z1 A).row]:=have f:=me (Z1.eq_1 A);ao func166 ntmps166∘av P∘ah [false] (LZ A)<|ag _ f
theorem w2(A:ZY)(E:ZS)(g:R 2326528 A)(w:R 2326528 E):y 260 [A.row,E.row] [(Jb A E).1.row,rB (Jb A E).2]:=by
 have f:=me (Jb.eq_1 A E);refine ao func260 ntmps260∘ah [] (yl A (sg g))∘be [14] P<|?_;simp;refine ah [true,false] (SA E (sg w))∘VR<|?_;have c1:=sl 2326528 A.a (an g w);simp;refine(TH (aq:=A.a.map ZS.row) (al:=([E]:List ZS).map ZS.row) (l1:=[(8,0)]) (l2:=[(12,1)]) (Q:=3))<|?_;simp;refine(aa (NA (ZY.mk (A.a++([E]:List ZS)) A.b)))<|(cF f) ?_ ?_<;>intro k2 I f
 ·exact(ah [] (yl A (sg g)))<|ag _ f
 exact ag _ f
theorem Q8(A:ZE)(E:Int)(G:ZS)(g:R 2322432 A)(w:R 2322432 G):y 165 [A.row,rI E,G.row] [(YP A E G).1.row,rB (YP A E G).2]:=by
 have f:=me (YP.eq_1 A E G);refine ao func165 ntmps165∘ah [] (JG A (sg g))∘aa (VS A E)∘cQ f<|fun k1 I f=>(ac P)<|?_;have N:(B A E).toNat<A.a.length:=by have:=JM A E;exact il
 refine xp N∘cr N [] (w2 (C A.a (B A E).toNat).a G (sg (ZU.YU (Zh (ZE.YO g)))) (sg w))<|?_;refine eE (t:=13) (j:=1) (i:=(B A E).toNat) (c:=14) (Q:=16) (M:=A.a.map ZU.row) (ds:=(Jb (C A.a (B A E).toNat).a G).1.row) (L:=[(28,0),(28,1)]) rfl rfl rfl rfl ab ab (by simp;try omega) ab ab ab ab ab ab ?_;simp[Xv (x:=ZU.mk (C A.a (B A E).toNat).b (C A.a (B A E).toNat).e (C A.a (B A E).toNat).c (C A.a (B A E).toNat).d (Jb (C A.a (B A E).toNat).a G).1) rfl,N,ZG,YK];exact(bi)<|ag _ f
theorem Zg(h:b)(k:a:=by(intros;first|omega|with_unfolding_all (first|first|omega|(have l:=YA A E br;omega)|(simp only[Bool.or_eq_false_iff,decide_eq_false_iff_not]at*;omega)|(have z:=ZM B;(try simp only[]at z);omega)|(have z:=ZM B.1;(try simp only[]at z);omega)|(have z:=ZM B.2;(try simp only[]at z);omega)|(have z:=ZM B.2.1;(try simp only[]at z);omega)|(have z:=ZM B.2.2;(try simp only[]at z);omega)|(have z:=ZM B.1.2;(try simp only[]at z);omega)|(have z:=ZM B.2.2.2;(try simp only[]at z);omega))|(simp_all;done)|(simp_all;omega)|grind|exact wt)):a/\b:=⟨k,h⟩
theorem Aj(A:ZF)(E:Int)(g:R 2318336 A):y 96 [A.row,rI E] [(Jy A E).1.row,rB (Jy A E).2]:=by
 rw[<-Qe];have f:=me (M4.eq_1 A E)
 refine ao func96 ntmps96∘ah qW (XA A (sg g))∘aa (SL A E)<|(bE) ?_ ?_<;>intro B
 ·have o:=B;have g1:=B;try simp at g1
  have N:(u A E).1.toNat<A.a.length:=dp;simp[N,ZG,B];refine(q) ?_;refine(gK)<|fun _=>?_;have i2:(u A E).2.toNat<(C A.a (u A E).1.toNat).a.length:=dp;simp[i2,ZG,B];refine(q) ?_;refine(aA f) ?_ ?_<;>intro k1 I f
  ·try(simp[B]at I;done)
   all_goals
    simp[B];refine(q) ?_;exact Jq _ f
  ·try(simp[B]at I;done)
   all_goals
    have i3:1<(C (C A.a (u A E).1.toNat).a (u A E).2.toNat).a.a.length:=dp;simp[N,ZG,i2,i3,B];refine(q) ?_;refine(cR (qP (C (C (C A.a (u A E).1.toNat).a (u A E).2.toNat).a.a 1)))<|?_;simp[B];refine(q) ?_;refine(cR (W8 A.c (v (C (C (C A.a (u A E).1.toNat).a (u A E).2.toNat).a.a 1)).1.a))<|?_;simp[B];refine(q) ?_;refine(aA f) ?_ ?_<;>intro k2 X f
    ·try(simp[B]at X;done)
     all_goals
      simp[B];refine(q) ?_;exact Jq _ f
    ·try(simp[B]at X;done)
     all_goals
      simp[B];refine(q) ?_;refine(ac P)<|?_;have i4:(Zj A.c (v (C (C (C A.a (u A E).1.toNat).a (u A E).2.toNat).a.a 1)).1.a).toNat<A.c.length:=ex
      simp[i4,ZG,B];refine(q) ?_;refine(cR (QA A.b.a (C A.c (Zj A.c (v (C (C (C A.a (u A E).1.toNat).a (u A E).2.toNat).a.a 1)).1.a).toNat).e))<|?_;simp[B];refine(q) ?_;refine(ac P)<|?_;simp[i4,ZG,B];refine(q) ?_;refine(ac P)<|?_;have d:(Zj A.c (v (C (C (C A.a (u A E).1.toNat).a (u A E).2.toNat).a.a 1)).1.a).toNat<A.d.length:=ex
      simp[d,ZG,B];refine(q) ?_;refine(aA f) ?_ ?_<;>intro k6 h3 f
      ·try(simp[B]at h3;done)
       all_goals
        simp[d,ZG,B];refine(q) ?_;refine(cR (zQ A.b.a (O.mk (v (C (C (C A.a (u A E).1.toNat).a (u A E).2.toNat).a.a 1)).1.a A.b.d (C A.d (Zj A.c (v (C (C (C A.a (u A E).1.toNat).a (u A E).2.toNat).a.a 1)).1.a).toNat) (C A.c (Zj A.c (v (C (C (C A.a (u A E).1.toNat).a (u A E).2.toNat).a.a 1)).1.a).toNat).e 0) (sg (ZP.Yb (ZF.YW g)))))<|?_;simp[B];refine(q) ?_;refine(ac P)<|?_;simp[B];refine(q) ?_;refine(dz B) ?_ ?_<;>intro B
        ·have n:=B.2;try(simp at B;done)
         all_goals
          have V:=B.2;try simp at V
          all_goals
           have i6:(Zi A.b.a (C A.c (Zj A.c (v (C (C (C A.a (u A E).1.toNat).a (u A E).2.toNat).a.a 1)).1.a).toNat).e).toNat<A.b.a.length:=eN;simp[i6,ZG,B];refine(q) ?_;refine(aA f) ?_ ?_<;>intro k8 h4 f
           ·try(simp[B]at h4;done)
            all_goals
             simp[B];refine(q) ?_;exact Jq _ f
           ·try(simp[B]at h4;done)
            all_goals
             simp[B];refine(q) ?_;refine(ac P)<|?_;simp[N,ZG,B];refine(q) ?_;refine(cR (YJ.rd (QI (Zv A.b.a (O.mk (v (C (C (C A.a (u A E).1.toNat).a (u A E).2.toNat).a.a 1)).1.a A.b.d (C A.d (Zj A.c (v (C (C (C A.a (u A E).1.toNat).a (u A E).2.toNat).a.a 1)).1.a).toNat) (C A.c (Zj A.c (v (C (C (C A.a (u A E).1.toNat).a (u A E).2.toNat).a.a 1)).1.a).toNat).e 0)).1)))<|?_;simp[B];refine(q) ?_;refine(cD [] (Q8 (C A.a (u A E).1.toNat) E (Z1 (Zv A.b.a (O.mk (v (C (C (C A.a (u A E).1.toNat).a (u A E).2.toNat).a.a 1)).1.a A.b.d (C A.d (Zj A.c (v (C (C (C A.a (u A E).1.toNat).a (u A E).2.toNat).a.a 1)).1.a).toNat) (C A.c (Zj A.c (v (C (C (C A.a (u A E).1.toNat).a (u A E).2.toNat).a.a 1)).1.a).toNat).e 0)).1) (sg (Zh (ZF.Zz g))) b0))<|?_;simp[N,ZG,B];refine(q) ?_;refine(TF (t:=18) (j:=7) (i:=(u A E).1.toNat) (Q:=2) (M:=A.a.map ZE.row) (ds:=(YP (C A.a (u A E).1.toNat) E (Z1 (Zv A.b.a (O.mk (v (C (C (C A.a (u A E).1.toNat).a (u A E).2.toNat).a.a 1)).1.a A.b.d (C A.d (Zj A.c (v (C (C (C A.a (u A E).1.toNat).a (u A E).2.toNat).a.a 1)).1.a).toNat) (C A.c (Zj A.c (v (C (C (C A.a (u A E).1.toNat).a (u A E).2.toNat).a.a 1)).1.a).toNat).e 0)).1)).1.row) (L:=[(150,1)]))<|?_;simp[Xv (x:=(YP (C A.a (u A E).1.toNat) E (Z1 (Zv A.b.a (O.mk (v (C (C (C A.a (u A E).1.toNat).a (u A E).2.toNat).a.a 1)).1.a A.b.d (C A.d (Zj A.c (v (C (C (C A.a (u A E).1.toNat).a (u A E).2.toNat).a.a 1)).1.a).toNat) (C A.c (Zj A.c (v (C (C (C A.a (u A E).1.toNat).a (u A E).2.toNat).a.a 1)).1.a).toNat).e 0)).1)).1) rfl,N,ZG,YK,B];refine(q) ?_;exact Jq _ f
        ·have n:=B.2;try(simp at B;done)
         all_goals
          simp[B];refine(q) ?_;refine(aA f) ?_ ?_<;>intro al h5 f
          ·try(simp[B]at h5;done)
           all_goals
            simp[B];refine(q) ?_;exact Jq _ f
          ·try(simp[B]at h5;done)
           all_goals
            simp[B];refine(q) ?_;refine(ac P)<|?_;simp[N,ZG,B];refine(q) ?_;refine(cR (YJ.rd (QI (Zv A.b.a (O.mk (v (C (C (C A.a (u A E).1.toNat).a (u A E).2.toNat).a.a 1)).1.a A.b.d (C A.d (Zj A.c (v (C (C (C A.a (u A E).1.toNat).a (u A E).2.toNat).a.a 1)).1.a).toNat) (C A.c (Zj A.c (v (C (C (C A.a (u A E).1.toNat).a (u A E).2.toNat).a.a 1)).1.a).toNat).e 0)).1)))<|?_;simp[B];refine(q) ?_;refine(cD [] (Q8 (C A.a (u A E).1.toNat) E (Z1 (Zv A.b.a (O.mk (v (C (C (C A.a (u A E).1.toNat).a (u A E).2.toNat).a.a 1)).1.a A.b.d (C A.d (Zj A.c (v (C (C (C A.a (u A E).1.toNat).a (u A E).2.toNat).a.a 1)).1.a).toNat) (C A.c (Zj A.c (v (C (C (C A.a (u A E).1.toNat).a (u A E).2.toNat).a.a 1)).1.a).toNat).e 0)).1) (sg (Zh (ZF.Zz g))) b0))<|?_;simp[N,ZG,B];refine(q) ?_;refine(TF (t:=18) (j:=7) (i:=(u A E).1.toNat) (Q:=2) (M:=A.a.map ZE.row) (ds:=(YP (C A.a (u A E).1.toNat) E (Z1 (Zv A.b.a (O.mk (v (C (C (C A.a (u A E).1.toNat).a (u A E).2.toNat).a.a 1)).1.a A.b.d (C A.d (Zj A.c (v (C (C (C A.a (u A E).1.toNat).a (u A E).2.toNat).a.a 1)).1.a).toNat) (C A.c (Zj A.c (v (C (C (C A.a (u A E).1.toNat).a (u A E).2.toNat).a.a 1)).1.a).toNat).e 0)).1)).1.row) (L:=[(150,1)]))<|?_;simp[Xv (x:=(YP (C A.a (u A E).1.toNat) E (Z1 (Zv A.b.a (O.mk (v (C (C (C A.a (u A E).1.toNat).a (u A E).2.toNat).a.a 1)).1.a A.b.d (C A.d (Zj A.c (v (C (C (C A.a (u A E).1.toNat).a (u A E).2.toNat).a.a 1)).1.a).toNat) (C A.c (Zj A.c (v (C (C (C A.a (u A E).1.toNat).a (u A E).2.toNat).a.a 1)).1.a).toNat).e 0)).1)).1) rfl,N,ZG,YK,B];refine(q) ?_;exact Jq _ f
      ·try(simp[B]at h3;done)
       all_goals
        simp[B];refine(q) ?_;refine(cR (zQ A.b.a (O.mk (v (C (C (C A.a (u A E).1.toNat).a (u A E).2.toNat).a.a 1)).1.a A.b.d (-1) (C A.c (Zj A.c (v (C (C (C A.a (u A E).1.toNat).a (u A E).2.toNat).a.a 1)).1.a).toNat).e 0) (sg (ZP.Yb (ZF.YW g)))))<|?_;simp[B];refine(q) ?_;refine(ac P)<|?_;simp[B];refine(q) ?_;refine(dz B) ?_ ?_<;>intro B
        ·have s:=B.2;try(simp at B;done)
         all_goals
          have p:=B.2;try simp at p
          all_goals
           have i8:(Zi A.b.a (C A.c (Zj A.c (v (C (C (C A.a (u A E).1.toNat).a (u A E).2.toNat).a.a 1)).1.a).toNat).e).toNat<A.b.a.length:=eN;simp[i8,ZG,B];refine(q) ?_;refine(aA f) ?_ ?_<;>intro ax h6 f
           ·try(simp[B]at h6;done)
            all_goals
             simp[B];refine(q) ?_;exact Jq _ f
           ·try(simp[B]at h6;done)
            all_goals
             simp[B];refine(q) ?_;refine(ac P)<|?_;simp[N,ZG,B];refine(q) ?_;refine(cR (YJ.rd (QI (Zv A.b.a (O.mk (v (C (C (C A.a (u A E).1.toNat).a (u A E).2.toNat).a.a 1)).1.a A.b.d (-1) (C A.c (Zj A.c (v (C (C (C A.a (u A E).1.toNat).a (u A E).2.toNat).a.a 1)).1.a).toNat).e 0)).1)))<|?_;simp[B];refine(q) ?_;refine(cD [] (Q8 (C A.a (u A E).1.toNat) E (Z1 (Zv A.b.a (O.mk (v (C (C (C A.a (u A E).1.toNat).a (u A E).2.toNat).a.a 1)).1.a A.b.d (-1) (C A.c (Zj A.c (v (C (C (C A.a (u A E).1.toNat).a (u A E).2.toNat).a.a 1)).1.a).toNat).e 0)).1) (sg (Zh (ZF.Zz g))) b0))<|?_;simp[N,ZG,B];refine(q) ?_;refine(TF (t:=18) (j:=7) (i:=(u A E).1.toNat) (Q:=2) (M:=A.a.map ZE.row) (ds:=(YP (C A.a (u A E).1.toNat) E (Z1 (Zv A.b.a (O.mk (v (C (C (C A.a (u A E).1.toNat).a (u A E).2.toNat).a.a 1)).1.a A.b.d (-1) (C A.c (Zj A.c (v (C (C (C A.a (u A E).1.toNat).a (u A E).2.toNat).a.a 1)).1.a).toNat).e 0)).1)).1.row) (L:=[(150,1)]))<|?_;simp[Xv (x:=(YP (C A.a (u A E).1.toNat) E (Z1 (Zv A.b.a (O.mk (v (C (C (C A.a (u A E).1.toNat).a (u A E).2.toNat).a.a 1)).1.a A.b.d (-1) (C A.c (Zj A.c (v (C (C (C A.a (u A E).1.toNat).a (u A E).2.toNat).a.a 1)).1.a).toNat).e 0)).1)).1) rfl,N,ZG,YK,B];refine(q) ?_;exact Jq _ f
        ·have s:=B.2;try(simp at B;done)
         all_goals
          simp[B];refine(q) ?_;refine(aA f) ?_ ?_<;>intro ay h7 f
          ·try(simp[B]at h7;done)
           all_goals
            simp[B];refine(q) ?_;exact Jq _ f
          ·try(simp[B]at h7;done)
           all_goals
            simp[B];refine(q) ?_;refine(ac P)<|?_;simp[N,ZG,B];refine(q) ?_;refine(cR (YJ.rd (QI (Zv A.b.a (O.mk (v (C (C (C A.a (u A E).1.toNat).a (u A E).2.toNat).a.a 1)).1.a A.b.d (-1) (C A.c (Zj A.c (v (C (C (C A.a (u A E).1.toNat).a (u A E).2.toNat).a.a 1)).1.a).toNat).e 0)).1)))<|?_;simp[B];refine(q) ?_;refine(cD [] (Q8 (C A.a (u A E).1.toNat) E (Z1 (Zv A.b.a (O.mk (v (C (C (C A.a (u A E).1.toNat).a (u A E).2.toNat).a.a 1)).1.a A.b.d (-1) (C A.c (Zj A.c (v (C (C (C A.a (u A E).1.toNat).a (u A E).2.toNat).a.a 1)).1.a).toNat).e 0)).1) (sg (Zh (ZF.Zz g))) b0))<|?_;simp[N,ZG,B];refine(q) ?_;refine(TF (t:=18) (j:=7) (i:=(u A E).1.toNat) (Q:=2) (M:=A.a.map ZE.row) (ds:=(YP (C A.a (u A E).1.toNat) E (Z1 (Zv A.b.a (O.mk (v (C (C (C A.a (u A E).1.toNat).a (u A E).2.toNat).a.a 1)).1.a A.b.d (-1) (C A.c (Zj A.c (v (C (C (C A.a (u A E).1.toNat).a (u A E).2.toNat).a.a 1)).1.a).toNat).e 0)).1)).1.row) (L:=[(150,1)]))<|?_;simp[Xv (x:=(YP (C A.a (u A E).1.toNat) E (Z1 (Zv A.b.a (O.mk (v (C (C (C A.a (u A E).1.toNat).a (u A E).2.toNat).a.a 1)).1.a A.b.d (-1) (C A.c (Zj A.c (v (C (C (C A.a (u A E).1.toNat).a (u A E).2.toNat).a.a 1)).1.a).toNat).e 0)).1)).1) rfl,N,ZG,YK,B];refine(q) ?_;exact Jq _ f
 ·have o:=B;simp[B];refine(q) ?_;refine(aO)<|?_;simp[B];refine(q) ?_;refine(aA f) ?_ ?_<;>intro aC h8 f
  ·try(simp[B]at h8;done)
   all_goals
    simp[B];refine(q) ?_;exact Jq _ f
  ·try(simp[B]at h8;done)
   all_goals
    have r:(u A E).1.toNat<A.a.length:=dp;have ae:(u A E).2.toNat<(C A.a (u A E).1.toNat).a.length:=dp;have w:1<(C (C A.a (u A E).1.toNat).a (u A E).2.toNat).a.a.length:=dp;simp[r,ZG,ae,w,B];refine(q) ?_;refine(cR (qP (C (C (C A.a (u A E).1.toNat).a (u A E).2.toNat).a.a 1)))<|?_;simp[B];refine(q) ?_;refine(cR (W8 A.c (v (C (C (C A.a (u A E).1.toNat).a (u A E).2.toNat).a.a 1)).1.a))<|?_;simp[B];refine(q) ?_;refine(aA f) ?_ ?_<;>intro aE h9 f
    ·try(simp[B]at h9;done)
     all_goals
      simp[B];refine(q) ?_;exact Jq _ f
    ·try(simp[B]at h9;done)
     all_goals
      simp[B];refine(q) ?_;refine(ac P)<|?_;have b:(Zj A.c (v (C (C (C A.a (u A E).1.toNat).a (u A E).2.toNat).a.a 1)).1.a).toNat<A.c.length:=ex
      simp[b,ZG,B];refine(q) ?_;refine(cR (QA A.b.a (C A.c (Zj A.c (v (C (C (C A.a (u A E).1.toNat).a (u A E).2.toNat).a.a 1)).1.a).toNat).e))<|?_;simp[B];refine(q) ?_;refine(ac P)<|?_;simp[b,ZG,B];refine(q) ?_;refine(ac P)<|?_;have a:(Zj A.c (v (C (C (C A.a (u A E).1.toNat).a (u A E).2.toNat).a.a 1)).1.a).toNat<A.d.length:=ex
      simp[a,ZG,B];refine(q) ?_;refine(aA f) ?_ ?_<;>intro aq ak f
      ·try(simp[B]at ak;done)
       all_goals
        simp[a,ZG,B];refine(q) ?_;refine(cR (zQ A.b.a (O.mk (v (C (C (C A.a (u A E).1.toNat).a (u A E).2.toNat).a.a 1)).1.a A.b.d (C A.d (Zj A.c (v (C (C (C A.a (u A E).1.toNat).a (u A E).2.toNat).a.a 1)).1.a).toNat) (C A.c (Zj A.c (v (C (C (C A.a (u A E).1.toNat).a (u A E).2.toNat).a.a 1)).1.a).toNat).e 0) (sg (ZP.Yb (ZF.YW g)))))<|?_;simp[B];refine(q) ?_;refine(ac P)<|?_;simp[B];refine(q) ?_;refine(dz B) ?_ ?_<;>intro B
        ·have c:=B.2;try(simp at B;done)
         all_goals
          have F:=B.2;try simp at F
          all_goals
           have e:(Zi A.b.a (C A.c (Zj A.c (v (C (C (C A.a (u A E).1.toNat).a (u A E).2.toNat).a.a 1)).1.a).toNat).e).toNat<A.b.a.length:=eN;simp[e,ZG,B];refine(q) ?_;refine(aA f) ?_ ?_<;>intro aN am f
           ·try(simp[B]at am;done)
            all_goals
             simp[B];refine(q) ?_;exact Jq _ f
           ·try(simp[B]at am;done)
            all_goals
             simp[B];refine(q) ?_;refine(ac P)<|?_;simp[r,ZG,B];refine(q) ?_;refine(cR (YJ.rd (QI (Zv A.b.a (O.mk (v (C (C (C A.a (u A E).1.toNat).a (u A E).2.toNat).a.a 1)).1.a A.b.d (C A.d (Zj A.c (v (C (C (C A.a (u A E).1.toNat).a (u A E).2.toNat).a.a 1)).1.a).toNat) (C A.c (Zj A.c (v (C (C (C A.a (u A E).1.toNat).a (u A E).2.toNat).a.a 1)).1.a).toNat).e 0)).1)))<|?_;simp[B];refine(q) ?_;refine(cD [] (Q8 (C A.a (u A E).1.toNat) E (Z1 (Zv A.b.a (O.mk (v (C (C (C A.a (u A E).1.toNat).a (u A E).2.toNat).a.a 1)).1.a A.b.d (C A.d (Zj A.c (v (C (C (C A.a (u A E).1.toNat).a (u A E).2.toNat).a.a 1)).1.a).toNat) (C A.c (Zj A.c (v (C (C (C A.a (u A E).1.toNat).a (u A E).2.toNat).a.a 1)).1.a).toNat).e 0)).1) (sg (Zh (ZF.Zz g))) b0))<|?_;simp[r,ZG,B];refine(q) ?_;refine(TF (t:=18) (j:=7) (i:=(u A E).1.toNat) (Q:=2) (M:=A.a.map ZE.row) (ds:=(YP (C A.a (u A E).1.toNat) E (Z1 (Zv A.b.a (O.mk (v (C (C (C A.a (u A E).1.toNat).a (u A E).2.toNat).a.a 1)).1.a A.b.d (C A.d (Zj A.c (v (C (C (C A.a (u A E).1.toNat).a (u A E).2.toNat).a.a 1)).1.a).toNat) (C A.c (Zj A.c (v (C (C (C A.a (u A E).1.toNat).a (u A E).2.toNat).a.a 1)).1.a).toNat).e 0)).1)).1.row) (L:=[(150,1)]))<|?_;simp[Xv (x:=(YP (C A.a (u A E).1.toNat) E (Z1 (Zv A.b.a (O.mk (v (C (C (C A.a (u A E).1.toNat).a (u A E).2.toNat).a.a 1)).1.a A.b.d (C A.d (Zj A.c (v (C (C (C A.a (u A E).1.toNat).a (u A E).2.toNat).a.a 1)).1.a).toNat) (C A.c (Zj A.c (v (C (C (C A.a (u A E).1.toNat).a (u A E).2.toNat).a.a 1)).1.a).toNat).e 0)).1)).1) rfl,r,ZG,YK,B];refine(q) ?_;exact Jq _ f
        ·have c:=B.2;try(simp at B;done)
         all_goals
          simp[B];refine(q) ?_;refine(aA f) ?_ ?_<;>intro Y az f
          ·try(simp[B]at az;done)
           all_goals
            simp[B];refine(q) ?_;exact Jq _ f
          ·try(simp[B]at az;done)
           all_goals
            simp[B];refine(q) ?_;refine(ac P)<|?_;simp[r,ZG,B];refine(q) ?_;refine(cR (YJ.rd (QI (Zv A.b.a (O.mk (v (C (C (C A.a (u A E).1.toNat).a (u A E).2.toNat).a.a 1)).1.a A.b.d (C A.d (Zj A.c (v (C (C (C A.a (u A E).1.toNat).a (u A E).2.toNat).a.a 1)).1.a).toNat) (C A.c (Zj A.c (v (C (C (C A.a (u A E).1.toNat).a (u A E).2.toNat).a.a 1)).1.a).toNat).e 0)).1)))<|?_;simp[B];refine(q) ?_;refine(cD [] (Q8 (C A.a (u A E).1.toNat) E (Z1 (Zv A.b.a (O.mk (v (C (C (C A.a (u A E).1.toNat).a (u A E).2.toNat).a.a 1)).1.a A.b.d (C A.d (Zj A.c (v (C (C (C A.a (u A E).1.toNat).a (u A E).2.toNat).a.a 1)).1.a).toNat) (C A.c (Zj A.c (v (C (C (C A.a (u A E).1.toNat).a (u A E).2.toNat).a.a 1)).1.a).toNat).e 0)).1) (sg (Zh (ZF.Zz g))) b0))<|?_;simp[r,ZG,B];refine(q) ?_;refine(TF (t:=18) (j:=7) (i:=(u A E).1.toNat) (Q:=2) (M:=A.a.map ZE.row) (ds:=(YP (C A.a (u A E).1.toNat) E (Z1 (Zv A.b.a (O.mk (v (C (C (C A.a (u A E).1.toNat).a (u A E).2.toNat).a.a 1)).1.a A.b.d (C A.d (Zj A.c (v (C (C (C A.a (u A E).1.toNat).a (u A E).2.toNat).a.a 1)).1.a).toNat) (C A.c (Zj A.c (v (C (C (C A.a (u A E).1.toNat).a (u A E).2.toNat).a.a 1)).1.a).toNat).e 0)).1)).1.row) (L:=[(150,1)]))<|?_;simp[Xv (x:=(YP (C A.a (u A E).1.toNat) E (Z1 (Zv A.b.a (O.mk (v (C (C (C A.a (u A E).1.toNat).a (u A E).2.toNat).a.a 1)).1.a A.b.d (C A.d (Zj A.c (v (C (C (C A.a (u A E).1.toNat).a (u A E).2.toNat).a.a 1)).1.a).toNat) (C A.c (Zj A.c (v (C (C (C A.a (u A E).1.toNat).a (u A E).2.toNat).a.a 1)).1.a).toNat).e 0)).1)).1) rfl,r,ZG,YK,B];refine(q) ?_;exact Jq _ f
      ·try(simp[B]at ak;done)
       all_goals
        simp[B];refine(q) ?_;refine(cR (zQ A.b.a (O.mk (v (C (C (C A.a (u A E).1.toNat).a (u A E).2.toNat).a.a 1)).1.a A.b.d (-1) (C A.c (Zj A.c (v (C (C (C A.a (u A E).1.toNat).a (u A E).2.toNat).a.a 1)).1.a).toNat).e 0) (sg (ZP.Yb (ZF.YW g)))))<|?_;simp[B];refine(q) ?_;refine(ac P)<|?_;simp[B];refine(q) ?_;refine(dz B) ?_ ?_<;>intro B
        ·have D:=B.2;try(simp at B;done)
         all_goals
          have G:=B.2;try simp at G
          all_goals
           have H:(Zi A.b.a (C A.c (Zj A.c (v (C (C (C A.a (u A E).1.toNat).a (u A E).2.toNat).a.a 1)).1.a).toNat).e).toNat<A.b.a.length:=eN;simp[H,ZG,B];refine(q) ?_;refine(aA f) ?_ ?_<;>intro ag au f
           ·try(simp[B]at au;done)
            all_goals
             simp[B];refine(q) ?_;exact Jq _ f
           ·try(simp[B]at au;done)
            all_goals
             simp[B];refine(q) ?_;refine(ac P)<|?_;simp[r,ZG,B];refine(q) ?_;refine(cR (YJ.rd (QI (Zv A.b.a (O.mk (v (C (C (C A.a (u A E).1.toNat).a (u A E).2.toNat).a.a 1)).1.a A.b.d (-1) (C A.c (Zj A.c (v (C (C (C A.a (u A E).1.toNat).a (u A E).2.toNat).a.a 1)).1.a).toNat).e 0)).1)))<|?_;simp[B];refine(q) ?_;refine(cD [] (Q8 (C A.a (u A E).1.toNat) E (Z1 (Zv A.b.a (O.mk (v (C (C (C A.a (u A E).1.toNat).a (u A E).2.toNat).a.a 1)).1.a A.b.d (-1) (C A.c (Zj A.c (v (C (C (C A.a (u A E).1.toNat).a (u A E).2.toNat).a.a 1)).1.a).toNat).e 0)).1) (sg (Zh (ZF.Zz g))) b0))<|?_;simp[r,ZG,B];refine(q) ?_;refine(TF (t:=18) (j:=7) (i:=(u A E).1.toNat) (Q:=2) (M:=A.a.map ZE.row) (ds:=(YP (C A.a (u A E).1.toNat) E (Z1 (Zv A.b.a (O.mk (v (C (C (C A.a (u A E).1.toNat).a (u A E).2.toNat).a.a 1)).1.a A.b.d (-1) (C A.c (Zj A.c (v (C (C (C A.a (u A E).1.toNat).a (u A E).2.toNat).a.a 1)).1.a).toNat).e 0)).1)).1.row) (L:=[(150,1)]))<|?_;simp[Xv (x:=(YP (C A.a (u A E).1.toNat) E (Z1 (Zv A.b.a (O.mk (v (C (C (C A.a (u A E).1.toNat).a (u A E).2.toNat).a.a 1)).1.a A.b.d (-1) (C A.c (Zj A.c (v (C (C (C A.a (u A E).1.toNat).a (u A E).2.toNat).a.a 1)).1.a).toNat).e 0)).1)).1) rfl,r,ZG,YK,B];refine(q) ?_;exact Jq _ f
        ·have D:=B.2;try(simp at B;done)
         all_goals
          simp[B];refine(q) ?_;refine(aA f) ?_ ?_<;>intro Z ap f
          ·try(simp[B]at ap;done)
           all_goals
            simp[B];refine(q) ?_;exact Jq _ f
          ·try(simp[B]at ap;done)
           all_goals
            simp[B];refine(q) ?_;refine(ac P)<|?_;simp[r,ZG,B];refine(q) ?_;refine(cR (YJ.rd (QI (Zv A.b.a (O.mk (v (C (C (C A.a (u A E).1.toNat).a (u A E).2.toNat).a.a 1)).1.a A.b.d (-1) (C A.c (Zj A.c (v (C (C (C A.a (u A E).1.toNat).a (u A E).2.toNat).a.a 1)).1.a).toNat).e 0)).1)))<|?_;simp[B];refine(q) ?_;refine(cD [] (Q8 (C A.a (u A E).1.toNat) E (Z1 (Zv A.b.a (O.mk (v (C (C (C A.a (u A E).1.toNat).a (u A E).2.toNat).a.a 1)).1.a A.b.d (-1) (C A.c (Zj A.c (v (C (C (C A.a (u A E).1.toNat).a (u A E).2.toNat).a.a 1)).1.a).toNat).e 0)).1) (sg (Zh (ZF.Zz g))) b0))<|?_;simp[r,ZG,B];refine(q) ?_;refine(TF (t:=18) (j:=7) (i:=(u A E).1.toNat) (Q:=2) (M:=A.a.map ZE.row) (ds:=(YP (C A.a (u A E).1.toNat) E (Z1 (Zv A.b.a (O.mk (v (C (C (C A.a (u A E).1.toNat).a (u A E).2.toNat).a.a 1)).1.a A.b.d (-1) (C A.c (Zj A.c (v (C (C (C A.a (u A E).1.toNat).a (u A E).2.toNat).a.a 1)).1.a).toNat).e 0)).1)).1.row) (L:=[(150,1)]))<|?_;simp[Xv (x:=(YP (C A.a (u A E).1.toNat) E (Z1 (Zv A.b.a (O.mk (v (C (C (C A.a (u A E).1.toNat).a (u A E).2.toNat).a.a 1)).1.a A.b.d (-1) (C A.c (Zj A.c (v (C (C (C A.a (u A E).1.toNat).a (u A E).2.toNat).a.a 1)).1.a).toNat).e 0)).1)).1) rfl,r,ZG,YK,B];refine(q) ?_;exact Jq _ f
theorem Bi(A:ZF)(E:Int)(g:R 2318336 A):y 97 [A.row,rI E] [(J3 A E).1.row,rB (J3 A E).2]:=by
 have f:=me (J3.eq_1 A E);refine ao func97 ntmps97∘ah qW (XA A (sg g))∘aa (YX E 0 (W ((A.d.length:Int)-1)))<|(aM) ?_ ?_<;>intro B
 ·have c1:=sl 2318336 A.d g;have K:IntKind.i64.wrap ((A.d.length:Int)-1)=(A.d.length:Int)-1:=YF Y Y;have g1:=B;try simp[ZJ,K]at g1
  have N:=ik E.toNat A.d;refine(l N)<|(aA f) ?_ ?_<;>intro k1 I f
  ·try(simp[B]at I;done)
   all_goals
    have q1:=I;try simp[ZJ,K]at q1
    exact(aL)<|Jq _ f
  ·try(simp[B]at I;done)
   all_goals
    have q1:=I;try simp[ZJ,K]at q1
    simp[N,ZG,Xv (x:=W (A.b.d+1)) rfl,B];refine(aC)<|?_;refine Hg (rv:=[.cell 4 41,.tmp 5]) rfl ?_;simp[f.h,B];all_goals(repeat' (first|exact MI ab ab|refine And.intro ?_ ?_))
 ·have c2:=sl 2318336 A.d g;have w2:IntKind.i64.wrap ((A.d.length:Int)-1)=(A.d.length:Int)-1:=YF Y Y;refine(aA f) ?_ ?_<;>intro k2 X f
  ·try(simp[B]at X;done)
   all_goals
    have q2:=X;try simp[ZJ,w2]at q2
    exact(aL)<|Jq _ f
  ·try(simp[B]at X;done)
   all_goals
    have q2:=X;try simp[ZJ,w2]at q2
    have i3:=ik E.toNat A.d;simp[i3,ZG,Xv (x:=W (A.b.d+1)) rfl,B];refine(aC)<|?_;refine Hg (rv:=[.cell 4 41,.tmp 5]) rfl ?_;simp[f.h,B];all_goals(repeat' (first|exact MI ab ab|refine And.intro ?_ ?_))
theorem Ka(A:List ZX)(E:Int):Sa 170 [Z 3 ZX.row A,rI E] [rI (ZN A E)]:=by
 have f:=me (ZN.eq_1 A E);refine so func170 ntmps170∘aG (yN.eq_2 A E) (fun J=>Z3 20 [eL 0 3 A ZX.row,eI 1 E,eI 5 (J:Int)]) (fun D J=>A.length<D+J/\J<=A.length) (A.length+1) 0<|fun p1 J H T=>(ae H) ?_ ?_<;>intro k2 I H
 ·have N:=ix I;have m2:=ml A (k2 0 _ rfl);have K:=wr J;refine(xp N)<|(cF H) ?_ ?_<;>intro k3 X H
  ·exact rt _ (ms f H)
  exact aE K H
 exact rt _ (ms f H)
theorem ps(A:ZF)(E:List Int):Sa 168 [A.row,Z 1 S E] [rB (qm A E)]:=by
 have f:=me (qm.eq_1 A E);refine so func168 ntmps168∘aG (Vo.eq_2 A E) (fun J=>Z3 76 [eL 1 1 E S,eX 2 (A.row.map .d),eI 5 (J:Int)]) (fun D J=>E.length<D+J/\J<=E.length) (E.length+1) 0<|fun p1 J H T=>(cF H) ?_ ?_<;>intro k2 I H
 ·have N:=ix I;have m2:=ml E (k2 1 _ rfl);have K:=wr J;refine ac P∘xp N∘aa (Ka A.b.b (C E J))∘av P<|(aM) ?_ ?_<;>intro B
  ·have i2:=ik (J-1) E;have w2:IntKind.i64.wrap ((J:Int)-1)=(J:Int)-1:=YF Y Y;refine l (an i2 w2)∘gK<|fun _=>(l N)<|(cK H) ?_ ?_<;>intro k5 X H
   ·exact s _ (ms f H)
   ·refine(ac P)<|?_;have i3:(ZN A.b.b (C E J)).toNat<A.b.b.length:=by have:=Ym A.b.b (C E J);exact il
    simp[i3,ZG];refine aC∘aT (QA A.b.a (C A.b.b (ZN A.b.b (C E J)).toNat).c)∘ca P<|(aI B) ?_ ?_<;>intro B
    ·all_goals
      have i4:(Zi A.b.a (C A.b.b (ZN A.b.b (C E J)).toNat).c).toNat<A.b.a.length:=hw;refine(l i4)<|(cK H) ?_ ?_<;>intro k8 h3 H
      ·exact s _ (ms f H)
      ·exact aE (an K (an w2 B)) H
    ·all_goals
      refine(cK H) ?_ ?_<;>intro k9 h4 H
      ·exact s _ (ms f H)
      ·simp[B]at h4
  ·refine(aW)<|(cK H) ?_ ?_<;>intro al h5 H
   ·exact s _ (ms f H)
   ·refine(ac P)<|?_;have i7:(ZN A.b.b (C E J)).toNat<A.b.b.length:=by have:=Ym A.b.b (C E J);exact il
    simp[i7,ZG];refine aC∘aT (QA A.b.a (C A.b.b (ZN A.b.b (C E J)).toNat).c)∘ca P<|(aI B) ?_ ?_<;>intro B
    ·all_goals
      have i8:(Zi A.b.a (C A.b.b (ZN A.b.b (C E J)).toNat).c).toNat<A.b.a.length:=hw;refine(l i8)<|(cK H) ?_ ?_<;>intro ax h6 H
      ·exact s _ (ms f H)
      ·exact aE (an K B) H
    ·all_goals
      refine(cK H) ?_ ?_<;>intro aD h7 H
      ·exact s _ (ms f H)
      ·simp[B]at h7
 exact rt _ (ms f H)
theorem LJ(A:ZY)(E:ZV)(g:R 2318336 A)(w:R 2318336 E):y 270 [A.row,E.row] [Z 1 S (JP A E)]:=by
 have f:=me (JP.eq_1 A E);refine ao func270 ntmps270∘ap (y5.eq_2 A E) (fun J U=>Z3 27 [eX 2 (A.row.map .d),eX 3 (E.row.map .d),(5,.one (.O 5 0 0 J.length),[.arr false 1 (J.map S)]),eI 6 (U:Int)]) (fun D J U=>A.b.length<D+U/\U<=A.b.length/\J.length<=0+1*U) (A.b.length+1) ([]:List Int) 0 (h0:=aw [((5,0),some (7,0))] [])<|fun p1 J U H T=>(cF H) ?_ ?_<;>intro k2 I H
 ·have N:=ix I;have m2:=ml A.b (k2 10 _ rfl);have c1:=sl 2318336 A.b (an g w);have K:=wr U;refine ac P∘xp N∘aa (U3 (C A.b U).b E (sg w))<|?_;exact ay H (hw:=Ya [((5,0),some (25,0))] [] rfl ad)
 exact ag _ (ms f H)
theorem Pf(A:ZW):y 263 [A.row] [Z 1 S (Jd A)]:=have f:=me (Jd.eq_1 A);(ao func263 ntmps263)<|ag _ f
theorem PB(A:Int)(E:Zc)(g:R 2326528 E):Sa 336 [rI A,E.row] [rI (Qz A E)]:=by
 rw[<-G7];have f:=me (RD.eq_1 A E)
 refine so func336 ntmps336∘ap (yO.eq_2 E) (fun J U=>Z3 75 [eI 0 A,eX 3 (E.row.map .d),(5,.one (.O 5 0 0 J.length),[.arr false 1 (J.map S)]),eI 6 (U:Int)]) (fun D J U=>E.c.length<D+U/\U<=E.c.length/\J.length<=4+2*U) (E.c.length+1) ([4,E.d,E.b,E.e]:List Int) 0 (h0:=aw [((5,0),some (14,0))] [])<|fun p1 J U H T=>(aF H) ?_ ?_<;>intro k2 I H
 ·have q1:=I;try simp at q1
  have N:=ix I;have m2:=ml E.c (k2 17 _ rfl);have c1:=sl 2326528 E.c g;have K:=wr U;refine(xp N)<|(aF H) ?_ ?_<;>intro k3 X H
  ·have q2:=X;try simp at q2
   refine(bd)<|?_;exact ay H (hw:=Ya [((5,0),some (39,0))] [] rfl ad)
  have q2:=X;try simp at q2
  refine(bd)<|?_;exact ay H (hw:=Ya [((5,0),some (42,0))] [] rfl ad)
 have q1:=I;try simp at q1
 have c2:=sl 2326528 E.c g;have f:=ms f H;refine bd∘ap (xz.eq_2 E) (fun q n=>Z3 75 [eI 0 A,eX 3 (E.row.map .d),(5,.one (.O 5 0 0 q.length),[.arr false 1 (q.map S)]),eI 7 (n:Int)]) (fun n2 q n=>E.a.length<n2+n/\n<=E.a.length/\q.length<=5+2*2326528+6*n) (E.a.length+1) (J++([(E.a.length:Int)]:List Int)) 0 (v:=by(have o:E.c.length<=2326528:=Z7 (xs g);simp at*;omega)) (h0:=aw [((5,0),some (48,0))] [])<|fun p2 q n e2 j2=>(aF e2) ?_ ?_<;>intro k5 h3 e2
 ·have q3:=h3;try simp at q3
  have i2:=ix h3;have m4:=ml E.a (k5 51 _ rfl);have c3:=sl 2326528 E.a g;have w2:=wr n;simp;refine ac P∘xp i2∘fd i2 (YJ.rd (Pf (C E.a n)))<|?_;exact ay e2 (v:=by(simp;omega)) (hw:=Ya [((5,0),some (71,0))] [] rfl (by simp[w2]))
 have q3:=h3;try simp at q3
 have c4:=sl 2326528 E.a g;have f:=ms f e2;simp;exact(aa (KG A q bL))<|rt _ f
theorem OQ(A:Int)(E:List ZS)(g:R 2326528 E):Sa 411 [rI A,Z 3 ZS.row E] [rI (KH A E)]:=by
 have f:=me (KH.eq_1 A E);refine so func411 ntmps411∘ap (Ws.eq_2 A E) (fun J U=>Z3 39 [eI 0 A,eL 1 3 E ZS.row,(5,.one (.O 5 0 0 J.length),[.arr false 1 (J.map S)]),eI 6 (U:Int)]) (fun D J U=>E.length<D+U/\U<=E.length/\J.length<=1+1*U) (E.length+1) ([2]:List Int) 0 (h0:=aw [((5,0),some (7,0))] [])<|fun p1 J U H T=>(cF H) ?_ ?_<;>intro k2 I H
 ·have N:=ix I;have m2:=ml E (k2 1 _ rfl);have c1:=sl 2326528 E g;have K:=wr U;refine C8 [2,3,4,5,6,7,8,9,10,11,12,13,14,15,16,17,18,0,1,19,20,21,22] P ai ai ai ?_;have c2:=sl 2326528 (C E U).a g;refine xp N∘aa (KG A (([(C E U).c,(C E U).f]:List Int)++(C E U).a) ce)<|?_;exact ay H (hw:=Ya [((5,0),some (35,0))] [] rfl ad)
 have c3:=sl 2326528 E g;have f:=ms f H;exact(aa (KG A J bL))<|rt _ f
theorem Cf(A E:Int)(G:List ZS)(V:Int)(g:R 2322432 G):Sa 337 [rI A,rI E,Z 3 ZS.row G,rI V] [rI (SE A E G V)]:=have f:=me (SE.eq_1 A E G V);so func337 ntmps337∘aa (OQ A G (sg g))∘aa (KG A ([3,E,KH A G,V]:List Int) ce)<|rt _ f
theorem SU(h:b)(k:a:=by(intros;first|omega|with_unfolding_all (first|first|omega|(have cc:A.b.length<=2318336:=Z7 (xs g);have d:=o;simp at d;have z:=Ks Y d.1;have t:=d.2;(try have w3:IntKind.i64.wrap (G-1)=G-1:=YF Y Y);(try have Q:W (G-1)=G-1:=w3);first|omega|(refine⟨⟨d.1,Y⟩,Y,Y⟩)|(simp_all;omega)))|(simp_all;done)|(simp_all;omega)|grind|exact wt)):a/\b:=⟨k,h⟩
theorem Cp(A:ZY)(E:List Int)(G:Int)(g:R 2318336 A)(w:R 2318336 E):Sa 269 [A.row,Z 1 S E,rI G] [rI (jt A E G)]:=by
 have f:=me (jt.eq_1 A E G);refine so func269 ntmps269∘av P∘aa (YX G 0 (W ((A.b.length:Int)-1)))<|(bE) ?_ ?_<;>intro B
 ·have o:=B;have c1:=sl 2318336 A.b (an g w);have K:IntKind.i64.wrap ((A.b.length:Int)-1)=(A.b.length:Int)-1:=YF Y Y;have g1:=B;try simp[ZJ,K]at g1
  have N:G.toNat<A.b.length:=cM;simp[N,ZG,B];repeat with_reducible refine SU ?_
  refine(db (fun gg=>YX (C A.b G.toNat).d 0 (A.a.length:Int)))<|?_;simp;refine(aA f) ?_ ?_<;>intro k2 I f
  ·have q1:=I;try simp[ZJ,K]at q1
   simp;exact s _ f
  ·have q1:=I;try simp[ZJ,K]at q1
   simp[N,ZG];repeat with_reducible refine SU ?_
   refine(aA f) ?_ ?_<;>intro k3 X f
   ·have q2:=X;try simp at q2
    have i2:(W (G-1)).toNat<A.b.length:=cM;simp[i2,ZG];repeat with_reducible refine SU ?_
    refine(cR (PB (C A.b G.toNat).b (C A.b (W (G-1)).toNat) (sg (Zh (ZY.Qf g)))))<|?_;simp;refine(ac P)<|?_;have i3:G.toNat<E.length:=cM
    simp[i3,ZG,N];repeat with_reducible refine SU ?_
    refine(cR (Cf (C A.b G.toNat).b (C E G.toNat) (A.a.take (C A.b G.toNat).d.toNat) (Qz (C A.b G.toNat).b (C A.b (W (G-1)).toNat)) (ZT (n:=2318336) aq (xs (an g w)))))<|?_;simp;exact s _ f
   ·have q2:=X;try simp at q2
    simp;refine(ac P)<|?_;have i4:G.toNat<E.length:=cM
    simp[i4,ZG,N];repeat with_reducible refine SU ?_
    refine(cR (Cf (C A.b G.toNat).b (C E G.toNat) (A.a.take (C A.b G.toNat).d.toNat) 0 (ZT (n:=2318336) aq (xs (an g w)))))<|?_;simp;exact s _ f
 ·simp[B];refine(aO)<|?_;simp;have c2:=sl 2318336 A.b (an g w)
  refine(aA f) ?_ ?_<;>intro k6 h3 f
  ·have q3:=h3;try simp[ZJ,w2]at q3
   simp;exact s _ f
  ·simp[B]at h3
theorem Pt(A:ZE)(E:Int)(g:R 2314240 A):y 179 [A.row,rI E] [Z 1 S (Yu A E)]:=by
 have f:=me (Yu.eq_1 A E);refine ao func179 ntmps179∘ap (zn.eq_2 A E) (fun J U=>Z3 51 [eI 1 E,eX 2 (A.row.map .d),(5,.one (.O 5 0 0 J.length),[.arr false 1 (J.map S)]),eI 6 (U:Int)]) (fun D J U=>A.a.length<D+U/\U<=A.a.length/\J.length<=0+1*U) (A.a.length+1) ([]:List Int) 0 (h0:=aw [((5,0),some (8,0))] [])<|fun p1 J U H T=>(ae H) ?_ ?_<;>intro k2 I H
 ·have N:=ix I;have m2:=ml A.a (k2 11 _ rfl);have c1:=sl 2314240 A.a g;have K:=wr U;refine xp N∘fl (YJ.own (yl (C A.a U).a (sg (ZU.YU (Zh (ZE.YO g))))))∘bB<|?_;have c2:=sl 2314240 (C A.a U).a.b g;refine bB∘ac P∘xp N∘ah [false] (LJ (ZY.mk (C A.a U).a.a ((C A.a U).a.b++([Zc.mk ((C A.a U).a.a.length:Int) E 0 ([]:List Y9) ([]:List ZW)]:List Zc))) (C A.a U).c eD eD)∘aa (Cp (ZY.mk (C A.a U).a.a ((C A.a U).a.b++([Zc.mk ((C A.a U).a.a.length:Int) E 0 ([]:List Y9) ([]:List ZW)]:List Zc))) (JP (ZY.mk (C A.a U).a.a ((C A.a U).a.b++([Zc.mk ((C A.a U).a.a.length:Int) E 0 ([]:List Y9) ([]:List ZW)]:List Zc))) (C A.a U).c) (W ((((C A.a U).a.b++([Zc.mk ((C A.a U).a.a.length:Int) E 0 ([]:List Y9) ([]:List ZW)]:List Zc)).length:Int)-1)) eD eD) (b:=by first|(simp;done)|(simp[W,K];done))<|?_;exact ay H (hw:=Ya [((5,0),some (49,0))] [] rfl ad)
 exact ag _ (ms f H)
theorem Sr(A E G:Int):Sa 409 [rI A,rI E,rI G] [rI (jV A E G)]:=have f:=me (jV.eq_1 A E G);so func409 ntmps409∘aa (KG A ([1,E,G]:List Int) (by simp(maxDischargeDepth:=12) [Tj,XN];try omega))<|rt _ f
theorem ME(A:Int)(E:List Int)(g:R 2322432 E):y 333 [rI A,Z 1 S E] [Z 1 S (Jw A E)]:=by
 have f:=me (Jw.eq_1 A E);refine ao func333 ntmps333∘ap (y8.eq_2 A E) (fun J U=>Z3 41 [eI 0 A,eL 1 1 E S,(5,.one (.O 5 0 0 J.length),[.arr false 1 (J.map S)]),eI 6 (U:Int)]) (fun D J U=>E.length<D+U/\U<=E.length+1/\J.length<=U) (E.length+1) ([]:List Int) 0 (h0:=aw [((5,0),some (7,0))] [])<|fun p1 J U H T=>(cF H) ?_ ?_<;>intro k2 I H
 ·have N:=ix I;have m2:=ml E (k2 1 _ rfl);have c1:=sl 2322432 E g;have K:=wr U;refine(bg H) ?_ ?_<;>intro k3 X H
  ·refine aY fun k4=>?_;refine(ac P)<|?_;have i2:=ik (W ((U:Int)+1)).toNat E
   refine xp (an N i2)∘aa (Sr A (C E U) (C E (W ((U:Int)+1)).toNat)) (b:=by first|(simp;done)|(simp[W,K];done))<|?_;have w2:IntKind.i64.wrap ((U:Int)+2)=(U:Int)+2:=YF Y Y
   exact ay H (v:=by first|omega|(simp at*;omega)) (hw:=Ya [((5,0),some (32,0))] [] rfl bJ)
  refine(xp N)<|?_;have w3:IntKind.i64.wrap ((U:Int)+2)=(U:Int)+2:=YF Y Y
  exact ay H (v:=by first|omega|(simp at*;omega)) (hw:=Ya [((5,0),some (39,0))] [] rfl (by simp[K,w3]))
 exact ag _ (ms f H)
theorem Oi(A:Int)(E:List Int)(g:R 2318336 E):Sa 261 [rI A,Z 1 S E] [rI (ze A E)]:=by
 have f:=me (ze.eq_1 A E);refine so func261 ntmps261∘aa (YX (E.length:Int) 1 16)<|(aF f) ?_ ?_<;>intro k1 I f
 ·have q1:=I;try simp[ZJ]at q1
  simp;exact rt _ f
 have q1:=I;try simp[ZJ]at q1
 refine bd∘aG (RY.eq_2 A) (fun J=>Z3 22 [eI 0 A,(5,.one (.O 5 0 0 J.length),[.arr false 1 (J.map S)])]) (fun D J=>J.length<D/\1<=J.length/\J.length<=16) (E.length+1) E (v:=by first|omega|(simp at*;omega)) (h0:=aw [((5,0),some (12,0))] [])<|fun p1 J H T=>(bg H) ?_ ?_<;>intro k3 X H
 ·refine(ah [false] (ME A J c2))<|?_;exact gU H (v:=by(have z:=Kp A J Y;(try dsimp only);simp at*;omega)) (hw:=aw [((5,0),some (18,0))] [])
 have f:=ms f H;have N:=ik 0 J;exact(xp N)<|rt _ f
theorem tW(A:ZE)(E:Int)(g:R 2310144 A):Sa 169 [A.row,rI E] [rI (qw A E)]:=have f:=me (qw.eq_1 A E);so func169 ntmps169∘aa (YJ.rd (Pt A E (sg g)))∘aa (Oi E (Yu A E) (by simp(maxDischargeDepth:=12) [Ur,ZT (m:=2318336) aq g];try omega))<|rt _ f
theorem jZ(A:List Int)(E:Int):Sa 171 [Z 1 S A,rI E] [rB (J6 A E)]:=by
 rw[<-zr];have f:=me (iL.eq_1 A E)
 refine so func171 ntmps171∘aG (CC.eq_2 A E) (fun J=>Z3 18 [eL 0 1 A S,eI 1 E,eI 5 (J:Int)]) (fun D J=>A.length<D+J/\J<=A.length) (A.length+1) 0<|fun p1 J H T=>(ae H) ?_ ?_<;>intro k2 I H
 ·have N:=ix I;have m2:=ml A (k2 0 _ rfl);have K:=wr J;refine(xp N)<|(cF H) ?_ ?_<;>intro k3 X H
  ·exact rt _ (ms f H)
  exact aE K H
 exact rt _ (ms f H)
theorem SW(A E:Int):Sa 172 [rI A,rI E] [rI (VD A E)]:=have f:=me (VD.eq_1 A E);so func172 ntmps172∘cQ f<|fun k1 I f=>rt _ f
theorem TA(A:List YZ)(E:List ZX)(G:ZW)(g:R 2322432 A)(w:R 2322432 E):Sa 173 [Z 5 YZ.row A,Z 3 ZX.row E,G.row] [(XU A E G).1.row,rB (XU A E G).2]:=by
 rw[<-ua];have f:=me (IJ.eq_1 A E G)
 refine so func173 ntmps173∘aa (Ka E G.a)∘aj (fun gg=>yo G.b)∘bC f<|fun k1 I f=>?_;have N:(ZN E G.a).toNat<E.length:=by have:=Ym E G.a;exact il
 refine xp N∘aa (QA A (C E (ZN E G.a).toNat).c)∘cQ f<|fun k2 X f=>(ac P)<|?_;have i2:(Zi A (C E (ZN E G.a).toNat).c).toNat<A.length:=by have:=Yy A (C E (ZN E G.a).toNat).c;exact il
 exact xp i2∘aa (YJ.rd (Pf G))∘aa (T8 (C A (Zi A (C E (ZN E G.a).toNat).c).toNat) (Jd G) (by simp(maxDischargeDepth:=12) [Ih,ZT (m:=2326528) aq g,ZT (m:=2326528) aq w];try omega))<|rt _ f
theorem NH(h:b)(k:a:=by(intros;first|omega|with_unfolding_all (first|first|omega|(have c:=Int.tmod_eq_emod_of_nonneg (b:=2) (show 0<=J by omega);(try simp only[X8,show ∀x,IntKind.i64.wrap x=W x from fun _=>rfl]at*);(try simp at*);omega))|exact wt)):a/\b:=⟨k,h⟩
theorem sf(A:Int)(E:List Int)(G:Int)(g:R 2318336 E):y 264 [rI A,Z 1 S E,rI G] [Z 2 Y9.row (QU A E G)]:=by
 rw[<-sT];have f:=me (Gv.eq_1 A E G)
 refine ao func264 ntmps264∘aj (fun gg=>YX G 0 (W ((E.length:Int)-1)))<|?_;have c1:=sl 2318336 E g
 have K:IntKind.i64.wrap ((E.length:Int)-1)=(E.length:Int)-1:=YF Y Y;refine(aF f) ?_ ?_<;>intro k1 I f
 ·have q1:=I;try simp[ZJ,K]at q1
  simp;exact ag _ f
 have q1:=I;try simp[ZJ,K]at q1
 simp;repeat with_reducible refine NH ?_
 refine(bH (jY.eq_2 A) (fun J U p=>Z3 60 [eI 0 A,eI 2 J,(7,.one (.O 7 0 0 U.length),[.arr false 2 (U.map Y9.row)]),(8,.one (.O 8 0 0 p.length),[.arr false 1 (p.map S)])]) (fun D J U p=>p.length<D/\0<=J/\J<(p.length:Int)/\p.length<=16/\U.length+D<=17) (E.length+1) G ([]:List Y9) E (v:=by first|omega|(simp at*;omega)) (h0:=aw [((7,0),some (9,0)),((8,0),some (24,0))] []))<|fun p1 J U p H T=>(cF H) ?_ ?_<;>intro k3 X H
 ·refine(ae H) ?_ ?_<;>intro k4 h3 H
  ·have N:(W (J-1)).toNat<p.length:=g0;simp[N,ZG];repeat with_reducible refine NH ?_
   refine(ah [false] (ME A p c2))<|?_;exact bh H (v:=by(have z:=Kp A p Y;have j:=Int.tdiv_eq_ediv_of_nonneg (b:=2) (show 0<=J by omega);have w2:W (Int.tdiv J 2)=Int.tdiv J 2:=YF Y Y;(try dsimp only);rw[w2];simp at*;omega)) (hw:=Ya [((7,0),some (39,0)),((8,0),some (56,0))] [] rfl ad)
  refine(aF H) ?_ ?_<;>intro k5 h4 H
  ·have q4:=h4;try simp[K]at q4
   have i2:(W (J+1)).toNat<p.length:=g0;simp[i2,ZG];repeat with_reducible refine NH ?_
   refine(ah [false] (ME A p c2))<|?_;exact bh H (v:=by(have z:=Kp A p Y;have j:=Int.tdiv_eq_ediv_of_nonneg (b:=2) (show 0<=J by omega);have w2:W (Int.tdiv J 2)=Int.tdiv J 2:=YF Y Y;(try dsimp only);rw[w2];simp at*;omega)) (hw:=Ya [((7,0),some (53,0)),((8,0),some (56,0))] [] rfl ad)
  have q4:=h4;try simp[K]at q4
  simp;refine(ah [false] (ME A p c2))<|?_;exact bh H (v:=by(have z:=Kp A p Y;have j:=Int.tdiv_eq_ediv_of_nonneg (b:=2) (show 0<=J by omega);have w2:W (Int.tdiv J 2)=Int.tdiv J 2:=YF Y Y;(try dsimp only);rw[w2];simp at*;omega)) (hw:=Ya [((8,0),some (56,0))] [] rfl ad)
 exact ag _ (ms f H)
theorem LK(A:ZY)(E:Zc)(g:R 2326528 A)(w:R 2326528 E):y 180 [A.row,E.row] [(XH A E).1.row,rB (XH A E).2]:=by
 have f:=me (XH.eq_1 A E);refine ao func180 ntmps180∘ah [] (yl A (sg g))∘be [14] P<|?_;simp;refine ah [true,true,true,false,false] (Hx E (sg w))∘VR<|?_;have c1:=sl 2326528 A.b (an g w);simp;refine(TH (aq:=A.b.map Zc.row) (al:=([E]:List Zc).map Zc.row) (l1:=[(8,1)]) (l2:=[(12,3),(12,4)]) (Q:=5))<|?_;simp;refine(aa (NA (ZY.mk A.a (A.b++([E]:List Zc)))))<|(cF f) ?_ ?_<;>intro k2 I f
 ·exact(ah [] (yl A (sg g)))<|ag _ f
 exact ag _ f
theorem D8(A:ZE)(E:Int)(G:List ZW)(g:R 2310144 A)(w:R 2310144 G):y 174 [A.row,rI E,Z 5 ZW.row G] [(Jk A E G).1.row,rB (Jk A E G).2]:=by
 have f:=me (Jk.eq_1 A E G);refine ao func174 ntmps174∘ah [] (JG A (sg g))∘aa (YJ.rd (Pt A E (sg g)))∘aa (Oi E (Yu A E) gN)∘aa (qx A)∘bH (zN.eq_2 A E G) (fun J U p=>Z3 84 [eI 1 E,eL 2 5 G ZW.row,eX 3 (A.row.map .d),(6,.one (.Z 6 0),[.box [.d (.int .i64 0),.nil 16]]),(8,.one (.Z 8 0),[.box [.d (.int .i64 A.b),.O 16 1 0 p.length]]),eL 9 1 (Yu A E) S,eI 10 (ze E (Yu A E)),eB 11 J,eI 12 (U:Int),(16,.any,[.none,.arr true 16 (p.map ZU.row)])]) (fun D J U p=>A.a.length<D+U/\U<=A.a.length/\p.length=A.a.length) (A.a.length+1) (QC A&&(decide ((A.a.length:Int)>0))) 0 A.a<|fun p1 J U p H T=>(cF H) ?_ ?_<;>intro k2 I H
 ·have N:U<A.a.length:=bP;have m2:=ml A.a (k2 33 _ rfl);have c1:=sl 2310144 A.a (an g w);have K:=wr U;refine ac P∘xp N∘aa (YJ.rd (sf E (Yu A E) (U:Int) gN))<|?_;have i2:=ik U p;refine(cr i2 [] (LK (C A.a U).a (Zc.mk ((C A.a U).a.a.length:Int) E (ze E (Yu A E)) (QU E (Yu A E) (U:Int)) G) (sg (ZU.YU (Zh (ZE.YO g)))) (by simp(maxDischargeDepth:=12) [NI,Ur,ZT (m:=2326528) aq g,ZT (m:=2326528) aq w];try omega)))<|?_;refine eE (t:=16) (j:=1) (i:=U) (c:=14) (Q:=16) (M:=p.map ZU.row) (ds:=(XH (C A.a U).a (Zc.mk ((C A.a U).a.a.length:Int) E (ze E (Yu A E)) (QU E (Yu A E) (U:Int)) G)).1.row) (L:=[(64,0),(64,1)]) rfl rfl rfl rfl ab ab (by simp;try omega) ab ab ab ab ab ab ?_;simp[Xv (x:=ZU.mk (C p U).b (C p U).e (C p U).c (C p U).d (XH (C A.a U).a (Zc.mk ((C A.a U).a.a.length:Int) E (ze E (Yu A E)) (QU E (Yu A E) (U:Int)) G)).1) rfl,i2,ZG,YK];refine(bi)<|?_;exact aR K H
 have c2:=sl 2310144 A.a (an g w);have f:=ms f H;refine(aj (fun gg=>qx (ZE.mk A.b p)))<|(cF f) ?_ ?_<;>intro k4 X f
 ·exact(ah [] (JG A (sg g)))<|ag _ f
 exact ag _ f
theorem Q7(h:b)(k:a:=by(intros;first|omega|with_unfolding_all (first|first|omega|(have z:=zP (A:=A) (E:=G) (j:=U) eQ Y;omega)|(have z:=zP (A:=A) (E:=G) (j:=q) eQ Y;omega))|exact wt)):a/\b:=⟨k,h⟩
theorem FT(A:ZF)(E:Int)(G:List Int)(V:Int)(g:R 2306048 A)(w:R 2306048 G):y 98 [A.row,rI E,Z 1 S G,rI V] [(kX A E G V).1.row,rB (kX A E G V).2]:=by
 have f:=me (kX.eq_1 A E G V);refine ao func98 ntmps98∘ah qW (XA A (sg g))∘aa (VY A.b.c A.b.d)∘aa (V9 A E)∘aj (fun gg=>ps A G)∘aj (fun gg=>YX V (-10000) 10000)<|?_;have c1:=sl 2306048 A.a (an g w);have K:IntKind.i64.wrap ((A.a.length:Int)-1)=(A.a.length:Int)-1:=YF Y Y;refine(aF f) ?_ ?_<;>intro k1 I f
 ·have q1:=I;try simp[ZJ,K,Zw]at q1
  simp;exact ag _ f
 have q1:=I;try simp[ZJ,K,Zw]at q1
 have N:E.toNat<A.a.length:=by first|omega|(have z:=zP (A:=A) (E:=G) (j:=U) eQ Y;omega)|(have z:=zP (A:=A) (E:=G) (j:=q) eQ Y;omega)
 simp[N,ZG];refine(b6) ?_;refine aa (tW (C A.a E.toNat) (ZL A.b.c A.b.d) (sg (Zh (ZF.Zz g))))∘ap (qA.eq_2 A E G V) (fun J U=>Z3 162 [eI 1 E,eL 2 1 G S,eI 3 V,eX 4 (A.row.map .d),(8,.one (.Z 8 0),[.box [.nil 5,.nil 3,.nil 4,.d (.int .i64 0),.d (.int .i64 0),.nil 7,.nil 1,.nil 2,.nil 1,.nil 1,.d (.int .i64 0),.nil 1]]),(10,.one (.Z 10 0),[.box [.O 24 0 0 A.b.a.length,.O 24 1 0 A.b.b.length,.O 24 2 0 A.b.c.length,.d (.int .i64 A.b.e),.d (.int .i64 A.b.d),.O 24 5 0 A.c.length,.O 24 6 0 A.d.length,.O 24 7 0 A.a.length,.O 24 8 0 A.e.length,.O 24 9 0 A.f.length,.d (.int .i64 A.h),.O 24 11 0 A.g.length]]),eI 11 (ZL A.b.c A.b.d),eI 12 (qw (C A.a E.toNat) (ZL A.b.c A.b.d)),(13,.one (.O 13 0 0 J.length),[.arr false 5 (J.map ZW.row)]),eI 14 (U:Int),(24,.any,[.arr false 5 (A.b.a.map YZ.row),.arr false 3 (A.b.b.map ZX.row),.arr false 4 (A.b.c.map Z8.row),.none,.none,.arr false 7 (A.c.map Yv.row),.arr false 1 (A.d.map S),.arr true 2 (A.a.map ZE.row),.arr false 1 (A.e.map S),.arr false 1 (A.f.map S),.none,.arr false 1 (A.g.map S)])]) (fun D J U=>G.length<D+U/\U<=G.length/\J.length<=0+1*U) (G.length+1) ([]:List ZW) 0 (h0:=aw [((13,0),some (59,0))] [])<|fun p1 J U H T=>?_;try dsimp only at T
 refine(bg H) ?_ ?_<;>intro k3 X H
 ·have i2:=ix X;have m2:=ml G (k3 2 _ rfl);have c2:=sl 2306048 G (an g w);have w2:=wr U;refine(ac P)<|?_;simp[i2,ZG];refine(b6) ?_;refine aa (Ka A.b.b (C G U))∘ac P<|?_;simp[i2,ZG];refine(b6) ?_;refine(aa (jZ A.f (C G U)))<|(cF H) ?_ ?_<;>intro k6 h3 H
  ·refine aa (QW 0 (W (A.b.d+V))) (b:=by first|(simp;done)|(simp[W,K,w2];done))∘aa (SW 10000 (yz 0 (W (A.b.d+V)))) (b:=by first|(simp;done)|(simp[W,K,w2];done))∘ac P<|?_;have i3:(ZN A.b.b (C G U)).toNat<A.e.length:=ig
   simp[i2,ZG,i3];refine(b6) ?_;refine(aa (TA A.b.a A.b.b (ZW.mk (C G U) (C A.e (ZN A.b.b (C G U)).toNat) (VD 10000 (yz 0 (W (A.b.d+V)))) (qw (C A.a E.toNat) (ZL A.b.c A.b.d)) 0) (sg (ZP.Yb (ZF.YW g))) (sg (ZP.Yi (ZF.YW g)))) (b:=by first|(simp;done)|(simp[W,K,w2];done)))<|(aF H) ?_ ?_<;>intro k8 h4 H
   ·have q4:=h4;try simp[K]at q4
    have f:=ms f H;simp;exact ag _ f
   have q4:=h4;try simp[K]at q4
   simp;refine(b6) ?_;exact ay H (hw:=Ya [((13,0),some (117,0))] [] rfl bJ)
  refine(ac P)<|?_;have i4:(ZN A.b.b (C G U)).toNat<A.e.length:=ig
  simp[i2,ZG,i4];refine(b6) ?_;refine(aa (TA A.b.a A.b.b (ZW.mk (C G U) (C A.e (ZN A.b.b (C G U)).toNat) A.b.d (qw (C A.a E.toNat) (ZL A.b.c A.b.d)) 0) (sg (ZP.Yb (ZF.YW g))) (sg (ZP.Yi (ZF.YW g)))))<|(bg H) ?_ ?_<;>intro al h5 H
  ·exact ag _ (ms f H)
  simp;refine(b6) ?_;exact ay H (hw:=Ya [((13,0),some (117,0))] [] rfl bJ)
 have c3:=sl 2306048 G (an g w);have f:=ms f H;simp[N,ZG];refine(b6) ?_;refine ah [] (D8 (C A.a E.toNat) (ZL A.b.c A.b.d) J (sg (Zh (ZF.Zz g))) (by first|(simp(maxDischargeDepth:=12) [XN];omega)|(simp(maxDischargeDepth:=12) [ZT (m:=2310144) aq g,ZT (m:=2310144) aq w];done)))∘cQ f<|fun ar h6 f=>(ap (VN.eq_2 A G) (fun q n=>Z3 162 [eI 1 E,eL 2 1 G S,eX 4 (A.row.map .d),(8,.one (.Z 8 0),[.box [.nil 5,.nil 3,.nil 4,.d (.int .i64 0),.d (.int .i64 0),.nil 7,.nil 1,.nil 2,.nil 1,.nil 1,.d (.int .i64 0),.nil 1]]),(10,.one (.Z 10 0),[.box [.O 24 0 0 A.b.a.length,.O 24 1 0 A.b.b.length,.O 24 2 0 A.b.c.length,.d (.int .i64 A.b.e),.d (.int .i64 A.b.d),.O 24 5 0 A.c.length,.O 24 6 0 A.d.length,.O 24 7 0 A.a.length,.O 24 8 0 n.length,.O 24 9 0 A.f.length,.d (.int .i64 A.h),.O 24 11 0 A.g.length]]),(19,.one (.Z 19 0),[.box [.d (.int .i64 (Jk (C A.a E.toNat) (ZL A.b.c A.b.d) J).1.b),.O 126 1 0 (Jk (C A.a E.toNat) (ZL A.b.c A.b.d) J).1.a.length]]),eI 21 (q:Int),(24,.any,[.arr false 5 (A.b.a.map YZ.row),.arr false 3 (A.b.b.map ZX.row),.arr false 4 (A.b.c.map Z8.row),.none,.none,.arr false 7 (A.c.map Yv.row),.arr false 1 (A.d.map S),.arr true 2 (A.a.map ZE.row),.arr false 1 (n.map S),.arr false 1 (A.f.map S),.none,.arr false 1 (A.g.map S)]),(126,.any,[.none,.arr true 16 ((Jk (C A.a E.toNat) (ZL A.b.c A.b.d) J).1.a.map ZU.row)])]) (fun n2 q n=>G.length<n2+q/\q<=G.length/\n.length=A.e.length) (G.length+1) 0 A.e)<|fun p2 q n e2 j2=>?_;try dsimp only at j2
 refine(bg e2) ?_ ?_<;>intro ax h7 e2
 ·have d:=ix h7;have m4:=ml G (ax 2 _ rfl);have w3:=wr q;refine(ac P)<|?_;simp[d,ZG];refine(b6) ?_;refine aa (Ka A.b.b (C G q))∘ac P<|?_;have i6:(ZN A.b.b (C G q)).toNat<A.e.length:=h8;have i7:(ZN A.b.b (C G q)).toNat<n.length:=h8;simp[i6,ZG,i7,Xv (x:=W (C A.e (ZN A.b.b (C G q)).toNat+1)) rfl];refine(b6) ?_;exact au (an K w3) e2
 have f:=ms f e2;simp[N,ZG];refine(b6) ?_;refine(TF (t:=24) (j:=7) (i:=E.toNat) (Q:=2) (M:=A.a.map ZE.row) (ds:=(Jk (C A.a E.toNat) (ZL A.b.c A.b.d) J).1.row) (L:=[(126,1)]))<|?_;simp[Xv (x:=(Jk (C A.a E.toNat) (ZL A.b.c A.b.d) J).1) rfl,c1,N,ZG,YK];refine(b6) ?_;exact ag _ f
theorem AL(A:Int)(E:ZU)(g:R 2318336 E):Sa 410 [rI A,E.row] [rI (UT A E)]:=by
 have f:=me (UT.eq_1 A E);refine so func410 ntmps410∘av P∘aa (U3 A E.c (sg (ZU.Q6 g)))∘aa (OQ A E.a.a (sg (ZY.Yw (ZU.YU g))))∘ap (U0.eq_2 A E) (fun J U=>Z3 43 [eI 0 A,eX 3 (E.row.map .d),(5,.one (.O 5 0 0 J.length),[.arr false 1 (J.map S)]),eI 6 (U:Int)]) (fun D J U=>E.a.b.length<D+U/\U<=E.a.b.length/\J.length<=5+1*U) (E.a.b.length+1) ([5,E.b,E.e,Yh A E.c,KH A E.a.a]:List Int) 0 (h0:=aw [((5,0),some (20,0))] [])<|fun p1 J U H T=>(ae H) ?_ ?_<;>intro k3 I H
 ·have N:=ix I;have m2:=ml E.a.b (k3 24 _ rfl);have c1:=sl 2318336 E.a.b g;have K:=wr U;refine xp N∘aa (PB A (C E.a.b U) (sg (Zh (ZY.Qf (ZU.YU g)))))<|?_;exact ay H (hw:=Ya [((5,0),some (39,0))] [] rfl ad)
 have c2:=sl 2318336 E.a.b g;have f:=ms f H;exact(aa (KG A J bL))<|rt _ f
theorem Fb(A:Int)(E:List ZU)(g:R 2314240 E):Sa 334 [rI A,Z 16 ZU.row E] [rI (xT A E)]:=by
 have f:=me (xT.eq_1 A E);refine so func334 ntmps334∘ap (kQ.eq_2 A E) (fun J U=>Z3 26 [eI 0 A,eL 1 16 E ZU.row,(5,.one (.O 5 0 0 J.length),[.arr false 1 (J.map S)]),eI 6 (U:Int)]) (fun D J U=>E.length<D+U/\U<=E.length/\J.length<=0+1*U) (E.length+1) ([]:List Int) 0 (h0:=aw [((5,0),some (7,0))] [])<|fun p1 J U H T=>(ae H) ?_ ?_<;>intro k2 I H
 ·have N:=ix I;have m2:=ml E (k2 1 _ rfl);have c1:=sl 2314240 E g;have K:=wr U;refine xp N∘aa (AL A (C E U) (sg (Zh g)))<|?_;exact ay H (hw:=Ya [((5,0),some (22,0))] [] rfl ad)
 have c2:=sl 2314240 E g;have f:=ms f H;exact(aa (Oi A J g1))<|rt _ f
theorem BR(A:ZE)(E:Int)(G:List Int)(V:Int)(g:R 2310144 A)(w:R 2310144 G):So 265 [A.row,rI E,Z 1 S G,rI V] [(Yx A E G V).1.row,rB (Yx A E G V).2]:=by
 have f:=me (Yx.eq_1 A E G V);refine so func265 ntmps265∘ap (KK.eq_2 A G) (fun J U=>Z3 53 [eL 2 1 G S,eI 3 V,eX 4 (A.row.map .d),(8,.one (.Z 8 0),[.box [.d (.int .i64 0),.d (.int .i64 0),.nil 16,.d (.int .i64 0)]]),(10,.one (.Z 10 0),[.box [.d (.int .i64 A.b),.d (.int .i64 E),.O 10 3 0 U.length,.d (.int .i64 0)],.none,.none,.arr false 16 (U.map ZU.row)]),eI 11 (J:Int)]) (fun D J U=>G.length<D+J/\J<=G.length/\U.length<=J/\(∀x∈U,R 2310144 x)) (G.length+1) 0 ([]:List ZU) (v:=by exact⟨Y,Y,Nat.zero_le _,Nat.zero_le _,fun x h=>by cases h⟩) (h0:=aw [((10,3),none)] [])<|fun p1 J U H T=>?_;try dsimp only at T
 refine(cF H) ?_ ?_<;>intro k2 I H
 ·have N:=ix I;have m2:=ml G (k2 2 _ rfl);have c1:=sl 2310144 G (an g w);have K:=wr J;refine ac P∘xp N∘aa (VS A (C G J))<|(cF H) ?_ ?_<;>intro k4 X H
  ·exact bT _ (ms f H)
  refine(ac P)<|?_;have i2:(B A (C G J)).toNat<A.a.length:=by have:=JM A (C G J);exact il
  refine xp i2∘aa (YJ.rd (KQ (C A.a (B A (C G J)).toNat) (sg (Zh (ZE.YO g)))))∘bB∘bB<|?_;exact ay H (v:=by((try dsimp only);refine⟨Y,Y,Y,by simp;omega,fun x O=>?_⟩;rcases List.mem_append.1 O with O|O;exact T.2.2.2.2 x O;have e:=List.mem_singleton.1 O;subst e;exact Zh (ZE.YO g))) (hw:=Ya [((10,3),some (41,0))] [] rfl ad)
 have c2:=sl 2310144 G (an g w);have f:=ms f H;exact(cQ f)<|fun k6 h3 f=>(aa (Fb V U h4))<|bT _ f
theorem DL(A:XY)(E:Int)(g:R 2310144 A):Sa 335 [A.row,rI E] [rB (Jj A E)]:=by
 have f:=me (Jj.eq_1 A E);refine so func335 ntmps335∘aG (yQ.eq_2 A) (fun J=>Z3 33 [eI 1 E,eX 2 (A.row.map .d),eI 5 (J:Int)]) (fun D J=>A.a.length<D+J/\J<=A.a.length) (A.a.length+1) 0<|fun p1 J H T=>(ae H) ?_ ?_<;>intro k2 I H
 ·have N:=ix I;have m2:=ml A.a (k2 8 _ rfl);have c1:=sl 2310144 A.a g;have K:=wr J;refine xp N∘aa (C3 (C A.a J))<|(cF H) ?_ ?_<;>intro k3 X H
  ·exact rt _ (ms f H)
  exact aE K H
 have f:=ms f H;exact av P∘aa (YX (A.a.length:Int) 1 8)∘aj (fun gg=>Fb E A.a (sg (XY.YO g)))<|rt _ f
theorem EX(A:ZE)(E:XY)(G:Int)(g:R 2306048 A)(w:R 2306048 E):y 266 [A.row,E.row,rI G] [(XC A E G).1.row,rB (XC A E G).2]:=by
 rw[<-Fh];have f:=me (PM.eq_1 A E G)
 refine ao func266 ntmps266∘ah [] (JG A (sg g))∘aa (DL E G (sg w))∘dv (Km.eq_2 E) (fun J U p i=>Z3 52 [eX 3 (A.row.map .d),eX 4 (E.row.map .d),(6,.one (.Z 6 0),[.box [.d (.int .i64 0),.nil 16]]),(8,.one (.Z 8 0),[.box [.d (.int .i64 p),.O 8 2 0 i.length],.none,.arr true 16 (i.map ZU.row)]),eB 9 J,eI 10 (U:Int)]) (fun D J U p i=>E.a.length<D+U/\U<=E.a.length/\(J=true->E.a.length<=8)/\R (2306048+U) (ZE.mk p i)) (E.a.length+1) (Jj E G&&(E.b==A.b)) 0 A.b A.a (v:=by exact⟨Y,Y,Nat.zero_le _,fun h=>Uy E G (by simp at h;exact h.1),g⟩) (h0:=aw [((8,2),some (14,1))] [])<|fun p1 J U p i H T=>?_;try dsimp only at T
 refine(cF H) ?_ ?_<;>intro k2 I H
 ·have N:U<E.a.length:=bP;have m2:=ml E.a (k2 27 _ rfl);have c1:=sl 2306048 E.a (an g w);have K:=wr U;refine ac P∘xp N∘ah [] (Rj (ZE.mk p i) (C E.a U) iG iG)<|?_;exact ey H (v:=by(have Z:=I;simp at Z;(try dsimp only);refine⟨Y,Y,Y,fun _=>T.2.2.2.1 Z.2,?_⟩;exact s5 (n:=2306048+U) T.2.2.2.2 (ZT (n:=2306048) Y (Zh (XY.YO w))))) (hw:=Ya [((8,2),some (42,1))] [] rfl ad)
 have c2:=sl 2306048 E.a (an g w);have f:=ms f H;refine(cF f) ?_ ?_<;>intro k4 X f
 ·exact(ah [] (JG A (sg g)))<|ag _ f
 exact ag _ f
theorem tS(A:ZE)(E:Int)(g:R 2322432 A):y 267 [A.row,rI E] [(jS A E).1.row,rB (jS A E).2]:=by
 have f:=me (jS.eq_1 A E);refine ao func267 ntmps267∘aa (VS A E)<|(cF f) ?_ ?_<;>intro k1 I f
 ·exact(ah [] (JG A (sg g)))<|ag _ f
 refine(ap (xm.eq_2 A E) (fun J U=>Z3 41 [eX 2 (A.row.map .d),(4,.one (.Z 4 0),[.box [.d (.int .i64 0),.nil 16]]),eI 6 (B A E),(7,.one (.Z 7 0),[.box [.d (.int .i64 A.b),.O 7 2 0 U.length],.none,.arr true 16 (U.map ZU.row)]),eI 8 (J:Int)]) (fun D J U=>A.a.length<D+J/\J<=A.a.length/\U.length<=0+1*J) (A.a.length+1) 0 ([]:List ZU) (h0:=aw [((7,2),none)] []))<|fun p1 J U H T=>(cF H) ?_ ?_<;>intro k3 X H
 ·have N:=ix X;have m2:=ml A.a (k3 21 _ rfl);have c1:=sl 2322432 A.a g;have K:=wr J;refine(cF H) ?_ ?_<;>intro k4 h3 H
  ·refine aY fun k5=>?_;refine be [38] P∘xp N∘ah [true,true,true,false,false] (KQ (C A.a J) (sg (Zh (ZE.YO g))))∘VR<|?_;simp;refine(TH (aq:=U.map ZU.row) (al:=([C A.a J]:List ZU).map ZU.row) (l1:=[(7,2)]) (l2:=[(36,3),(36,4),(36,14),(36,15)]) (Q:=16))<|?_;simp;exact ay H (hw:=Ya [((7,2),some (38,0))] [] rfl ad)
  exact au K H
 have c2:=sl 2322432 A.a g;exact ag _ (ms f H)
theorem vG(A E:ZE)(G:List Int)(V:Int)(g:R 2301952 A)(w:R 2301952 E)(L:R 2301952 G):y 175 [A.row,E.row,Z 1 S G,rI V] [(KB A E G V).1.row,(KB A E G V).2.1.row,rB (KB A E G V).2.2]:=by
 have f:=me (KB.eq_1 A E G V);refine ao func175 ntmps175∘aa (BR A E.b G V ej ej)∘ah [] (EX E (Yx A E.b G V).1 V es es)∘ah [] (JG A (sg g))∘dv (yx.eq_2 A E G V) (fun J U p i=>Z3 72 [eL 2 1 G S,eX 4 (A.row.map .d),eX 5 (E.row.map .d),(8,.one (.Z 8 0),[.box [.d (.int .i64 0),.nil 16]]),(9,.one (.Z 9 0),[.box [.d (.int .i64 0),.nil 16]]),eB 12 (Yx A E.b G V).2,(13,.one (.Z 13 0),[.box [.d (.int .i64 (XC E (Yx A E.b G V).1 V).1.b),.O 32 1 0 (XC E (Yx A E.b G V).1 V).1.a.length]]),eB 14 J,(15,.one (.Z 15 0),[.box [.d (.int .i64 p),.O 15 2 0 i.length],.none,.arr true 16 (i.map ZU.row)]),eI 16 (U:Int),(32,.any,[.none,.arr true 16 ((XC E (Yx A E.b G V).1 V).1.a.map ZU.row)])]) (fun D J U p i=>G.length<D+U/\U<=G.length/\R 2301952 (ZE.mk p i)) (G.length+1) (XC E (Yx A E.b G V).1 V).2 0 A.b A.a (v:=by exact⟨Y,Y,Nat.zero_le _,g⟩) (h0:=aw [((15,2),some (36,1))] [])<|fun p1 J U p i H T=>?_;try dsimp only at T
 refine(cF H) ?_ ?_<;>intro k2 I H
 ·have N:U<G.length:=bP;have m2:=ml G (k2 2 _ rfl);have c1:=sl 2301952 G (an g (an w L));have K:=wr U;refine ac P∘xp N∘ah [] (tS (ZE.mk p i) (C G U) (by exact ZT (n:=2301952) aq T.2.2.2))<|?_;exact ey H (v:=by((try dsimp only);refine⟨Y,Y,Y,?_⟩;exact yt T.2.2.2)) (hw:=Ya [((15,2),some (55,1))] [] rfl ad)
 have c2:=sl 2301952 G (an g (an w L));have f:=ms f H;refine(cF f) ?_ ?_<;>intro k4 X f
 ·refine aY fun k5=>?_;exact av P∘ah [] (JG A (sg g))∘ah [] (JG E (sg w))<|ag _ f
 refine fb [(8,8),(9,9),(13,13),(15,15)] P ai ai ai ai ?_;simp;exact ag _ f
theorem rT(A:ZF)(E G V:Int)(g:R 2297856 A):y 99 [A.row,rI E,rI G,rI V] [(Vv A E G V).1.row,rB (Vv A E G V).2]:=by
 have f:=me (Vv.eq_1 A E G V);refine ao func99 ntmps99∘ah qW (XA A (sg g))∘aa (VY A.b.c A.b.d)∘aa (V9 A E)∘aj (fun gg=>V9 A G)<|?_;have c1:=sl 2297856 A.a g;have K:IntKind.i64.wrap ((A.a.length:Int)-1)=(A.a.length:Int)-1:=YF Y Y;refine(aF f) ?_ ?_<;>intro k1 I f
 ·have q1:=I;try simp[K,Zw,ZJ]at q1
  simp;exact ag _ f
 have q1:=I;try simp[K,Zw,ZJ]at q1
 simp;refine(ac P)<|?_;have N:=ik E.toNat A.a
 have i2:=ik G.toNat A.a;refine xp (an N i2)∘cr N [] (vG (C A.a E.toNat) (C A.a G.toNat) ([V]:List Int) (ZL A.b.c A.b.d) (sg (Zh (ZF.Zz g))) (sg (Zh (ZF.Zz g))) hv)∘TF (t:=16) (j:=7) (i:=E.toNat) (Q:=2) (M:=A.a.map ZE.row) (ds:=(KB (C A.a E.toNat) (C A.a G.toNat) ([V]:List Int) (ZL A.b.c A.b.d)).1.row) (L:=[(58,1)])<|?_;simp[Xv (x:=(KB (C A.a E.toNat) (C A.a G.toNat) ([V]:List Int) (ZL A.b.c A.b.d)).1) rfl,c1,N,i2,ZG,YK];refine bi∘TF (t:=16) (j:=7) (i:=G.toNat) (Q:=2) (M:=(A.a.set E.toNat (KB (C A.a E.toNat) (C A.a G.toNat) ([V]:List Int) (ZL A.b.c A.b.d)).1).map ZE.row) (ds:=(KB (C A.a E.toNat) (C A.a G.toNat) ([V]:List Int) (ZL A.b.c A.b.d)).2.1.row) (L:=[(58,3)])<|?_;simp[Xv (x:=(KB (C A.a E.toNat) (C A.a G.toNat) ([V]:List Int) (ZL A.b.c A.b.d)).1) rfl,c1,N,i2,ZG,YK];exact(bi)<|ag _ f
theorem B2(A:ZE)(E:Int)(g:R 2326528 A):So 176 [A.row,rI E] [(jU A E).1.row,rI (jU A E).2]:=by
 have f:=me (jU.eq_1 A E);refine so func176 ntmps176∘bH (qz.eq_2 A E) (fun J U p=>Z3 42 [eI 1 E,eX 2 (A.row.map .d),(4,.one (.Z 4 0),[.box [.d (.int .i64 0),.nil 16]]),(6,.one (.Z 6 0),[.box [.d (.int .i64 A.b),.O 6 2 0 p.length],.none,.arr false 16 (p.map ZU.row)]),eI 7 J,eI 8 (U:Int)]) (fun D J U p=>A.a.length<D+U/\U<=A.a.length/\p.length<=0+1*U) (A.a.length+1) 0 0 ([]:List ZU) (h0:=aw [((6,2),none)] [])<|fun p1 J U p H T=>(ae H) ?_ ?_<;>intro k2 I H
 ·have N:=ix I;have m2:=ml A.a (k2 14 _ rfl);have c1:=sl 2326528 A.a g;have K:=wr U;refine(xp N)<|(cF H) ?_ ?_<;>intro k3 X H
  ·exact aR K H
  refine ac P∘xp N∘aa (YJ.rd (KQ (C A.a U) (sg (Zh (ZE.YO g)))))∘bB∘bB<|?_;exact bh H (hw:=Ya [((6,2),some (38,0))] [] rfl ad)
 have c2:=sl 2326528 A.a g;exact bT _ (ms f H)
theorem B0(A:ZF)(E:Int)(g:R 2318336 A):So 100 [A.row,rI E] [(Jz A E).1.row,rB (Jz A E).2]:=by
 rw[<-BY];have f:=me (Mn.eq_1 A E)
 refine so func100 ntmps100∘fl (YJ.own (XA A (sg g)))∘aa (V9 A E)<|?_;have c1:=sl 2318336 A.a g
 have K:IntKind.i64.wrap ((A.a.length:Int)-1)=(A.a.length:Int)-1:=YF Y Y;refine(aF f) ?_ ?_<;>intro k1 I f
 ·have q1:=I;try simp[K,Zw,ZJ]at q1
  simp;exact bT _ f
 have q1:=I;try simp[K,Zw,ZJ]at q1
 simp;refine(ac P)<|?_;have N:=ik E.toNat A.a
 refine xp N∘cR (B2 (C A.a E.toNat) A.b.d (sg (Zh (ZF.Zz g))))<|?_;simp[N,ZG,Xv (x:=(jU (C A.a E.toNat) A.b.d).1) rfl];exact(bi)<|bT _ f
theorem S5(A:List Z8)(E:Int):Sa 181 [Z 4 Z8.row A,rI E] [rI (XL A E)]:=by
 have f:=me (XL.eq_1 A E);refine so func181 ntmps181∘aG (kv.eq_2 A E) (fun J=>Z3 20 [eL 0 4 A Z8.row,eI 1 E,eI 5 (J:Int)]) (fun D J=>A.length<D+J/\J<=A.length) (A.length+1) 0<|fun p1 J H T=>(ae H) ?_ ?_<;>intro k2 I H
 ·have N:=ix I;have m2:=ml A (k2 0 _ rfl);have K:=wr J;refine(xp N)<|(cF H) ?_ ?_<;>intro k3 X H
  ·exact rt _ (ms f H)
  exact aE K H
 exact rt _ (ms f H)
theorem Wl(A:List Z8)(E:Int):Sa 268 [Z 4 Z8.row A,rI E] [rI (JQ A E)]:=by
 rw[<-uq];have f:=me (E0.eq_1 A E)
 refine so func268 ntmps268∘aa (S5 A E)∘bC f<|fun k1 I f=>?_;have N:(XL A E).toNat<A.length:=c7
 exact(xp N)<|rt _ f
theorem T2(A:ZP)(E:Int):Sa 177 [A.row,rI E] [rB (yR A E)]:=by
 rw[<-sV];have f:=me (FA.eq_1 A E)
 refine so func177 ntmps177∘aa (QA A.a E)∘av P<|(aM) ?_ ?_<;>intro B
 ·have N:(Zi A.a E).toNat<A.a.length:=by have:=Yy A.a E;exact il
  exact l N∘aS (fun gg=>Wl A.c (C A.a (Zi A.a E).toNat).b)<|s _ f
 ·refine(aO)<|?_;simp;exact(aC)<|s _ f
theorem wn(A:ZF)(E G:Int)(V:ZV)(g:R 2314240 A)(w:R 2314240 V):y 101 [A.row,rI E,rI G,V.row] [(JU A E G V).1.row,rB (JU A E G V).2]:=by
 rw[<-MN];have f:=me (I0.eq_1 A E G V)
 refine ao func101 ntmps101∘ah qW (XA A (sg g))∘aa (V9 A E)∘aj (fun gg=>T2 A.b G)<|?_;have c1:=sl 2314240 A.a (an g w)
 have K:IntKind.i64.wrap ((A.a.length:Int)-1)=(A.a.length:Int)-1:=YF Y Y;refine(aF f) ?_ ?_<;>intro k1 I f
 ·have q1:=I;try simp[K,Zw,ZJ]at q1
  simp;refine Hg (rv:=[.cell 8 41,.tmp 9]) rfl ?_;simp[f.h];all_goals((try simp only[q3,true_and]);(try(rintro r (⟨a,_,rfl⟩|rfl) x O<;>simp at O<;>subst O<;>rfl)))
 have q1:=I;try simp[K,Zw,ZJ]at q1
 simp;refine(aa (Mw A G V 0 10000 (sg g) (sg w)))<|(aF f) ?_ ?_<;>intro k2 X f
 ·have q2:=X;try simp at q2
  simp;refine Hg (rv:=[.cell 8 41,.tmp 9]) rfl ?_;simp[f.h];all_goals((try simp only[q3,true_and]);(try(rintro r (⟨a,_,rfl⟩|rfl) x O<;>simp at O<;>subst O<;>rfl)))
 have q2:=X;try simp at q2
 simp;refine(ac P)<|?_;have N:=ik E.toNat A.a
 refine xp N∘ah [] (Rj (C A.a E.toNat) (Xq A G V 0 10000).1 dd dd)<|(aF f) ?_ ?_<;>intro k4 h3 f
 ·have q3:=h3;try simp at q3
  simp;refine Hg (rv:=[.cell 8 41,.tmp 9]) rfl ?_;simp[f.h];all_goals((try simp only[q3,true_and]);(try(rintro r (⟨a,_,rfl⟩|rfl) x O<;>simp at O<;>subst O<;>rfl)))
 have q3:=h3;try simp at q3
 refine xp N∘TF (t:=16) (j:=7) (i:=E.toNat) (Q:=2) (M:=A.a.map ZE.row) (ds:=(XE (C A.a E.toNat) (Xq A G V 0 10000).1).1.row) (L:=[(46,1)])<|?_;have c2:=sl 2314240 A.g (an g w)
 simp[Xv (x:=(XE (C A.a E.toNat) (Xq A G V 0 10000).1).1) rfl,c1,N,ZG,YK];refine(bi)<|?_;refine Hg (rv:=[.cell 8 41,.tmp 9]) rfl ?_;simp[f.h];all_goals((try simp only[q3,true_and]);(try(rintro r (⟨a,_,rfl⟩|rfl) x O<;>simp at O<;>subst O<;>rfl)))
theorem Lo(A:ZF)(g:R 2330624 A):y 178 [A.row] [Z 1 S (YB A)]:=by
 have f:=me (YB.eq_1 A);refine ao func178 ntmps178∘ap (JW.eq_2 A) (fun J U=>Z3 39 [eX 1 (A.row.map .d),(3,.one (.O 3 0 0 J.length),[.arr false 1 (J.map S)]),eI 4 (U:Int)]) (fun D J U=>A.b.b.length<D+U/\U<=A.b.b.length/\J.length<=0+1*U) (A.b.b.length+1) ([]:List Int) 0 (h0:=aw [((3,0),some (6,0))] [])<|fun p1 J U H T=>(ae H) ?_ ?_<;>intro k2 I H
 ·have N:=ix I;have m2:=ml A.b.b (k2 10 _ rfl);have c1:=sl 2330624 A.b.b g;have K:=wr U;refine xp N∘aa (jZ A.f (C A.b.b U).b)∘aj (fun gg=>T2 A.b (C A.b.b U).c)<|(cF H) ?_ ?_<;>intro k3 X H
  ·exact ay H (hw:=Ya [((3,0),some (37,0))] [] rfl ad)
  exact au K H
 exact ag _ (ms f H)
theorem K2(h:b)(k:a:=by(intros;first|omega|with_unfolding_all (first|first|omega|(have f0:0<=(u A E).1:=(by first|omega|(simp at*;omega));have l:=YA A E f0;omega)|(have f0:0<=(u A E).1:=(by first|omega|(simp at*;omega));have l:=YA A E f0;have r:=Vh (C A.a (u A E).1.toNat) (ZL A.b.c A.b.d);omega)|(have o:=QN A;have d:=Z7 (ZP.Yi (ZF.YW g));(try dsimp only at*);omega))|exact wt)):a/\b:=⟨k,h⟩
theorem FK(A:ZF)(E G:Int)(g:R 2310144 A):y 102 [A.row,rI E,rI G] [(xH A E G).1.row,rB (xH A E G).2]:=by
 have f:=me (xH.eq_1 A E G);refine ao func102 ntmps102∘ah qW (XA A (sg g))∘aa (SL A E)∘aa (VY A.b.c A.b.d)∘aa (YJ.rd (Lo A (sg g)))∘aj (fun gg=>jZ A.g E)∘bC f<|fun k1 I f=>?_;have N:(u A E).1.toNat<A.a.length:=fR;simp[N,ZG];repeat with_reducible refine K2 ?_
 refine(cR (YJ.rd (Pt (C A.a (u A E).1.toNat) (ZL A.b.c A.b.d) (sg (Zh (ZF.Zz g))))))<|?_;have i2:(u A E).2.toNat<(Yu (C A.a (u A E).1.toNat) (ZL A.b.c A.b.d)).length:=fR
 have i3:(u A E).2.toNat<(C A.a (u A E).1.toNat).a.length:=fR;simp[i2,ZG,N,i3];repeat with_reducible refine K2 ?_
 refine(ap (qj.eq_2 A E G) (fun J U=>Z3 140 [eI 2 G,eX 3 (A.row.map .d),(6,.one (.Z 6 0),[.box [.nil 5,.nil 3,.nil 4,.d (.int .i64 0),.d (.int .i64 0),.nil 7,.nil 1,.nil 2,.nil 1,.nil 1,.d (.int .i64 0),.nil 1]]),(8,.one (.Z 8 0),[.box [.O 21 0 0 A.b.a.length,.O 21 1 0 A.b.b.length,.O 21 2 0 A.b.c.length,.d (.int .i64 A.b.e),.d (.int .i64 A.b.d),.O 21 5 0 A.c.length,.O 21 6 0 A.d.length,.O 21 7 0 A.a.length,.O 21 8 0 A.e.length,.O 21 9 0 A.f.length,.d (.int .i64 A.h),.O 21 11 0 A.g.length]]),eI 9 (u A E).1,eI 10 (u A E).2,eL 12 1 (YB A) S,eI 13 (C (Yu (C A.a (u A E).1.toNat) (ZL A.b.c A.b.d)) (u A E).2.toNat),(14,.one (.Z 14 0),[.box [.d (.int .i64 ((C (C A.a (u A E).1.toNat).a (u A E).2.toNat).a.a.length:Int)),.d (.int .i64 (ZL A.b.c A.b.d)),.d (.int .i64 (C (Yu (C A.a (u A E).1.toNat) (ZL A.b.c A.b.d)) (u A E).2.toNat)),.nil 2,.O 14 5 0 U.length],.none,.none,.none,.none,.arr false 5 (U.map ZW.row)]),eI 15 (J:Int),(21,.any,[.arr false 5 (A.b.a.map YZ.row),.arr false 3 (A.b.b.map ZX.row),.arr false 4 (A.b.c.map Z8.row),.none,.none,.arr false 7 (A.c.map Yv.row),.arr false 1 (A.d.map S),.arr true 2 (A.a.map ZE.row),.arr false 1 (A.e.map S),.arr false 1 (A.f.map S),.none,.arr false 1 (A.g.map S)])]) (fun D J U=>(YB A).length<D+J/\J<=(YB A).length/\U.length<=0+1*J) ((YB A).length+1) 0 ([]:List ZW) (h0:=aw [((14,5),none)] []))<|fun p1 J U H T=>?_;try dsimp only at T
 refine(cF H) ?_ ?_<;>intro k3 X H
 ·have i4:=ix X;have m2:=ml (YB A) (k3 12 _ rfl);have K:=wr J;refine(ac P)<|?_;simp[i4,ZG];repeat with_reducible refine K2 ?_
  refine(aa (TA A.b.a A.b.b (ZW.mk (C (YB A) J) 0 G (C (Yu (C A.a (u A E).1.toNat) (ZL A.b.c A.b.d)) (u A E).2.toNat) 0) (sg (ZP.Yb (ZF.YW g))) (sg (ZP.Yi (ZF.YW g)))))<|(bg H) ?_ ?_<;>intro k5 h3 H
  ·exact ag _ (ms f H)
  simp;repeat with_reducible refine K2 ?_
  exact ay H (hw:=Ya [((14,5),some (111,0))] [] rfl ad)
 have f:=ms f H;refine(ac P)<|?_;simp[N,ZG,i3];repeat with_reducible refine K2 ?_
 refine ah [] (LK (C (C A.a (u A E).1.toNat).a (u A E).2.toNat).a (Zc.mk ((C (C A.a (u A E).1.toNat).a (u A E).2.toNat).a.a.length:Int) (ZL A.b.c A.b.d) (C (Yu (C A.a (u A E).1.toNat) (ZL A.b.c A.b.d)) (u A E).2.toNat) ([]:List Y9) U) it it)∘be [] P<|?_;simp[N,ZG,i3];repeat with_reducible refine K2 ?_
 refine iz (t:=21) (j:=7) (i:=(u A E).1.toNat) (c:=1) (k':=(u A E).2.toNat) (q:=14) (n:=16) (Q:=2) (s:=(C A.a (u A E).1.toNat).a.map ZU.row) (M:=A.a.map ZE.row) (ds:=(XH (C (C A.a (u A E).1.toNat).a (u A E).2.toNat).a (Zc.mk ((C (C A.a (u A E).1.toNat).a (u A E).2.toNat).a.a.length:Int) (ZL A.b.c A.b.d) (C (Yu (C A.a (u A E).1.toNat) (ZL A.b.c A.b.d)) (u A E).2.toNat) ([]:List Y9) U)).1.row) (L:=[(125,0),(125,1)]) rfl rfl rfl rfl (by simp;rfl) ab ab (by simp[N,i3]) (by simp[ZG,YK,N,i3]) (by simp[N,i3]) ab ab ab ab ab ab ?_;simp[Xv (x:=ZE.mk (C A.a (u A E).1.toNat).b ((C A.a (u A E).1.toNat).a.set (u A E).2.toNat (ZU.mk (C (C A.a (u A E).1.toNat).a (u A E).2.toNat).b (C (C A.a (u A E).1.toNat).a (u A E).2.toNat).e (C (C A.a (u A E).1.toNat).a (u A E).2.toNat).c (C (C A.a (u A E).1.toNat).a (u A E).2.toNat).d (XH (C (C A.a (u A E).1.toNat).a (u A E).2.toNat).a (Zc.mk ((C (C A.a (u A E).1.toNat).a (u A E).2.toNat).a.a.length:Int) (ZL A.b.c A.b.d) (C (Yu (C A.a (u A E).1.toNat) (ZL A.b.c A.b.d)) (u A E).2.toNat) ([]:List Y9) U)).1))) rfl,ZG,YK,N,i3];repeat with_reducible refine K2 ?_
 exact ag _ f
theorem Zy(h:b)(k:a:=by(intros;first|omega|with_unfolding_all (first|first|omega|(have l:=YA A E br;omega)|(simp only[Bool.or_eq_false_iff,decide_eq_false_iff_not]at*;omega))|(simp_all;done)|(simp_all;omega)|grind|exact wt)):a/\b:=⟨k,h⟩
theorem sB(A:ZF)(E G:Int)(g:R 2318336 A):y 103 [A.row,rI E,rI G] [(zY A E G).1.row,rB (zY A E G).2]:=by
 rw[<-tr];have f:=me (Gz.eq_1 A E G)
 refine ao func103 ntmps103∘ah qW (XA A (sg g))∘aa (SL A E)<|(bE) ?_ ?_<;>intro B
 ·have o:=B;have g1:=B;try simp at g1
  have N:(u A E).1.toNat<A.a.length:=cI;simp[N,ZG,B];refine(aJ) ?_;refine(gK)<|fun _=>?_;have i2:(u A E).2.toNat<(C A.a (u A E).1.toNat).a.length:=cI;simp[i2,ZG,B];refine(aJ) ?_;refine(aA f) ?_ ?_<;>intro k1 I f
  ·try(simp[B]at I;done)
   all_goals
    simp[B];refine(aJ) ?_;exact Jq _ f
  ·try(simp[B]at I;done)
   all_goals
    have i3:1<(C (C A.a (u A E).1.toNat).a (u A E).2.toNat).a.a.length:=cI;simp[N,ZG,i2,i3,B];refine(aJ) ?_;refine(cR (qP (C (C (C A.a (u A E).1.toNat).a (u A E).2.toNat).a.a 1)))<|?_;simp[B];refine(aJ) ?_;refine(cR (W8 A.c (v (C (C (C A.a (u A E).1.toNat).a (u A E).2.toNat).a.a 1)).1.a))<|?_;simp[B];refine(aJ) ?_;refine(ac P)<|?_;simp[B];refine(aJ) ?_;refine(dz B) ?_ ?_<;>intro B
    ·have n:=B.2;try(simp at B;done)
     all_goals
      have V:=B.2;try simp at V
      all_goals
       have i4:(Zj A.c (v (C (C (C A.a (u A E).1.toNat).a (u A E).2.toNat).a.a 1)).1.a).toNat<A.c.length:=eJ;simp[i4,ZG,B];refine(aJ) ?_;refine(db (fun gg=>T2 A.b (C A.c (Zj A.c (v (C (C (C A.a (u A E).1.toNat).a (u A E).2.toNat).a.a 1)).1.a).toNat).e))<|?_;simp[B];refine(aJ) ?_;refine(aA f) ?_ ?_<;>intro k3 X f
       ·try(simp[B]at X;done)
        all_goals
         simp[B];refine(aJ) ?_;exact Jq _ f
       ·try(simp[B]at X;done)
        all_goals
         simp[B];refine(aJ) ?_;refine(ac P)<|?_;simp[i4,ZG,B];refine(aJ) ?_;refine(cR (zQ A.b.a (O.mk (v (C (C (C A.a (u A E).1.toNat).a (u A E).2.toNat).a.a 1)).1.a G (-1) (C A.c (Zj A.c (v (C (C (C A.a (u A E).1.toNat).a (u A E).2.toNat).a.a 1)).1.a).toNat).e 0) (sg (ZP.Yb (ZF.YW g)))))<|?_;simp[B];refine(aJ) ?_;refine(aA f) ?_ ?_<;>intro k5 h3 f
         ·try(simp[B]at h3;done)
          all_goals
           simp[B];refine(aJ) ?_;exact Jq _ f
         ·try(simp[B]at h3;done)
          all_goals
           simp[B];refine(aJ) ?_;refine(ac P)<|?_;simp[N,ZG,B];refine(aJ) ?_;refine(cR (YJ.rd (QI (Zv A.b.a (O.mk (v (C (C (C A.a (u A E).1.toNat).a (u A E).2.toNat).a.a 1)).1.a G (-1) (C A.c (Zj A.c (v (C (C (C A.a (u A E).1.toNat).a (u A E).2.toNat).a.a 1)).1.a).toNat).e 0)).1)))<|?_;simp[B];refine(aJ) ?_;refine(cD [] (Q8 (C A.a (u A E).1.toNat) E (Z1 (Zv A.b.a (O.mk (v (C (C (C A.a (u A E).1.toNat).a (u A E).2.toNat).a.a 1)).1.a G (-1) (C A.c (Zj A.c (v (C (C (C A.a (u A E).1.toNat).a (u A E).2.toNat).a.a 1)).1.a).toNat).e 0)).1) (sg (Zh (ZF.Zz g))) b0))<|?_;simp[N,ZG,B];refine(aJ) ?_;refine(TF (t:=19) (j:=7) (i:=(u A E).1.toNat) (Q:=2) (M:=A.a.map ZE.row) (ds:=(YP (C A.a (u A E).1.toNat) E (Z1 (Zv A.b.a (O.mk (v (C (C (C A.a (u A E).1.toNat).a (u A E).2.toNat).a.a 1)).1.a G (-1) (C A.c (Zj A.c (v (C (C (C A.a (u A E).1.toNat).a (u A E).2.toNat).a.a 1)).1.a).toNat).e 0)).1)).1.row) (L:=[(114,1)]))<|?_;simp[Xv (x:=(YP (C A.a (u A E).1.toNat) E (Z1 (Zv A.b.a (O.mk (v (C (C (C A.a (u A E).1.toNat).a (u A E).2.toNat).a.a 1)).1.a G (-1) (C A.c (Zj A.c (v (C (C (C A.a (u A E).1.toNat).a (u A E).2.toNat).a.a 1)).1.a).toNat).e 0)).1)).1) rfl,N,ZG,YK,B];refine(aJ) ?_;exact Jq _ f
    ·have n:=B.2;try(simp at B;done)
     all_goals
      simp[B];refine(aJ) ?_;refine(aO)<|?_;simp[B];refine(aJ) ?_;refine(aA f) ?_ ?_<;>intro c h4 f
      ·try(simp[B]at h4;done)
       all_goals
        simp[B];refine(aJ) ?_;exact Jq _ f
      ·try(simp[B]at h4;done)
       all_goals
        simp[B];refine(aJ) ?_;refine(ac P)<|?_;have i6:(Zj A.c (v (C (C (C A.a (u A E).1.toNat).a (u A E).2.toNat).a.a 1)).1.a).toNat<A.c.length:=eJ
        simp[i6,ZG,B];refine(aJ) ?_;refine(cR (zQ A.b.a (O.mk (v (C (C (C A.a (u A E).1.toNat).a (u A E).2.toNat).a.a 1)).1.a G (-1) (C A.c (Zj A.c (v (C (C (C A.a (u A E).1.toNat).a (u A E).2.toNat).a.a 1)).1.a).toNat).e 0) (sg (ZP.Yb (ZF.YW g)))))<|?_;simp[B];refine(aJ) ?_;refine(aA f) ?_ ?_<;>intro k9 h5 f
        ·try(simp[B]at h5;done)
         all_goals
          simp[B];refine(aJ) ?_;exact Jq _ f
        ·try(simp[B]at h5;done)
         all_goals
          simp[B];refine(aJ) ?_;refine(ac P)<|?_;simp[N,ZG,B];refine(aJ) ?_;refine(cR (YJ.rd (QI (Zv A.b.a (O.mk (v (C (C (C A.a (u A E).1.toNat).a (u A E).2.toNat).a.a 1)).1.a G (-1) (C A.c (Zj A.c (v (C (C (C A.a (u A E).1.toNat).a (u A E).2.toNat).a.a 1)).1.a).toNat).e 0)).1)))<|?_;simp[B];refine(aJ) ?_;refine(cD [] (Q8 (C A.a (u A E).1.toNat) E (Z1 (Zv A.b.a (O.mk (v (C (C (C A.a (u A E).1.toNat).a (u A E).2.toNat).a.a 1)).1.a G (-1) (C A.c (Zj A.c (v (C (C (C A.a (u A E).1.toNat).a (u A E).2.toNat).a.a 1)).1.a).toNat).e 0)).1) (sg (Zh (ZF.Zz g))) b0))<|?_;simp[N,ZG,B];refine(aJ) ?_;refine(TF (t:=19) (j:=7) (i:=(u A E).1.toNat) (Q:=2) (M:=A.a.map ZE.row) (ds:=(YP (C A.a (u A E).1.toNat) E (Z1 (Zv A.b.a (O.mk (v (C (C (C A.a (u A E).1.toNat).a (u A E).2.toNat).a.a 1)).1.a G (-1) (C A.c (Zj A.c (v (C (C (C A.a (u A E).1.toNat).a (u A E).2.toNat).a.a 1)).1.a).toNat).e 0)).1)).1.row) (L:=[(114,1)]))<|?_;simp[Xv (x:=(YP (C A.a (u A E).1.toNat) E (Z1 (Zv A.b.a (O.mk (v (C (C (C A.a (u A E).1.toNat).a (u A E).2.toNat).a.a 1)).1.a G (-1) (C A.c (Zj A.c (v (C (C (C A.a (u A E).1.toNat).a (u A E).2.toNat).a.a 1)).1.a).toNat).e 0)).1)).1) rfl,N,ZG,YK,B];refine(aJ) ?_;exact Jq _ f
 ·have o:=B;simp[B];refine(aJ) ?_;refine(aO)<|?_;simp[B];refine(aJ) ?_;refine(aA f) ?_ ?_<;>intro ar h6 f
  ·try(simp[B]at h6;done)
   all_goals
    simp[B];refine(aJ) ?_;exact Jq _ f
  ·try(simp[B]at h6;done)
   all_goals
    have q:(u A E).1.toNat<A.a.length:=cI;have af:(u A E).2.toNat<(C A.a (u A E).1.toNat).a.length:=cI;have ad:1<(C (C A.a (u A E).1.toNat).a (u A E).2.toNat).a.a.length:=cI;simp[q,ZG,af,ad,B];refine(aJ) ?_;refine(cR (qP (C (C (C A.a (u A E).1.toNat).a (u A E).2.toNat).a.a 1)))<|?_;simp[B];refine(aJ) ?_;refine(cR (W8 A.c (v (C (C (C A.a (u A E).1.toNat).a (u A E).2.toNat).a.a 1)).1.a))<|?_;simp[B];refine(aJ) ?_;refine(ac P)<|?_;simp[B];refine(aJ) ?_;refine(dz B) ?_ ?_<;>intro B
    ·have s:=B.2;try(simp at B;done)
     all_goals
      have p:=B.2;try simp at p
      all_goals
       have r:(Zj A.c (v (C (C (C A.a (u A E).1.toNat).a (u A E).2.toNat).a.a 1)).1.a).toNat<A.c.length:=eJ;simp[r,ZG,B];refine(aJ) ?_;refine(db (fun gg=>T2 A.b (C A.c (Zj A.c (v (C (C (C A.a (u A E).1.toNat).a (u A E).2.toNat).a.a 1)).1.a).toNat).e))<|?_;simp[B];refine(aJ) ?_;refine(aA f) ?_ ?_<;>intro ax h7 f
       ·try(simp[B]at h7;done)
        all_goals
         simp[B];refine(aJ) ?_;exact Jq _ f
       ·try(simp[B]at h7;done)
        all_goals
         simp[B];refine(aJ) ?_;refine(ac P)<|?_;simp[r,ZG,B];refine(aJ) ?_;refine(cR (zQ A.b.a (O.mk (v (C (C (C A.a (u A E).1.toNat).a (u A E).2.toNat).a.a 1)).1.a G (-1) (C A.c (Zj A.c (v (C (C (C A.a (u A E).1.toNat).a (u A E).2.toNat).a.a 1)).1.a).toNat).e 0) (sg (ZP.Yb (ZF.YW g)))))<|?_;simp[B];refine(aJ) ?_;refine(aA f) ?_ ?_<;>intro ay h8 f
         ·try(simp[B]at h8;done)
          all_goals
           simp[B];refine(aJ) ?_;exact Jq _ f
         ·try(simp[B]at h8;done)
          all_goals
           simp[B];refine(aJ) ?_;refine(ac P)<|?_;simp[q,ZG,B];refine(aJ) ?_;refine(cR (YJ.rd (QI (Zv A.b.a (O.mk (v (C (C (C A.a (u A E).1.toNat).a (u A E).2.toNat).a.a 1)).1.a G (-1) (C A.c (Zj A.c (v (C (C (C A.a (u A E).1.toNat).a (u A E).2.toNat).a.a 1)).1.a).toNat).e 0)).1)))<|?_;simp[B];refine(aJ) ?_;refine(cD [] (Q8 (C A.a (u A E).1.toNat) E (Z1 (Zv A.b.a (O.mk (v (C (C (C A.a (u A E).1.toNat).a (u A E).2.toNat).a.a 1)).1.a G (-1) (C A.c (Zj A.c (v (C (C (C A.a (u A E).1.toNat).a (u A E).2.toNat).a.a 1)).1.a).toNat).e 0)).1) (sg (Zh (ZF.Zz g))) b0))<|?_;simp[q,ZG,B];refine(aJ) ?_;refine(TF (t:=19) (j:=7) (i:=(u A E).1.toNat) (Q:=2) (M:=A.a.map ZE.row) (ds:=(YP (C A.a (u A E).1.toNat) E (Z1 (Zv A.b.a (O.mk (v (C (C (C A.a (u A E).1.toNat).a (u A E).2.toNat).a.a 1)).1.a G (-1) (C A.c (Zj A.c (v (C (C (C A.a (u A E).1.toNat).a (u A E).2.toNat).a.a 1)).1.a).toNat).e 0)).1)).1.row) (L:=[(114,1)]))<|?_;simp[Xv (x:=(YP (C A.a (u A E).1.toNat) E (Z1 (Zv A.b.a (O.mk (v (C (C (C A.a (u A E).1.toNat).a (u A E).2.toNat).a.a 1)).1.a G (-1) (C A.c (Zj A.c (v (C (C (C A.a (u A E).1.toNat).a (u A E).2.toNat).a.a 1)).1.a).toNat).e 0)).1)).1) rfl,q,ZG,YK,B];refine(aJ) ?_;exact Jq _ f
    ·have s:=B.2;try(simp at B;done)
     all_goals
      simp[B];refine(aJ) ?_;refine(aO)<|?_;simp[B];refine(aJ) ?_;refine(aA f) ?_ ?_<;>intro aC h9 f
      ·try(simp[B]at h9;done)
       all_goals
        simp[B];refine(aJ) ?_;exact Jq _ f
      ·try(simp[B]at h9;done)
       all_goals
        simp[B];refine(aJ) ?_;refine(ac P)<|?_;have w:(Zj A.c (v (C (C (C A.a (u A E).1.toNat).a (u A E).2.toNat).a.a 1)).1.a).toNat<A.c.length:=eJ
        simp[w,ZG,B];refine(aJ) ?_;refine(cR (zQ A.b.a (O.mk (v (C (C (C A.a (u A E).1.toNat).a (u A E).2.toNat).a.a 1)).1.a G (-1) (C A.c (Zj A.c (v (C (C (C A.a (u A E).1.toNat).a (u A E).2.toNat).a.a 1)).1.a).toNat).e 0) (sg (ZP.Yb (ZF.YW g)))))<|?_;simp[B];refine(aJ) ?_;refine(aA f) ?_ ?_<;>intro aG ak f
        ·try(simp[B]at ak;done)
         all_goals
          simp[B];refine(aJ) ?_;exact Jq _ f
        ·try(simp[B]at ak;done)
         all_goals
          simp[B];refine(aJ) ?_;refine(ac P)<|?_;simp[q,ZG,B];refine(aJ) ?_;refine(cR (YJ.rd (QI (Zv A.b.a (O.mk (v (C (C (C A.a (u A E).1.toNat).a (u A E).2.toNat).a.a 1)).1.a G (-1) (C A.c (Zj A.c (v (C (C (C A.a (u A E).1.toNat).a (u A E).2.toNat).a.a 1)).1.a).toNat).e 0)).1)))<|?_;simp[B];refine(aJ) ?_;refine(cD [] (Q8 (C A.a (u A E).1.toNat) E (Z1 (Zv A.b.a (O.mk (v (C (C (C A.a (u A E).1.toNat).a (u A E).2.toNat).a.a 1)).1.a G (-1) (C A.c (Zj A.c (v (C (C (C A.a (u A E).1.toNat).a (u A E).2.toNat).a.a 1)).1.a).toNat).e 0)).1) (sg (Zh (ZF.Zz g))) b0))<|?_;simp[q,ZG,B];refine(aJ) ?_;refine(TF (t:=19) (j:=7) (i:=(u A E).1.toNat) (Q:=2) (M:=A.a.map ZE.row) (ds:=(YP (C A.a (u A E).1.toNat) E (Z1 (Zv A.b.a (O.mk (v (C (C (C A.a (u A E).1.toNat).a (u A E).2.toNat).a.a 1)).1.a G (-1) (C A.c (Zj A.c (v (C (C (C A.a (u A E).1.toNat).a (u A E).2.toNat).a.a 1)).1.a).toNat).e 0)).1)).1.row) (L:=[(114,1)]))<|?_;simp[Xv (x:=(YP (C A.a (u A E).1.toNat) E (Z1 (Zv A.b.a (O.mk (v (C (C (C A.a (u A E).1.toNat).a (u A E).2.toNat).a.a 1)).1.a G (-1) (C A.c (Zj A.c (v (C (C (C A.a (u A E).1.toNat).a (u A E).2.toNat).a.a 1)).1.a).toNat).e 0)).1)).1) rfl,q,ZG,YK,B];refine(aJ) ?_;exact Jq _ f
theorem RB(A:ZF)(E:YT)(g:R 2293760 A)(w:R 2293760 E):Sa 47 [A.row,E.row] [(K3 A E).1.row,rB (K3 A E).2]:=by
 have f:=me (K3.eq_1 A E);refine(so func47 ntmps47)<|(cF f) ?_ ?_<;>intro k1 I f
 ·exact(ah qW (ra A E.A (sg g)))<|rt _ f
 refine(cF f) ?_ ?_<;>intro k2 X f
 ·exact(ah qW (rU A E.A E.B E.c E.C E.D (sg g) (sg (YT.Q6 w))))<|rt _ f
 refine(cF f) ?_ ?_<;>intro k3 h3 f
 ·exact(ah qW (Aj A E.A (sg g)))<|rt _ f
 refine(cF f) ?_ ?_<;>intro k4 h4 f
 ·exact(ah qW (Bi A E.A (sg g)))<|rt _ f
 refine(cF f) ?_ ?_<;>intro k5 h5 f
 ·exact(ah qW (FT A E.A E.a E.B (sg g) (sg (YT.bl w))))<|rt _ f
 refine(cF f) ?_ ?_<;>intro k6 h6 f
 ·exact(ah qW (rT A E.A E.B E.C (sg g)))<|rt _ f
 refine(cF f) ?_ ?_<;>intro c h7 f
 ·exact(fl (B0 A E.A (sg g)))<|rt _ f
 refine(cF f) ?_ ?_<;>intro k8 h8 f
 ·exact(ah qW (wn A E.A E.B E.c (sg g) (sg (YT.Q6 w))))<|rt _ f
 refine(cF f) ?_ ?_<;>intro k9 h9 f
 ·exact(ah qW (FK A E.A E.B (sg g)))<|rt _ f
 refine(cF f) ?_ ?_<;>intro al ak f
 ·exact(ah qW (sB A E.A E.B (sg g)))<|rt _ f
 exact(ah qW (XA A (sg g)))<|rt _ f
theorem RW(h:b)(k:a:=by(intros;first|omega|with_unfolding_all (first|first|omega|(simp at I;simp only[X8]at*;omega)|(have z:=kH (E.tail.take ((W (G+1)).toNat-1)) eU;simp at I z;simp only[X8]at*;omega))|exact wt)):a/\b:=⟨k,h⟩
theorem Fo(A:ZF)(E:List ByteArray)(G:Int)(g:R 2289664 A)(w:R 2289664 E)(L:G=3\/G=4):Sa 17 [A.row,Z 1 sR E,rI G] [(WT A E G).1.row,rS (WT A E G).2]:=by
 have f:=me (WT.eq_1 A E G);refine(so func17 ntmps17)<|(bg f) ?_ ?_<;>intro k1 I f
 ·exact(ah qW (XA A (sg g)))<|rt _ f
 simp;repeat with_reducible refine RW ?_
 refine(aa (YJ.rd (jf (E.tail.take ((W (G+1)).toNat-1)) (by exact sg (Az (Eb w))))))<|(cF f) ?_ ?_<;>intro k2 X f
 ·exact(ah qW (XA A (sg g)))<|rt _ f
 refine(ac P)<|?_;have N:(W (G-1)).toNat<(Z5 (E.tail.take ((W (G+1)).toNat-1))).1.length:=dZ
 simp[N,ZG];repeat with_reducible refine RW ?_
 refine(aa (YJ.rd (ED (C (Z5 (E.tail.take ((W (G+1)).toNat-1))).1 (W (G-1)).toNat) (E.drop (W (G+1)).toNat) 11 (by exact ZT (n:=2289664) aq (xb w)))))<|(cF f) ?_ ?_<;>intro k4 h3 f
 ·exact(ah qW (XA A (sg g)))<|rt _ f
 refine(ac P)<|?_;have i2:0<(Z5 (E.tail.take ((W (G+1)).toNat-1))).1.length:=dZ
 have i3:1<(Z5 (E.tail.take ((W (G+1)).toNat-1))).1.length:=dZ;have i4:0<E.length:=dZ;simp[i2,ZG,i3,i4];repeat with_reducible refine RW ?_
 refine(ae f) ?_ ?_<;>intro k6 h4 f
 ·have d:2<(Z5 (E.tail.take ((W (G+1)).toNat-1))).1.length:=dZ;simp[d,ZG];repeat with_reducible refine RW ?_
  refine(aa (RB A (YT.mk 2 (C (Z5 (E.tail.take ((W (G+1)).toNat-1))).1 0) (C (Z5 (E.tail.take ((W (G+1)).toNat-1))).1 1) 0 (C (Z5 (E.tail.take ((W (G+1)).toNat-1))).1 2) (Y0 (C (Z5 (E.tail.take ((W (G+1)).toNat-1))).1 (W (G-1)).toNat) (E.drop (W (G+1)).toNat) 11).1 ([]:List Int)) cY cY))<|(cF f) ?_ ?_<;>intro c h5 f
  ·exact(ah qW (XA A (sg g)))<|rt _ f
  exact av P∘aa (XV A.h)<|rt _ f
 refine(aa (RB A (YT.mk 8 (C (Z5 (E.tail.take ((W (G+1)).toNat-1))).1 0) (C (Z5 (E.tail.take ((W (G+1)).toNat-1))).1 1) 0 0 (Y0 (C (Z5 (E.tail.take ((W (G+1)).toNat-1))).1 (W (G-1)).toNat) (E.drop (W (G+1)).toNat) 11).1 ([]:List Int)) cY cY))<|(cF f) ?_ ?_<;>intro k9 h6 f
 ·exact(ah qW (XA A (sg g)))<|rt _ f
 exact av P∘aa (XV A.h)<|rt _ f
theorem Ta(A:ZF)(E:YT)(g:R 2289664 A)(w:R 2289664 E):Sa 50 [A.row,E.row] [(TC A E).1.row,rS (TC A E).2]:=by
 have f:=me (TC.eq_1 A E);refine so func50 ntmps50∘aa (RB A E (sg g) (sg w))<|(cF f) ?_ ?_<;>intro k1 I f
 ·exact(ah qW (XA A (sg g)))<|rt _ f
 exact rt _ f
end Go.Proofs.YtipadonicggnbaaGreat
