/- Contracts of the functions C7 the abstract machine, part S1. No condition. -/
import Derived.Test.YtifogammcgmjpaaGreatL
import Derived.Test.YtifogammcgmjpaaGreatTy
namespace Go.Proofs.YtifogammcgmjpaaGreat
open Tryz
open Go.Vm Go.Mo
set_option maxHeartbeats 1000000
set_option maxRecDepth 100000
set_option linter.unusedSimpArgs false
set_option linter.unusedVariables false
variable{a b:Prop}
theorem yS(A C:Int):c 16 [rI A,rI C] [rI (zX A C)]:=by
 have f:=me (zX.eq_1 A C);refine so func16 ntmps16 ?_;refine cF f ?_ ?_<;>intro k1 M f
 ·exact rt [.tmp 4] f
 exact rt [.tmp 4] f
theorem Ry(A C:Int):c 15 [rI A,rI C] [rI (VU A C)]:=by
 have f:=me (VU.eq_1 A C);refine so func15 ntmps15 ?_;refine cF f ?_ ?_<;>intro k1 M f
 ·exact rt [.tmp 4] f
 exact rt [.tmp 4] f
theorem M4:Sd 17 [] [rL 5 YF.row kI]:=by have f:=me (kI.eq_1);refine ar func17 ntmps17 ?_;exact ah [.tmp 0] f
theorem Ez:Sd 18 [] [rL 3 ZS.row zh]:=by have f:=me (zh.eq_1);refine ar func18 ntmps18 ?_;exact ah [.tmp 0] f
theorem np:Sd 19 [] [rL 4 Zy.row Pg]:=by have f:=me (Pg.eq_1);refine ar func19 ntmps19 ?_;exact ah [.tmp 0] f
theorem Xz(A:List YF)(C:Int):c 64 [rL 5 YF.row A,rI C] [rI (Zz A C)]:=by
 have f:=me (Zz.eq_1 A C);refine so func64 ntmps64 ?_;refine aI (S6.eq_2 A C) (fun J=>Z6 20 [eL 0 5 A YF.row,eI 1 C,eI 5 (J:Int)]) (fun K J=>A.length<K+J/\J<=A.length) (A.length+1) 0 (fun p1 J H j1=>?_);refine aj H ?_ ?_<;>intro k2 M H
 ·have w:=ix M;have m2:=ml A (k2 0 _ rfl);have D:=wr J;refine xp w ?_;refine cF H ?_ ?_<;>intro k3 Z H
  ·exact rt [.tmp 4] (ms f H)
  exact aH D H
 exact rt [.tmp 4] (ms f H)
theorem YP(A C E:Int):c 82 [rI A,rI C,rI E] [rB (Z1 A C E)]:=by have f:=me (Z1.eq_1 A C E);refine so func82 ntmps82 ?_;exact rt [.tmp 6] f
theorem DX(A:YE):c 123 [A.row] [(V7 A).row]:=by have f:=me (V7.eq_1 A);refine so func123 ntmps123 ?_;exact rt [.cell 2 135] f
theorem xi(A:Int):c 205 [rI A] [rB (W7 A)]:=by have f:=me (W7.eq_1 A);refine so func205 ntmps205 ?_;refine aa (YP A 0 10000) ?_;exact rt [.tmp 2] f
theorem Jl(A:o):c 122 [A.row] [rB (y7 A)]:=by have f:=me (y7.eq_1 A);refine so func122 ntmps122 ?_;refine aa (xi A.d) ?_;refine ak (fun p=>xi A.c) ?_;exact rt [.tmp 2] f
theorem vx(A:YE):c 65 [A.row] [rB (Im A)]:=by have f:=me (Im.eq_1 A);refine so func65 ntmps65 ?_;refine aa (YP A.b 1 999) ?_;refine ak (fun p=>YP A.a 1 99) ?_;refine ak (fun p=>YP A.e 1 99) ?_;refine ak (fun p=>YP A.g 0 99) ?_;refine ak (fun p=>DX A) ?_;refine ak (fun p=>Jl (V7 A)) ?_;exact rt [.tmp 2] f
theorem IG(A:YE):Sd 67 [A.row] [rL 1 r (yw A)]:=by have f:=me (yw.eq_1 A);refine ar func67 ntmps67 ?_;exact ah [.tmp 2] f
theorem u2(A C:Int):c 206 [rI A,rI C] [rI (fG A C)]:=by
 have f:=me (fG.eq_1 A C);refine so func206 ntmps206 ?_;refine aa (YP C 1 1000000000000) ?_;refine aF f ?_ ?_<;>intro k1 M f
 ·have q1:=M;try simp[Z1]at q1
  simp;exact rt [.tmp 4] f
 have q1:=M;try simp[Z1]at q1
 refine aU ?_;exact rt [.tmp 4] f
theorem lS(A:List Int):c 125 [rL 1 r A] [rI (wX A)]:=by
 have f:=me (wX.eq_1 A);refine so func125 ntmps125 ?_;refine aq (EO.eq_2 A) (fun J U=>Z6 22 [eL 0 1 A r,eI 3 J,eI 4 (U:Int)]) (fun K J U=>A.length<K+U/\U<=A.length) (A.length+1) 11 0 (fun p1 J U H j1=>?_);refine aj H ?_ ?_<;>intro k2 M H
 ·have w:=ix M;have m2:=ml A (k2 0 _ rfl);have D:=wr U;refine xp w ?_;refine aa (u2 (I A U) 2147483647) ?_;exact ay D H
 exact rt [.tmp 2] (ms f H)
theorem EF(A:Int)(C:List Int)(g:R 2330624 C):c 69 [rI A,rL 1 r C] [rI (ki A C)]:=by have f:=me (ki.eq_1 A C);have c1:=sl 2330624 C g;refine so func69 ntmps69 ?_;refine aa (lS ((([A]:List Int)++C)++([A]:List Int))) ?_;exact rt [.tmp 4] f
theorem Td(A:YF)(C:List Int)(g:R 2326528 C):c 66 [A.row,rL 1 r C] [rI (WG A C)]:=by have f:=me (WG.eq_1 A C);refine so func66 ntmps66 ?_;refine vT [2,3,4,5,6,0,1,7,8] ac d d d ?_;have c1:=sl 2326528 C g;refine aU ?_;refine aa (EF A.d (([A.c]:List Int)++C) bH) ?_;exact rt [.tmp 4] f
theorem MW(A:List YF)(C:YE)(g:R 2322432 A):c 32 [rL 5 YF.row A,C.row] [(ks A C).1.row,rB (ks A C).2]:=by
 have f:=me (ks.eq_1 A C);refine so func32 ntmps32 ?_;refine aa (Xz A C.e) ?_;refine aa (vx C) ?_;refine ak (fun p=>Xz A C.a) ?_;refine cF f ?_ ?_<;>intro k1 M f
 ·exact rt _ f
 refine ae ac ?_;have w:(Zz A C.e).toNat<A.length:=by have:=Xd A C.e;exact il
 refine xp w ?_;refine aa (Z7.rd (IG C)) ?_;refine aa (Td (I A (Zz A C.e).toNat) (yw C) (by simp(maxDischargeDepth:=12) [ID];try omega)) ?_;exact rt _ f
theorem oY:Sd 20 [] [rL 7 YE.row PJ]:=by have f:=me (PJ.eq_1);refine ar func20 ntmps20 ?_;refine aa (Z7.rd (M4)) ?_;refine aa (MW kI (YE.mk 1 11 1 0 60 1 0) eP) ?_;refine aa (Z7.rd (M4)) ?_;refine aa (MW kI (YE.mk 2 12 1 20 100 1 0) eP) ?_;refine aa (Z7.rd (M4)) ?_;refine aa (MW kI (YE.mk 3 13 2 40 150 2 0) eP) ?_;exact ah [.tmp 0] f
theorem DN(A:Int):Sd 9 [rI A] [(Yj A).row]:=by
 have f:=me (Yj.eq_1 A);refine ar func9 ntmps9 ?_;refine aa (yS 0 A) ?_;refine aa (Ry 1 (zX 0 A)) ?_;refine ai [false] (M4) ?_;refine ai [false] (Ez) ?_;refine ai [false] (np) ?_;refine ai [false] (oY) ?_;refine fi (am:=([ZD.mk 0 ([]:List ZU),ZD.mk 1 ([]:List ZU)]:List ZD).map ZD.row) (L:=[]) rfl rfl rfl rfl ab ab ab ab ab ab ?_;simp;refine cF f ?_ ?_<;>intro k1 M f
 ·exact ah _ f
 exact ah _ f
theorem Pn(h:b)(k:a:=by(intros;first|omega|with_unfolding_all (first|first|omega|(simp at*;omega))|(simp_all;done)|(simp_all;omega)|grind|exact wt)):a/\b:=⟨k,h⟩
theorem vl(A:ByteArray)(g:R 2342912 A):Sd 21 [rS A] [rL 1 N (QF A)]:=by
 have f:=me (QF.eq_1 A);refine ar func21 ntmps21 ?_;refine bu (zL.eq_2 A) (fun J U y=>Z6 37 [(0,.one (.d (.str A)),[]),(3,.one (.E 3 0 0 J.length),[.arr false 1 (J.map N)]),(4,.one (.d (.str U)),[]),eI 5 (y:Int)]) (fun K J U y=>A.size+1<K+y/\J.length<=y/\y<=A.size+1/\U.size<=y) (A.size+2) ([]:List ByteArray) (⟨#[]⟩:ByteArray) 0 (fun p1 J U y H j1=>?_) (h0:=az [((3,0),some (6,0))] []);refine cF H ?_ ?_<;>intro k2 M H
 ·have c1:A.size<=2342912:=XR (xs g);have D:=wr y;refine bp ?_ ?_<;>intro G
  ·have g1:=G;try simp at g1
   simp[G];repeat with_reducible refine Pn ?_
   refine aE H ?_ ?_<;>intro k3 Z H
   ·have w2:=wr y;simp[G];repeat with_reducible refine Pn ?_
    exact a3 (an w2 G) H (v:=by(have hh:=of_decide_eq_true M;(try dsimp only);refine⟨Y,Y,by first|omega|(rw[List.length_append];show _+1<=_;omega),Y,by first|exact Nat.zero_le _|(have hw:W ((y:Int)+1)=(y:Int)+1:=YB Y Y;simp[hw];omega)⟩))
   ·simp[G];refine aE H ?_ ?_<;>intro k4 h3 H
    ·simp[G];repeat with_reducible refine Pn ?_
     exact be H (v:=by(have hh:=of_decide_eq_true M;(try dsimp only);refine⟨Y,Y,by first|omega|(rw[List.length_append];show _+1<=_;omega),Y,by first|exact Nat.zero_le _|(have hw:W ((y:Int)+1)=(y:Int)+1:=YB Y Y;simp[hw];omega)⟩)) (hw:=YR [((3,0),some (35,0))] [] rfl bv)
    ·simp[G];exact a3 (an D G) H (v:=by(have hh:=of_decide_eq_true M;(try dsimp only);refine⟨Y,Y,by first|omega|(rw[List.length_append];show _+1<=_;omega),Y,by first|exact Nat.zero_le _|(have hw:W ((y:Int)+1)=(y:Int)+1:=YB Y Y;simp[hw];omega)⟩))
  ·simp[G];refine aE H ?_ ?_<;>intro k5 h4 H
   ·simp[G]at h4
   ·simp[G];refine aE H ?_ ?_<;>intro b h5 H
    ·simp[G];repeat with_reducible refine Pn ?_
     exact be H (v:=by(have hh:=of_decide_eq_true M;(try dsimp only);refine⟨Y,Y,by first|omega|(rw[List.length_append];show _+1<=_;omega),Y,by first|exact Nat.zero_le _|(have hw:W ((y:Int)+1)=(y:Int)+1:=YB Y Y;simp[hw];omega)⟩)) (hw:=YR [((3,0),some (35,0))] [] rfl bv)
    ·simp[G];exact a3 (an D G) H (v:=by(have hh:=of_decide_eq_true M;(try dsimp only);refine⟨Y,Y,by first|omega|(rw[List.length_append];show _+1<=_;omega),Y,by first|exact Nat.zero_le _|(have hw:W ((y:Int)+1)=(y:Int)+1:=YB Y Y;simp[hw];omega)⟩))
 exact ah [.tmp 2] (ms f H)
theorem rp(A:ZI)(g:R 2342912 A):Sd 33 [A.row] [(CM A).row]:=by have f:=me (CM.eq_1 A);have c1:=sl 2342912 A.a g;have c2:=sl 2342912 A.b g;have c3:=sl 2342912 A.c g;refine ar func33 ntmps33 ?_;exact ah _ f
theorem ul(A:ZI)(g:R 2342912 A):Sd 33 [A.row] [A.row]:=by have h:=rp A g;rwa[qr]at h
theorem nB(A:ZO)(g:R 2342912 A):Sd 124 [A.row] [(pR A).row]:=by have f:=me (pR.eq_1 A);refine ar func124 ntmps124 ?_;refine vT [2,3,4,5,6,7,8,9,0,1,10,11] ac d d d ?_;have c1:=sl 2342912 A.b g;have c2:=sl 2342912 A.d g;refine aU ?_;exact ah _ f
theorem BW(A:ZO)(g:R 2342912 A):Sd 124 [A.row] [A.row]:=by have h:=nB A g;rwa[nN]at h
theorem pn(A:ZK)(g:R 2342912 A):Sd 227 [A.row] [(vF A).row]:=by have f:=me (vF.eq_1 A);refine ar func227 ntmps227 ?_;refine vT [2,3,4,5,0,1,6,7,8,9] ac d d d ?_;have c1:=sl 2342912 A.b g;refine aU ?_;exact ah _ f
theorem Pz(A:ZK)(g:R 2342912 A):Sd 227 [A.row] [A.row]:=by have h:=pn A g;rwa[oe]at h
theorem lu(A:List ZK)(g:R 2338816 A):Sd 149 [rL 3 ZK.row A] [rL 3 ZK.row (BH A)]:=by
 have f:=me (BH.eq_1 A);refine ar func149 ntmps149 ?_;refine fi (am:=([]:List ZK).map ZK.row) (L:=[]) rfl rfl rfl rfl ab ab ab ab ab ab ?_;simp;refine aq (H6.eq_2 A) (fun J U=>Z6 21 [eL 0 3 A ZK.row,(3,.one (.E 3 0 0 J.length),[.arr true 3 (J.map ZK.row)]),eI 4 (U:Int)]) (fun K J U=>A.length<K+U/\U<=A.length/\J.length<=0+1*U) (A.length+1) ([]:List ZK) 0 (fun p1 J U H j1=>?_) (h0:=az [((3,0),some (5,0))] []);refine aj H ?_ ?_<;>intro k2 M H
 ·have w:=ix M;have m2:=ml A (k2 0 _ rfl);have c1:=sl 2338816 A g;have D:=wr U;refine xp w ?_;refine ai [true,false] (Pz (I A U) (B (ZY g))) ?_;refine SN ?_;simp;refine OT (au:=J.map ZK.row) (am:=([I A U]:List ZK).map ZK.row) (l1:=[(3,0)]) (l2:=[(17,1)]) (X:=3) ?_;simp;exact aB H (hw:=YR [((3,0),some (19,0))] [] rfl ad)
 exact ah [.tmp 2] (ms f H)
theorem QK(A:List ZK)(g:R 2338816 A):Sd 149 [rL 3 ZK.row A] [rL 3 ZK.row A]:=by have h:=lu A g;rwa[T0]at h
theorem rM(A:ZZ)(g:R 2342912 A):Sd 150 [A.row] [(w7 A).row]:=by have f:=me (w7.eq_1 A);have c1:=sl 2342912 A.b g;have c2:=sl 2342912 A.a g;refine ar func150 ntmps150 ?_;exact ah _ f
theorem Dl(A:ZZ)(g:R 2342912 A):Sd 150 [A.row] [A.row]:=by have h:=rM A g;rwa[r1]at h
theorem pC(A:ZR)(g:R 2334720 A):Sd 86 [A.row] [(En A).row]:=by
 have f:=me (En.eq_1 A);refine ar func86 ntmps86 ?_;refine ai [] (QK A.b (B (ZR.Yp g))) ?_;refine aq (M3.eq_2 A) (fun J U=>Z6 28 [eX 1 (A.row.map .d),(2,.one (.O 2 0),[.box [.nil 3,.nil 5]]),(3,.one (.O 3 0),[.box [.E 7 0 0 A.b.length,.E 3 2 0 U.length],.none,.arr true 5 (U.map ZZ.row)]),eI 4 (J:Int),(7,.any,[.arr true 3 (A.b.map ZK.row)])]) (fun K J U=>A.a.length<K+J/\J<=A.a.length/\U.length<=0+1*J) (A.a.length+1) 0 ([]:List ZZ) (fun p1 J U H j1=>?_) (h0:=az [((3,2),none)] []);refine cF H ?_ ?_<;>intro k2 M H
 ·have w:=ix M;have m2:=ml A.a (k2 11 _ rfl);have c1:=sl 2334720 A.a g;have D:=wr J;refine bc [25] ac ?_;refine xp w ?_;refine ai [true,true,true,false,false] (Dl (I A.a J) (B (ZY (ZR.QK g)))) ?_;refine SN ?_;simp;refine OT (au:=U.map ZZ.row) (am:=([I A.a J]:List ZZ).map ZZ.row) (l1:=[(3,2)]) (l2:=[(23,3),(23,4)]) (X:=5) ?_;simp;exact aB H (hw:=YR [((3,2),some (25,0))] [] rfl ad)
 exact ah [.cell 2 103] (ms f H)
theorem xX(A:ZR)(g:R 2334720 A):Sd 86 [A.row] [A.row]:=by have h:=pC A g;rwa[LD]at h
theorem nQ(A:ZU)(g:R 2330624 A):Sd 68 [A.row] [(Aw A).row]:=by have f:=me (Aw.eq_1 A);refine ar func68 ntmps68 ?_;refine ai [true,false,false] (BW A.c (B (ZU.JM g))) ?_;refine ai [] (xX A.a (B (ZU.YM g))) ?_;exact ah _ f
theorem yE(A:ZU)(g:R 2330624 A):Sd 68 [A.row] [A.row]:=by have h:=nQ A g;rwa[ru]at h
theorem u3(A:ZD)(g:R 2326528 A):Sd 34 [A.row] [(Ej A).row]:=by
 have f:=me (Ej.eq_1 A);refine ar func34 ntmps34 ?_;refine aq (LX.eq_2 A) (fun J U=>Z6 27 [eX 1 (A.row.map .d),(2,.one (.O 2 0),[.box [.d (.int .i64 0),.nil 16]]),(3,.one (.O 3 0),[.box [.d (.int .i64 A.b),.E 3 2 0 U.length],.none,.arr true 16 (U.map ZU.row)]),eI 4 (J:Int)]) (fun K J U=>A.a.length<K+J/\J<=A.a.length/\U.length<=0+1*J) (A.a.length+1) 0 ([]:List ZU) (fun p1 J U H j1=>?_) (h0:=az [((3,2),none)] []);refine cF H ?_ ?_<;>intro k2 M H
 ·have w:=ix M;have m2:=ml A.a (k2 10 _ rfl);have c1:=sl 2326528 A.a g;have D:=wr J;refine bc [24] ac ?_;refine xp w ?_;refine ai [true,true,true,false,false] (yE (I A.a J) (B (ZY (ZD.Z8 g)))) ?_;refine SN ?_;simp;refine OT (au:=U.map ZU.row) (am:=([I A.a J]:List ZU).map ZU.row) (l1:=[(3,2)]) (l2:=[(22,3),(22,4),(22,14),(22,15)]) (X:=16) ?_;simp;exact aB H (hw:=YR [((3,2),some (24,0))] [] rfl ad)
 exact ah [.cell 2 50] (ms f H)
theorem JA(A:ZD)(g:R 2326528 A):Sd 34 [A.row] [A.row]:=by have h:=u3 A g;rwa[Sk]at h
theorem tO(A:P)(g:R 2322432 A):Sd 22 [A.row] [(Eh A).row]:=by
 have f:=me (Eh.eq_1 A);refine ar func22 ntmps22 ?_;refine vT [0,1,2,3,4,5,6,7,8,9,10,11,12,13,14,15,16,17,18,21,22,23,24,19,20,25,26,27] ac d d d ?_;simp;have c1:=sl 2322432 A.c g;have c2:=sl 2322432 A.d g;have c3:=sl 2322432 A.e g;have c4:=sl 2322432 A.f g;have c5:=sl 2322432 A.g g;refine ai [false,false,false] (ul A.b (B (P.Yc g))) ?_;refine aq (La.eq_2 A) (fun J U=>Z6 50 [eX 1 (A.row.map .d),(2,.one (.O 2 0),[.box [.nil 5,.nil 3,.nil 4,.d (.int .i64 0),.d (.int .i64 0),.nil 7,.nil 1,.nil 2,.nil 1,.nil 1,.d (.int .i64 0),.nil 1]]),(3,.one (.O 3 0),[.box [.E 7 0 0 A.b.a.length,.E 7 1 0 A.b.b.length,.E 7 2 0 A.b.c.length,.d (.int .i64 A.b.e),.d (.int .i64 A.b.d),.E 11 0 0 A.c.length,.E 15 0 0 A.d.length,.E 3 8 0 U.length,.E 19 0 0 A.e.length,.E 23 0 0 A.f.length,.d (.int .i64 A.h),.E 29 0 0 A.g.length],.none,.none,.none,.none,.none,.none,.none,.arr true 2 (U.map ZD.row)]),eI 4 (J:Int),(7,.any,[.arr false 5 (A.b.a.map YF.row),.arr false 3 (A.b.b.map ZS.row),.arr false 4 (A.b.c.map Zy.row)]),(11,.any,[.arr false 7 (A.c.map YE.row)]),(15,.any,[.arr false 1 (A.d.map r)]),(19,.any,[.arr false 1 (A.e.map r)]),(23,.any,[.arr false 1 (A.f.map r)]),(29,.any,[.arr false 1 (A.g.map r)])]) (fun K J U=>A.a.length<K+J/\J<=A.a.length/\U.length<=0+1*J) (A.a.length+1) 0 ([]:List ZD) (fun p1 J U H j1=>?_) (h0:=az [((3,8),none)] []);refine cF H ?_ ?_<;>intro k3 M H
 ·have w:=ix M;have m2:=ml A.a (k3 33 _ rfl);have c6:=sl 2322432 A.a g;have D:=wr J;refine bc [47] ac ?_;refine xp w ?_;refine ai [] (JA (I A.a J) (B (ZY (P.Zs g)))) ?_;refine SN ?_;simp;refine OT (au:=U.map ZD.row) (am:=([I A.a J]:List ZD).map ZD.row) (l1:=[(3,8)]) (l2:=[(45,1)]) (X:=2) ?_;simp;exact aB H (hw:=YR [((3,8),some (47,0))] [] rfl ad)
 exact ah [.cell 2 37] (ms f H)
theorem Y3(A:P)(g:R 2322432 A):Sd 22 [A.row] [A.row]:=by have h:=tO A g;rwa[pu]at h
theorem XP(A:Int):c 38 [rI A] [rS (XK A)]:=by
 have f:=me (XK.eq_1 A);refine so func38 ntmps38 ?_;refine cF f ?_ ?_<;>intro k1 M f
 ·exact rt _ f
 refine aq (zz.eq_2) (fun J U=>Z6 31 [eI 0 A,(3,.one (.d (.str J)),[]),eI 4 U]) (fun K J U=>(K=22\/U.natAbs<10^(K-1))/\J.size+K=22) 22 (⟨#[]⟩:ByteArray) A (fun p1 J U H j1=>?_) (v:=by exact⟨Y,.inl rfl,rfl⟩);refine cF H ?_ ?_<;>intro k3 Z H
 ·refine cF H ?_ ?_<;>intro k4 h3 H
  ·refine cB (l:=([UInt8.ofInt (W (48+W (-Int.tmod U 10)))]:List UInt8)) rfl rfl rfl ab ab ab (by simp[y9]) ?_;refine aU ?_;exact aB H (v:=by(try dsimp only);obtain⟨a,d⟩:=fX j1.2.1 Z;refine⟨a,d,?_⟩;have:=j1.2.2;simp;omega)
  refine cB (l:=([UInt8.ofInt (W (48+Int.tmod U 10))]:List UInt8)) rfl rfl rfl ab ab ab (by simp[y9]) ?_;refine aU ?_;exact aB H (v:=by(try dsimp only);obtain⟨a,d⟩:=fX j1.2.1 Z;refine⟨a,d,?_⟩;have:=j1.2.2;simp;omega)
 have f:=ms f H;refine cF f ?_ ?_<;>intro k5 h4 f
 ·exact rt _ f
 exact rt _ f
theorem DU(h:b)(k:a:=by(intros;first|omega|with_unfolding_all (first|first|omega|(simp at Z;omega))|exact wt)):a/\b:=⟨k,h⟩
theorem jh(A:ByteArray)(g:R 2338816 A):c 39 [rS A] [rI (Xh A).1,rB (Xh A).2]:=by
 have f:=me (Xh.eq_1 A);refine so func39 ntmps39 ?_;refine aa (YP (A.size:Int) 1 13) ?_;refine aF f ?_ ?_<;>intro k1 M f
 ·have q1:=M;try simp[Z1]at q1
  simp;exact rt _ f
 have q1:=M;try simp[Z1]at q1
 simp;refine aq (xP.eq_2 A) (fun J U=>Z6 39 [(0,.one (.d (.str A)),[]),eI 4 J,eI 5 (U:Int)]) (fun K J U=>A.size<K+U/\U<=A.size) (A.size+1) 0 0 (fun p1 J U H j1=>?_);refine aj H ?_ ?_<;>intro k3 Z H
 ·have D:=wr U;simp;repeat with_reducible refine DU ?_
  refine aa (YP (W ((a7 A U):Int)) 48 57) ?_;refine aF H ?_ ?_<;>intro k4 h3 H
  ·have q3:=h3;try simp[Z1]at q3
   have f:=ms f H;simp;exact rt _ f
  have q3:=h3;try simp[Z1]at q3
  simp;repeat with_reducible refine DU ?_
  exact ay D H
 have f:=ms f H;refine ak (fun p=>XP J) ?_;refine cF f ?_ ?_<;>intro k5 h4 f
 ·exact rt _ f
 exact rt _ f
theorem Uv(A:List ByteArray)(g:R 2334720 A):Sd 35 [rL 1 N A] [rL 1 r (Z2 A).1,rB (Z2 A).2]:=by
 have f:=me (Z2.eq_1 A);refine ar func35 ntmps35 ?_;refine aq (Jp.eq_2 A) (fun J U=>Z6 31 [eL 0 1 A N,(4,.one (.E 4 0 0 J.length),[.arr false 1 (J.map r)]),eI 5 (U:Int)]) (fun K J U=>A.length<K+U/\U<=A.length/\J.length<=0+1*U) (A.length+1) ([]:List Int) 0 (fun p1 J U H j1=>?_) (h0:=az [((4,0),some (8,0))] []);refine aj H ?_ ?_<;>intro k2 M H
 ·have w:=ix M;have m2:=ml A (k2 0 _ rfl);have c1:=sl 2334720 A g;have D:=wr U;refine xp w ?_;refine aa (jh (I A U) (B (ZY g))) ?_;refine cF H ?_ ?_<;>intro k3 Z H
  ·exact ah [.tmp 2,.tmp 3] (ms f H)
  exact aB H (hw:=YR [((4,0),some (29,0))] [] rfl ad)
 exact ah [.tmp 2,.tmp 3] (ms f H)
theorem W2(A:ZO):c 70 [A.row] [rB (J6 A)]:=by
 have f:=me (J6.eq_1 A);refine so func70 ntmps70 ?_;refine aI (yU.eq_2 A) (fun J=>Z6 51 [eX 1 (A.row.map .d),eI 3 (J:Int)]) (fun K J=>A.b.length<K+J/\J<=A.b.length) (A.b.length+1) 0 (fun p1 J H j1=>?_);refine aj H ?_ ?_<;>intro k2 M H
 ·have w:=ix M;have m2:=ml A.b (k2 7 _ rfl);have D:=wr J;refine xp w ?_;refine cF H ?_ ?_<;>intro k3 Z H
  ·exact rt [.tmp 2] (ms f H)
  exact aH D H
 have f:=ms f H;refine aI (yb.eq_2 A) (fun T=>Z6 51 [eX 1 (A.row.map .d),eI 4 (T:Int)]) (fun n2 T=>A.d.length<n2+T/\T<=A.d.length) (A.d.length+1) 0 (fun p2 T e2 j2=>?_);refine aj e2 ?_ ?_<;>intro k5 h3 e2
 ·have V:=ix h3;have m4:=ml A.d (k5 21 _ rfl);have w2:=wr T;refine xp V ?_;refine aa (YP (I A.d T) 1 1000000000000) ?_;refine aF e2 ?_ ?_<;>intro b h4 e2
  ·have q4:=h4;try simp[Z1]at q4
   have f:=ms f e2;simp;exact rt [.tmp 2] f
  have q4:=h4;try simp[Z1]at q4
  simp;exact aH w2 e2
 have f:=ms f e2;refine aa (YP A.e 0 999) ?_;refine ak (fun p=>YP (A.b.length:Int) 1 6) ?_;exact rt [.tmp 2] f
theorem G6(A:Int):c 71 [rI A] [rB (U1 A)]:=by have f:=me (U1.eq_1 A);refine so func71 ntmps71 ?_;refine aa (YP A 1 2147483646) ?_;exact rt [.tmp 2] f
theorem Xg(A:Int)(C:List ByteArray)(E:Int)(g:R 2326528 C):Sd 36 [rI A,rL 1 N C,rI E] [(QM A C E).1.row,rB (QM A C E).2]:=by
 have f:=me (QM.eq_1 A C E);have c1:=sl 2326528 C g;refine ar func36 ntmps36 ?_;refine aq (zn.eq_2 A C E) (fun J U=>Z6 42 [eI 0 A,eL 1 1 C N,eI 2 E,(6,.one (.O 6 0),[.box [.d (.int .i64 0),.nil 1,.nil 1]]),(8,.one (.O 8 0),[.box [.d (.int .i64 A),.E 13 0 0 C.length,.E 8 3 0 U.length],.none,.none,.arr false 1 (U.map r)]),eI 9 (J:Int),(13,.any,[.arr false 1 (C.map N)])]) (fun K J U=>C.length<K+J/\J<=C.length/\U.length<=0+1*J) (C.length+1) 0 ([]:List Int) (fun p1 J U H j1=>?_) (h0:=az [((8,3),none)] []);refine cF H ?_ ?_<;>intro k2 M H
 ·have w:=ix M;have D:=wr J;refine aw ac ?_;refine aa (EF E ([A,(J:Int)]:List Int) kf) ?_;refine aa (yS 1 (ki E ([A,(J:Int)]:List Int))) ?_;exact aB H (hw:=YR [((8,3),some (30,0))] [] rfl ad)
 have f:=ms f H;refine aa (W2 (ZO.mk A C U)) ?_;refine ak (fun p=>G6 E) ?_;refine cF f ?_ ?_<;>intro k4 Z f
 ·exact ah [.cell 6 74,.tmp 7] f
 exact ah [.cell 6 74,.tmp 7] f
theorem rG(A:P)(C:Int)(g:R 2318336 A):Sd 72 [A.row,rI C] [(V5 A C).1.row,rB (V5 A C).2]:=by
 have f:=me (V5.eq_1 A C);refine ar func72 ntmps72 ?_;refine ai qW (Y3 A (B g)) ?_;refine aa (YP C 0 100) ?_;refine aF f ?_ ?_<;>intro k1 M f
 ·have q1:=M;try simp[Z1]at q1
  simp;exact ah _ f
 have q1:=M;try simp[Z1]at q1
 simp;exact ah _ f
theorem Sj(A:P)(C:Int):c 126 [A.row,rI C] [rB (J8 A C)]:=by have f:=me (J8.eq_1 A C);refine so func126 ntmps126 ?_;refine aa (YP C 0 (W ((A.a.length:Int)-1))) ?_;exact rt [.tmp 4] f
theorem T1(A:List Zy)(C:Int):c 134 [rL 4 Zy.row A,rI C] [rI (Zv A C)]:=by
 have f:=me (Zv.eq_1 A C);refine so func134 ntmps134 ?_;refine aq (jz.eq_2 A C) (fun J U=>Z6 54 [eL 0 4 A Zy.row,eI 1 C,eI 5 J,eI 6 (U:Int)]) (fun K J U=>A.length<K+U/\U<=A.length/\-1<=J/\J<(A.length:Int)) (A.length+1) (-1) 0 (fun p1 J U H j1=>?_);refine cF H ?_ ?_<;>intro k2 M H
 ·have w:=ix M;have m2:=ml A (k2 0 _ rfl);have D:=wr U;refine ae ac ?_;refine xp w ?_;refine aK ?_ ?_<;>intro G
  ·refine xg w ?_;refine aJ G ?_ ?_<;>intro G
   ·all_goals
     refine xg w ?_;refine gK (fun _=>?_);have V:=ik J.toNat A
     refine xg V ?_;refine cK H ?_ ?_<;>intro k4 Z H
     ·exact ay (an D G) H
     ·exact ay (an D G) H
   ·all_goals
     refine aR ?_;refine cK H ?_ ?_<;>intro k5 h3 H
     ·exact ay (an D G) H
     ·exact ay (an D G) H
  ·refine aJ G ?_ ?_<;>intro G
   ·try(simp at G;done)
    all_goals
     refine xg w ?_;refine gK (fun _=>?_);have i4:=ik J.toNat A
     refine xg i4 ?_;refine cK H ?_ ?_<;>intro b h4 H
     ·simp[G]at h4
     ·simp[G]at h4
   ·all_goals
     refine aR ?_;refine cK H ?_ ?_<;>intro l h5 H
     ·simp[G]at h5
     ·exact ay (an D G) H
 have f:=ms f H;refine aQ f ?_ ?_<;>intro k8 h6 f
 ·exact rt [.tmp 4] f
 have i6:=ik J.toNat A;refine xp i6 ?_;exact rt [.tmp 4] f
theorem td(A:P)(C:Int):c 207 [A.row,rI C] [rI (QL A C)]:=by
 have f:=me (QL.eq_1 A C);refine so func207 ntmps207 ?_;refine aI (yC.eq_2 A C) (fun J=>Z6 22 [eI 1 C,eX 2 (A.row.map .d),eI 5 (J:Int)]) (fun K J=>A.c.length<K+J/\J<=A.c.length) (A.c.length+1) 0 (fun p1 J H j1=>?_);refine aj H ?_ ?_<;>intro k2 M H
 ·have w:=ix M;have m2:=ml A.c (k2 8 _ rfl);have D:=wr J;refine xp w ?_;refine cF H ?_ ?_<;>intro k3 Z H
  ·exact rt [.tmp 4] (ms f H)
  exact aH D H
 exact rt [.tmp 4] (ms f H)
theorem KS(A:Int)(C:List Int)(g:R 68719476736 C):c 276 [rI A,rL 1 r C] [rI (KB A C)]:=by have f:=me (KB.eq_1 A C);have c1:=sl 68719476736 C g;refine so func276 ntmps276 ?_;refine aa (lS (([7,A]:List Int)++C)) ?_;exact rt [.tmp 4] f
theorem Tv(A:Int)(C:ByteArray)(E:Int)(g:R 2326528 C):c 233 [rI A,rS C,rI E] [rI (jQ A C E)]:=by
 have f:=me (jQ.eq_1 A C E);refine so func233 ntmps233 ?_;refine aq (VY.eq_2 C) (fun J U=>Z6 27 [eI 0 A,(1,.one (.d (.str C)),[]),(7,.one (.E 7 0 0 J.length),[.arr false 1 (J.map r)]),eI 8 (U:Int)]) (fun K J U=>C.size<K+U/\U<=C.size/\J.length<=1+1*U) (C.size+1) ([E]:List Int) 0 (fun p1 J U H j1=>?_) (h0:=az [((7,0),some (10,0))] []);refine aF H ?_ ?_<;>intro k2 M H
 ·have q1:=M;try simp at q1
  have c1:C.size<=2326528:=XR (xs g);have D:=wr U;refine aU ?_;exact aB H (hw:=YR [((7,0),some (23,0))] [] rfl ad)
 have q1:=M;try simp at q1
 have c2:C.size<=2326528:=XR (xs g);have f:=ms f H;simp;refine aa (KS A J bG) ?_;exact rt [.tmp 6] f
theorem RX(A:Int)(C:ZO)(g:R 2322432 C):c 209 [rI A,C.row] [rI (JG A C)]:=by
 have f:=me (JG.eq_1 A C);refine so func209 ntmps209 ?_;refine aa (W2 C) ?_;refine cF f ?_ ?_<;>intro k1 M f
 ·exact rt [.tmp 4] f
 refine aq (TM.eq_2 A C) (fun J U=>Z6 38 [eI 0 A,eX 3 (C.row.map .d),(5,.one (.E 5 0 0 J.length),[.arr false 1 (J.map r)]),eI 6 (U:Int)]) (fun K J U=>C.b.length<K+U/\U<=C.b.length/\J.length<=1+1*U) (C.b.length+1) ([C.e]:List Int) 0 (fun p1 J U H j1=>?_) (h0:=az [((5,0),some (12,0))] []);refine cF H ?_ ?_<;>intro k3 Z H
 ·have w:=ix Z;have m2:=ml C.b (k3 15 _ rfl);have c1:=sl 2322432 C.b g;have D:=wr U;refine ae ac ?_;have V:U<C.d.length:=by(have:=wY (a:=C);first|(simp_all;done)|(simp_all;omega))
  refine xp (an w V) ?_;refine aa (Tv A (I C.b U) (I C.d U) (B (ZY (ZO.qo g)))) ?_;exact aB H (hw:=YR [((5,0),some (34,0))] [] rfl ad)
 have c2:=sl 2322432 C.b g;have f:=ms f H;refine aa (KS A J bG) ?_;exact rt [.tmp 4] f
theorem PY(A:G):c 274 [A.row] [rB (xh A)]:=by have f:=me (xh.eq_1 A);refine so func274 ntmps274 ?_;refine aa (YP A.a 1 99) ?_;refine ak (fun p=>YP A.b 1 999) ?_;refine ak (fun p=>YP A.c 0 99) ?_;refine ak (fun p=>YP A.g 0 99) ?_;refine ak (fun p=>YP A.h 1 3) ?_;refine ak (fun p=>YP A.e 0 1000000000000) ?_;refine ak (fun p=>YP A.i 0 1000000000000) ?_;refine ak (fun p=>YP A.d 0 1000000000000) ?_;exact rt [.tmp 2] f
theorem SF(A:G):Sd 275 [A.row] [rL 1 r (Qg A)]:=by have f:=me (Qg.eq_1 A);refine ar func275 ntmps275 ?_;exact ah [.tmp 2] f
theorem uN(A:List YF)(C:G)(g:R 2322432 A):c 208 [rL 5 YF.row A,C.row] [(xM A C).1.row,rB (xM A C).2]:=by
 have f:=me (xM.eq_1 A C);refine so func208 ntmps208 ?_;refine aa (Xz A C.a) ?_;refine aa (PY C) ?_;refine cF f ?_ ?_<;>intro k1 M f
 ·exact rt _ f
 refine ae ac ?_;have w:(Zz A C.a).toNat<A.length:=by have:=Xd A C.a;exact il
 refine xp w ?_;refine aa (Z7.rd (SF C)) ?_;refine aa (Td (I A (Zz A C.a).toNat) (Qg C) (by simp(maxDischargeDepth:=12) [SO];try omega)) ?_;exact rt _ f
theorem MZ(A:G):Sd 210 [A.row] [(Xu A).row]:=by have f:=me (Xu.eq_1 A);refine ar func210 ntmps210 ?_;refine aw ac ?_;refine ai [false] (SF A) ?_;exact ah _ f
theorem rq(A:YE):Sd 211 [A.row] [(Sy A).row]:=by have f:=me (Sy.eq_1 A);refine ar func211 ntmps211 ?_;refine aw ac ?_;refine ai [false] (IG A) ?_;exact ah _ f
theorem Cy(A:P)(C:Int)(E:ZO)(N T:Int)(g:R 2318336 A)(S:R 2318336 E):So 127 [A.row,rI C,E.row,rI N,rI T] [(QV A C E N T).1.row,rB (QV A C E N T).2]:=by
 have f:=me (QV.eq_1 A C E N T);refine so func127 ntmps127 ?_;refine aa (T1 A.b.c A.b.d) ?_;refine aa (td A C) ?_;refine cF f ?_ ?_<;>intro k1 M f
 ·exact bJ _ f
 refine ae ac ?_;have w:(QL A C).toNat<A.c.length:=by have:=PP A C;exact il
 refine xp w ?_;refine aa (RX (Zv A.b.c A.b.d) E (B S)) ?_;refine aa (uN A.b.a (G.mk C (I A.c (QL A C).toNat).b (Zv A.b.c A.b.d) (JG (Zv A.b.c A.b.d) E) 1 N 0 0 0) (B (ZI.Yf (P.Yc g)))) ?_;refine aw ac ?_;refine ai [true,false,false] (BW E (B S)) ?_;refine fI w (Z7.rd (MZ (xM A.b.a (G.mk C (I A.c (QL A C).toNat).b (Zv A.b.c A.b.d) (JG (Zv A.b.c A.b.d) E) 1 N 0 0 0)).1)) ?_;refine aa (Z7.rd (rq (I A.c (QL A C).toNat))) ?_;refine bA ?_;exact bJ _ f
theorem QW(A C:List Int):c 391 [rL 1 r A,rL 1 r C] [rB (M6 A C)]:=by
 have f:=me (M6.eq_1 A C);refine so func391 ntmps391 ?_;refine cF f ?_ ?_<;>intro k1 M f
 ·exact rt [.tmp 4] f
 refine aI (Ic.eq_2 A C) (fun J=>Z6 26 [eL 0 1 A r,eL 1 1 C r,eI 5 (J:Int)]) (fun K J=>A.length<K+J/\J<=A.length) (A.length+1) 0 (fun p1 J H j1=>?_);refine cF H ?_ ?_<;>intro k3 Z H
 ·have w:=ix Z;have m2:=ml A (k3 0 _ rfl);have D:=wr J;refine ae ac ?_;have V:=ik J C;refine xp (an w V) ?_;refine cF H ?_ ?_<;>intro k5 h3 H
  ·exact rt [.tmp 4] (ms f H)
  exact aH D H
 exact rt [.tmp 4] (ms f H)
theorem jw(A C:ZK):c 340 [A.row,C.row] [rB (xk A C)]:=by have f:=me (xk.eq_1 A C);refine so func340 ntmps340 ?_;refine ak (fun p=>QW A.b C.b) ?_;exact rt [.tmp 4] f
theorem Ec(A:ZR)(C:ZK):c 283 [A.row,C.row] [rI (xW A C)]:=by
 have f:=me (xW.eq_1 A C);refine so func283 ntmps283 ?_;refine aI (VH.eq_2 A C) (fun J=>Z6 21 [eX 2 (A.row.map .d),eX 3 (C.row.map .d),eI 5 (J:Int)]) (fun K J=>A.b.length<K+J/\J<=A.b.length) (A.b.length+1) 0 (fun p1 J H j1=>?_);refine cF H ?_ ?_<;>intro k2 M H
 ·have w:=ix M;have m2:=ml A.b (k2 8 _ rfl);have D:=wr J;refine ae ac ?_;refine xp w ?_;refine aa (jw (I A.b J) C) ?_;refine cF H ?_ ?_<;>intro k4 Z H
  ·exact rt [.tmp 4] (ms f H)
  exact aH D H
 exact rt [.tmp 4] (ms f H)
theorem IU(A:ZR):c 226 [A.row] [rB (Wd A)]:=by
 have f:=me (Wd.eq_1 A);refine so func226 ntmps226 ?_;refine aI (RV.eq_2 A) (fun J=>Z6 69 [eX 1 (A.row.map .d),eI 3 (J:Int)]) (fun K J=>A.b.length<K+J/\J<=A.b.length) (A.b.length+1) 0 (fun p1 J H j1=>?_);refine cF H ?_ ?_<;>intro k2 M H
 ·have w:=ix M;have m2:=ml A.b (k2 7 _ rfl);have D:=wr J;refine ae ac ?_;refine xp w ?_;refine aa (Ec A (I A.b J)) ?_;refine cF H ?_ ?_<;>intro k4 Z H
  ·exact rt [.tmp 2] (ms f H)
  exact aH D H
 have f:=ms f H;refine aI (RR.eq_2 A) (fun T=>Z6 69 [eX 1 (A.row.map .d),eI 4 (T:Int)]) (fun n2 T=>A.a.length<n2+T/\T<=A.a.length) (A.a.length+1) 0 (fun p2 T e2 j2=>?_);refine cF e2 ?_ ?_<;>intro b h3 e2
 ·have V:=ix h3;have m4:=ml A.a (b 23 _ rfl);have w2:=wr T;refine ae ac ?_;refine xp V ?_;refine aa (YP (I A.a T).d 1 (A.b.length:Int)) ?_;refine aK ?_ ?_<;>intro G
  ·have i3:=ik (T-1) A.a;have w3:IntKind.i64.wrap ((T:Int)-1)=(T:Int)-1:=YB Y Y;refine xg (an i3 w3) ?_;refine gK (fun _=>?_);refine xg V ?_;refine aE e2 ?_ ?_<;>intro k8 h4 e2
   ·have q4:=h4;try simp[Z1]at q4
    have f:=ms f e2;simp;refine ax ?_;exact O [.tmp 2] f
   ·have q4:=h4;try simp[Z1]at q4
    simp;refine ax ?_;exact aH (an w2 (an w3 G)) e2
  ·refine aR ?_;refine aE e2 ?_ ?_<;>intro L h5 e2
   ·have q5:=h5;try simp[Z1]at q5
    have f:=ms f e2;simp;refine ax ?_;exact O [.tmp 2] f
   ·have q5:=h5;try simp[Z1]at q5
    simp;refine ax ?_;exact aH (an w2 G) e2
 have f:=ms f e2;refine aa (YP (A.b.length:Int) 1 12) ?_;exact rt [.tmp 2] f
theorem vY(A:ZU):c 277 [A.row] [rB (HZ A)]:=by
 have f:=me (HZ.eq_1 A);refine so func277 ntmps277 ?_;refine aw ac ?_;refine aa (YP A.b 1 999) ?_;refine ak (fun p=>xi A.e) ?_;refine ak (fun p=>W2 A.c) ?_;refine ak (fun p=>IU A.a) ?_;refine aK ?_ ?_<;>intro G
 ·have g1:=G;try simp[Z1]at g1
  have w:0<A.a.b.length:=by have:=sv (a:=A.a);simp_all
  refine xg w ?_;refine aO (fun p=>Z7.rd (MZ A.d)) ?_;refine aO (fun p=>jw (I A.a.b 0) (Xu A.d)) ?_;exact O [.tmp 2] f
 ·refine aN ?_;simp;refine ax ?_;refine aN ?_;simp;refine ax ?_;exact O [.tmp 2] f
theorem kc(A:ZD):c 212 [A.row] [rB (Jg A)]:=by
 have f:=me (Jg.eq_1 A);refine so func212 ntmps212 ?_;refine aI (TQ.eq_2 A) (fun J=>Z6 47 [eX 1 (A.row.map .d),eI 3 (J:Int)]) (fun K J=>A.a.length<K+J/\J<=A.a.length) (A.a.length+1) 0 (fun p1 J H j1=>?_);refine cF H ?_ ?_<;>intro k2 M H
 ·have w:=ix M;have m2:=ml A.a (k2 6 _ rfl);have D:=wr J;refine ae ac ?_;refine xp w ?_;refine aa (vY (I A.a J)) ?_;refine aK ?_ ?_<;>intro G
  ·have V:=ik (J-1) A.a;have w2:IntKind.i64.wrap ((J:Int)-1)=(J:Int)-1:=YB Y Y;refine xg (an V w2) ?_;refine gK (fun _=>?_);refine xg w ?_;refine cK H ?_ ?_<;>intro k4 Z H
   ·exact O [.tmp 2] (ms f H)
   ·exact aH (an D (an w2 G)) H
  ·refine aR ?_;refine cK H ?_ ?_<;>intro k5 h3 H
   ·exact O [.tmp 2] (ms f H)
   ·exact aH (an D G) H
 have f:=ms f H;refine aa (YP A.b 0 99) ?_;exact rt [.tmp 2] f
theorem TN(A:ZD)(C:Int):c 157 [A.row,rI C] [rI (XY A C)]:=by
 have f:=me (XY.eq_1 A C);refine so func157 ntmps157 ?_;refine aI (Uq.eq_2 A C) (fun J=>Z6 22 [eI 1 C,eX 2 (A.row.map .d),eI 5 (J:Int)]) (fun K J=>A.a.length<K+J/\J<=A.a.length) (A.a.length+1) 0 (fun p1 J H j1=>?_);refine aj H ?_ ?_<;>intro k2 M H
 ·have w:=ix M;have m2:=ml A.a (k2 8 _ rfl);have D:=wr J;refine xp w ?_;refine cF H ?_ ?_<;>intro k3 Z H
  ·exact rt [.tmp 4] (ms f H)
  exact aH D H
 exact rt [.tmp 4] (ms f H)
theorem Hq(A:ZD)(C:ZU)(g:R 2318336 A)(S:R 2318336 C):Sd 128 [A.row,C.row] [(J7 A C).1.row,rB (J7 A C).2]:=by
 have f:=me (J7.eq_1 A C);refine ar func128 ntmps128 ?_;refine aa (kc A) ?_;refine ak (fun p=>TN A C.b) ?_;refine cF f ?_ ?_<;>intro k1 M f
 ·refine ai [] (JA A (B g)) ?_;exact ah [.cell 4 50,.tmp 5] f
 refine bu (JY.eq_2 A C) (fun J U y=>Z6 77 [eX 2 (A.row.map .d),eX 3 (C.row.map .d),(4,.one (.O 4 0),[.box [.d (.int .i64 0),.nil 16]]),(6,.one (.O 6 0),[.box [.d (.int .i64 A.b),.E 6 2 0 y.length],.none,.arr true 16 (y.map ZU.row)]),eB 7 J,eI 8 (U:Int)]) (fun K J U y=>A.a.length<K+U/\U<=A.a.length/\y.length<=0+2*U) (A.a.length+1) false 0 ([]:List ZU) (fun p1 J U y H j1=>?_) (h0:=az [((6,2),none)] []);refine cF H ?_ ?_<;>intro k3 Z H
 ·have w:=ix Z;have m2:=ml A.a (k3 26 _ rfl);have c1:=sl 2318336 A.a (an g S);have D:=wr U;refine aw ac ?_;refine aK ?_ ?_<;>intro G
  ·refine xg w ?_;refine cK H ?_ ?_<;>intro k5 h3 H
   ·refine bc [49] ac ?_;simp;refine bo [true,true,true,false,false] (yE C (B S)) ?_;refine SN ?_;simp;refine ax ?_;refine OT (au:=y.map ZU.row) (am:=([C]:List ZU).map ZU.row) (l1:=[(6,2)]) (l2:=[(47,3),(47,4),(47,14),(47,15)]) (X:=16) ?_;simp;refine ax ?_;refine bc [60] ac ?_;simp[w,ZH];refine ax ?_;refine bo [true,true,true,false,false] (yE (I A.a U) (B (ZY (ZD.Z8 g)))) ?_;refine SN ?_;simp;refine ax ?_;refine OT (au:=(y++([C]:List ZU)).map ZU.row) (am:=([I A.a U]:List ZU).map ZU.row) (l1:=[(49,0)]) (l2:=[(58,3),(58,4),(58,14),(58,15)]) (X:=16) ?_;simp;refine ax ?_;exact be H (hw:=YR [((6,2),some (60,0))] [] rfl bv)
   ·refine bc [60] ac ?_;simp[w,ZH];refine ax ?_;refine bo [true,true,true,false,false] (yE (I A.a U) (B (ZY (ZD.Z8 g)))) ?_;refine SN ?_;simp;refine ax ?_;refine OT (au:=y.map ZU.row) (am:=([I A.a U]:List ZU).map ZU.row) (l1:=[(6,2)]) (l2:=[(58,3),(58,4),(58,14),(58,15)]) (X:=16) ?_;simp;refine ax ?_;exact be H (hw:=YR [((6,2),some (60,0))] [] rfl bv)
  ·refine cK H ?_ ?_<;>intro L h4 H
   ·simp[G]at h4
   ·refine bc [60] ac ?_;simp[w,ZH];refine ax ?_;refine bo [true,true,true,false,false] (yE (I A.a U) (B (ZY (ZD.Z8 g)))) ?_;refine SN ?_;simp;refine ax ?_;refine OT (au:=y.map ZU.row) (am:=([I A.a U]:List ZU).map ZU.row) (l1:=[(6,2)]) (l2:=[(58,3),(58,4),(58,14),(58,15)]) (X:=16) ?_;simp;refine ax ?_;exact be H (hw:=YR [((6,2),some (60,0))] [] rfl bv)
 have c2:=sl 2318336 A.a (an g S);have f:=ms f H;refine cF f ?_ ?_<;>intro ad h5 f
 ·refine aW fun av=>?_;refine bc [69] ac ?_;simp;refine ai [true,true,true,false,false] (yE C (B S)) ?_;refine SN ?_;simp;refine OT (au:=y.map ZU.row) (am:=([C]:List ZU).map ZU.row) (l1:=[(6,2)]) (l2:=[(67,3),(67,4),(67,14),(67,15)]) (X:=16) ?_;simp;refine aa (kc (ZD.mk A.b (y++([C]:List ZU)))) ?_;refine cF f ?_ ?_<;>intro v h6 f
  ·refine ai [] (JA A (B g)) ?_;exact ah [.cell 4 50,.tmp 5] f
  exact ah [.cell 4 50,.tmp 5] f
 refine aa (kc (ZD.mk A.b y)) ?_;refine cF f ?_ ?_<;>intro ag h7 f
 ·refine ai [] (JA A (B g)) ?_;exact ah [.cell 4 50,.tmp 5] f
 exact ah [.cell 4 50,.tmp 5] f
theorem py(A:P)(C E:Int)(N:ZO)(T a5:Int)(g:R 2314240 A)(S:R 2314240 N):Sd 73 [A.row,rI C,rI E,N.row,rI T,rI a5] [(UY A C E N T a5).1.row,rB (UY A C E N T a5).2]:=by
 have f:=me (UY.eq_1 A C E N T a5);refine ar func73 ntmps73 ?_;refine ai qW (Y3 A (B g)) ?_;refine aa (Xz A.b.a E) ?_;refine aw ac ?_;refine aa (Sj A C) ?_;refine aK ?_ ?_<;>intro G
 ·have c1:=sl 2314240 A.a (an g S);have D:IntKind.i64.wrap ((A.a.length:Int)-1)=(A.a.length:Int)-1:=YB Y Y;have g1:=G;try simp[D,J8,Z1]at g1
  have w:(Zz A.b.a E).toNat<A.b.a.length:=by have:=Xd A.b.a E;exact il
  refine xg w ?_;refine aE f ?_ ?_<;>intro k2 M f
  ·have q1:=M;try simp[D,J8,Z1]at q1
   refine a9 ?_;exact jo [.cell 12 37,.tmp 13] f
  ·have q1:=M;try simp[D,J8,Z1]at q1
   refine a9 ?_;refine a8 (Cy A E N T a5 (B g) (B S)) ?_;refine cK f ?_ ?_<;>intro k3 Z f
   ·exact jo [.cell 12 37,.tmp 13] f
   ·refine ae ac ?_;have V:=ik C.toNat A.a
    refine xg V ?_;refine bo [] (Hq (I A.a C.toNat) (QV A E N T a5).1 dC dC) ?_;refine dx f ?_ ?_<;>intro k5 h3 f
    ·exact jo [.cell 12 37,.tmp 13] f
    ·refine xg V ?_;refine C8 (t:=21) (j:=7) (i:=C.toNat) (X:=2) (Q:=A.a.map ZD.row) (ds:=(J7 (I A.a C.toNat) (QV A E N T a5).1).1.row) (L:=[(68,1)]) ?_;simp[VT (x:=(J7 (I A.a C.toNat) (QV A E N T a5).1).1) rfl,c1,V,ZH,Qi,G];refine ax ?_;exact jo [.cell 12 37,.tmp 13] f
 ·have c2:=sl 2314240 A.a (an g S);refine aE f ?_ ?_<;>intro b h4 f
  ·have q4:=h4;try simp[w2,J8,Z1]at q4
   refine a9 ?_;exact jo [.cell 12 37,.tmp 13] f
  ·simp[G]at h4
theorem OG(A:P)(C:Int):c 91 [A.row,rI C] [rI (u A C).1,rI (u A C).2]:=by
 have f:=me (u.eq_1 A C);refine so func91 ntmps91 ?_;refine aI (SH.eq_2 A C) (fun J=>Z6 26 [eI 1 C,eX 2 (A.row.map .d),eI 6 (J:Int)]) (fun K J=>A.a.length<K+J/\J<=A.a.length) (A.a.length+1) 0 (fun p1 J H j1=>?_);refine aj H ?_ ?_<;>intro k2 M H
 ·have w:=ix M;have m2:=ml A.a (k2 10 _ rfl);have D:=wr J;refine xp w ?_;refine aa (TN (I A.a J) C) ?_;refine cF H ?_ ?_<;>intro k3 Z H
  ·exact rt _ (ms f H)
  exact aH D H
 exact rt _ (ms f H)
theorem kU(A:ZK):c 213 [A.row] [rI (QE A)]:=by
 have f:=me (QE.eq_1 A);refine so func213 ntmps213 ?_;refine aK ?_ ?_<;>intro G
 ·have w:=ik 0 A.b;refine xg w ?_;refine aO (fun p=>YP (I A.b 0) 101 105) ?_;refine aE f ?_ ?_<;>intro k1 M f
  ·have q1:=M;try simp[Z1]at q1
   simp;refine ax ?_;exact O [.tmp 2] f
  ·have q1:=M;try simp[Z1]at q1
   simp;refine ax ?_;refine ae ac ?_;have V:=ik (W (I A.b 0-101)).toNat ([7,5,5,9,6]:List Int)
   have r1:=ZH (f:=r) V;try simp at r1
   simp[w,ZH,r1];refine ax ?_;refine dx f ?_ ?_<;>intro k3 Z f
   ·exact O [.tmp 2] f
   ·simp[w,ZH];refine ax ?_;exact O [.tmp 2] f
 ·refine aN ?_;simp;refine ax ?_;refine aE f ?_ ?_<;>intro k4 h3 f
  ·have q3:=h3;try simp[Z1]at q3
   simp;refine ax ?_;exact O [.tmp 2] f
  ·simp[G]at h3
theorem Rx(A:ZK):c 129 [A.row] [(Zh A).1.row,rB (Zh A).2]:=by
 have f:=me (Zh.eq_1 A);refine so func129 ntmps129 ?_;refine aw ac ?_;refine aa (kU A) ?_;refine aK ?_ ?_<;>intro G
 ·have g1:=G;try simp at g1
  have w:6<A.b.length:=a4;refine xg w ?_;refine cK f ?_ ?_<;>intro k2 M f
  ·exact O _ f
  ·refine ae ac ?_;have V:1<A.b.length:=a4
   have i3:2<A.b.length:=a4;have i4:3<A.b.length:=a4;have i5:4<A.b.length:=a4;have i6:5<A.b.length:=a4;simp[V,ZH,i3,i4,i5,i6,w];refine ax ?_;exact O _ f
 ·refine cK f ?_ ?_<;>intro k4 Z f
  ·exact O _ f
  ·simp[G]at Z
theorem IT(A:List YE)(C:Int):c 130 [rL 7 YE.row A,rI C] [rI (YQ A C)]:=by
 have f:=me (YQ.eq_1 A C);refine so func130 ntmps130 ?_;refine aI (Uj.eq_2 A C) (fun J=>Z6 20 [eL 0 7 A YE.row,eI 1 C,eI 5 (J:Int)]) (fun K J=>A.length<K+J/\J<=A.length) (A.length+1) 0 (fun p1 J H j1=>?_);refine aj H ?_ ?_<;>intro k2 M H
 ·have w:=ix M;have m2:=ml A (k2 0 _ rfl);have D:=wr J;refine xp w ?_;refine cF H ?_ ?_<;>intro k3 Z H
  ·exact rt [.tmp 4] (ms f H)
  exact aH D H
 exact rt [.tmp 4] (ms f H)
theorem A6(A:Zn):c 214 [A.row] [rB (MM A)]:=by have f:=me (MM.eq_1 A);refine so func214 ntmps214 ?_;refine aa (YP A.b 1 999) ?_;refine ak (fun p=>xi A.a) ?_;refine ak (fun p=>YP A.d (-1) (W (A.a+1))) ?_;refine ak (fun p=>YP A.e 1 99) ?_;exact rt [.tmp 2] f
theorem Gd(A:Zn):Sd 215 [A.row] [rL 1 r (yF A)]:=by have f:=me (yF.eq_1 A);refine ar func215 ntmps215 ?_;exact ah [.tmp 2] f
theorem Oc(A:List YF)(C:Zn)(g:R 2322432 A):c 131 [rL 5 YF.row A,C.row] [(Y8 A C).1.row,rB (Y8 A C).2]:=by
 have f:=me (Y8.eq_1 A C);refine so func131 ntmps131 ?_;refine aa (Xz A C.e) ?_;refine aa (A6 C) ?_;refine cF f ?_ ?_<;>intro k1 M f
 ·exact rt _ f
 refine ae ac ?_;have w:(Zz A C.e).toNat<A.length:=by have:=Xd A C.e;exact il
 refine xp w ?_;refine aa (Z7.rd (Gd C)) ?_;refine aa (Td (I A (Zz A C.e).toNat) (yF C) (by simp(maxDischargeDepth:=12) [Gw];try omega)) ?_;exact rt _ f
theorem Pe(A:Zn):Sd 133 [A.row] [(XO A).row]:=by have f:=me (XO.eq_1 A);refine ar func133 ntmps133 ?_;refine aw ac ?_;refine ai [false] (Gd A) ?_;exact ah _ f
theorem Lo(A:ZR)(C:ZK)(g:R 2326528 A)(S:R 2326528 C):Sd 216 [A.row,C.row] [(Wp A C).1.row,rB (Wp A C).2]:=by
 have f:=me (Wp.eq_1 A C);refine ar func216 ntmps216 ?_;refine ai [] (xX A (B g)) ?_;refine bc [14] ac ?_;simp;refine ai [true,false] (Pz C (B S)) ?_;refine SN ?_;have c1:=sl 2326528 A.b (an g S);simp;refine OT (au:=A.b.map ZK.row) (am:=([C]:List ZK).map ZK.row) (l1:=[(8,0)]) (l2:=[(12,1)]) (X:=3) ?_;simp;refine aa (IU (ZR.mk (A.b++([C]:List ZK)) A.a)) ?_;refine cF f ?_ ?_<;>intro k2 M f
 ·refine ai [] (xX A (B g)) ?_;exact ah _ f
 exact ah _ f
theorem Mu(A:ZD)(C:Int)(E:ZK)(g:R 2322432 A)(S:R 2322432 E):Sd 132 [A.row,rI C,E.row] [(QD A C E).1.row,rB (QD A C E).2]:=by
 have f:=me (QD.eq_1 A C E);refine ar func132 ntmps132 ?_;refine ai [] (JA A (B g)) ?_;refine aa (TN A C) ?_;refine cF f ?_ ?_<;>intro k1 M f
 ·exact ah [.cell 6 50,.tmp 7] f
 refine ae ac ?_;have w:(XY A C).toNat<A.a.length:=by have:=IW A C;exact il
 refine xp w ?_;refine cP w [] (Lo (I A.a (XY A C).toNat).a E (B (ZU.YM (ZY (ZD.Z8 g)))) (B S)) ?_;refine ea (t:=13) (j:=1) (i:=(XY A C).toNat) (c:=14) (X:=16) (Q:=A.a.map ZU.row) (ds:=(Wp (I A.a (XY A C).toNat).a E).1.row) (L:=[(28,0),(28,1)]) rfl rfl rfl rfl ab ab (by simp;try omega) ab ab ab ab ab ab ?_;refine xp w ?_;exact ah [.cell 6 50,.tmp 7] f
theorem YD(h:b)(k:a:=by(intros;first|omega|with_unfolding_all (first|first|omega|(have d:=Y2 A C bg;omega)|(simp only[Bool.or_eq_false_iff,decide_eq_false_iff_not]at*;omega)|(have z:=Zm G;(try simp only[]at z);omega)|(have z:=Zm G.1;(try simp only[]at z);omega)|(have z:=Zm G.2;(try simp only[]at z);omega)|(have z:=Zm G.2.1;(try simp only[]at z);omega)|(have z:=Zm G.2.2;(try simp only[]at z);omega)|(have z:=Zm G.1.2;(try simp only[]at z);omega)|(have z:=Zm G.2.2.2;(try simp only[]at z);omega))|(simp_all;done)|(simp_all;omega)|grind|exact wt)):a/\b:=⟨k,h⟩
theorem IR(A:P)(C:Int)(g:R 2318336 A):Sd 74 [A.row,rI C] [(jX A C).1.row,rB (jX A C).2]:=by
 have f:=me (jX.eq_1 A C);refine ar func74 ntmps74 ?_;refine ai qW (Y3 A (B g)) ?_;refine aa (OG A C) ?_;refine bp ?_ ?_<;>intro G
 ·have o:=G;have g1:=G;try simp at g1
  have w:(u A C).1.toNat<A.a.length:=eV;simp[w,ZH,G];refine aS ?_;refine gK (fun _=>?_);have V:(u A C).2.toNat<(I A.a (u A C).1.toNat).a.length:=eV;simp[V,ZH,G];refine aS ?_;refine aE f ?_ ?_<;>intro k1 M f
  ·simp[G];refine aS ?_;exact jo [.cell 4 37,.tmp 5] f
  ·have i3:1<(I (I A.a (u A C).1.toNat).a (u A C).2.toNat).a.b.length:=eV;simp[w,ZH,V,i3,G];refine aS ?_;refine cR (Rx (I (I (I A.a (u A C).1.toNat).a (u A C).2.toNat).a.b 1)) ?_;simp[G];refine aS ?_;refine cR (IT A.c (Zh (I (I (I A.a (u A C).1.toNat).a (u A C).2.toNat).a.b 1)).1.b) ?_;simp[G];refine aS ?_;refine aE f ?_ ?_<;>intro k2 Z f
   ·simp[G];refine aS ?_;exact jo [.cell 4 37,.tmp 5] f
   ·simp[G];refine aS ?_;refine ae ac ?_;have i4:(YQ A.c (Zh (I (I (I A.a (u A C).1.toNat).a (u A C).2.toNat).a.b 1)).1.b).toNat<A.c.length:=ii
    simp[i4,ZH,G];refine aS ?_;refine cR (Xz A.b.a (I A.c (YQ A.c (Zh (I (I (I A.a (u A C).1.toNat).a (u A C).2.toNat).a.b 1)).1.b).toNat).e) ?_;simp[G];refine aS ?_;refine ae ac ?_;simp[i4,ZH,G];refine aS ?_;refine ae ac ?_;have i5:(YQ A.c (Zh (I (I (I A.a (u A C).1.toNat).a (u A C).2.toNat).a.b 1)).1.b).toNat<A.d.length:=ii
    simp[i5,ZH,G];refine aS ?_;refine aE f ?_ ?_<;>intro b h3 f
    ·simp[i5,ZH,G];refine aS ?_;refine cR (Oc A.b.a (Zn.mk (Zh (I (I (I A.a (u A C).1.toNat).a (u A C).2.toNat).a.b 1)).1.b A.b.d (I A.d (YQ A.c (Zh (I (I (I A.a (u A C).1.toNat).a (u A C).2.toNat).a.b 1)).1.b).toNat) (I A.c (YQ A.c (Zh (I (I (I A.a (u A C).1.toNat).a (u A C).2.toNat).a.b 1)).1.b).toNat).e 0) (B (ZI.Yf (P.Yc g)))) ?_;simp[G];refine aS ?_;refine ae ac ?_;simp[G];refine aS ?_;refine fE G ?_ ?_<;>intro G
     ·have a:=G.2;try(simp at G;done)
      all_goals
       have g2:=G.2;try simp at g2
       all_goals
        have i6:(Zz A.b.a (I A.c (YQ A.c (Zh (I (I (I A.a (u A C).1.toNat).a (u A C).2.toNat).a.b 1)).1.b).toNat).e).toNat<A.b.a.length:=ho;simp[i6,ZH,G];refine aS ?_;refine aE f ?_ ?_<;>intro k8 h4 f
        ·simp[G];refine aS ?_;exact jo [.cell 4 37,.tmp 5] f
        ·simp[G];refine aS ?_;refine ae ac ?_;simp[w,ZH,G];refine aS ?_;refine cR (Z7.rd (Pe (Y8 A.b.a (Zn.mk (Zh (I (I (I A.a (u A C).1.toNat).a (u A C).2.toNat).a.b 1)).1.b A.b.d (I A.d (YQ A.c (Zh (I (I (I A.a (u A C).1.toNat).a (u A C).2.toNat).a.b 1)).1.b).toNat) (I A.c (YQ A.c (Zh (I (I (I A.a (u A C).1.toNat).a (u A C).2.toNat).a.b 1)).1.b).toNat).e 0)).1)) ?_;simp[G];refine aS ?_;refine cD [] (Mu (I A.a (u A C).1.toNat) C (XO (Y8 A.b.a (Zn.mk (Zh (I (I (I A.a (u A C).1.toNat).a (u A C).2.toNat).a.b 1)).1.b A.b.d (I A.d (YQ A.c (Zh (I (I (I A.a (u A C).1.toNat).a (u A C).2.toNat).a.b 1)).1.b).toNat) (I A.c (YQ A.c (Zh (I (I (I A.a (u A C).1.toNat).a (u A C).2.toNat).a.b 1)).1.b).toNat).e 0)).1) (B (ZY (P.Zs g))) e8) ?_;simp[w,ZH,G];refine aS ?_;refine C8 (t:=18) (j:=7) (i:=(u A C).1.toNat) (X:=2) (Q:=A.a.map ZD.row) (ds:=(QD (I A.a (u A C).1.toNat) C (XO (Y8 A.b.a (Zn.mk (Zh (I (I (I A.a (u A C).1.toNat).a (u A C).2.toNat).a.b 1)).1.b A.b.d (I A.d (YQ A.c (Zh (I (I (I A.a (u A C).1.toNat).a (u A C).2.toNat).a.b 1)).1.b).toNat) (I A.c (YQ A.c (Zh (I (I (I A.a (u A C).1.toNat).a (u A C).2.toNat).a.b 1)).1.b).toNat).e 0)).1)).1.row) (L:=[(150,1)]) ?_;simp[VT (x:=(QD (I A.a (u A C).1.toNat) C (XO (Y8 A.b.a (Zn.mk (Zh (I (I (I A.a (u A C).1.toNat).a (u A C).2.toNat).a.b 1)).1.b A.b.d (I A.d (YQ A.c (Zh (I (I (I A.a (u A C).1.toNat).a (u A C).2.toNat).a.b 1)).1.b).toNat) (I A.c (YQ A.c (Zh (I (I (I A.a (u A C).1.toNat).a (u A C).2.toNat).a.b 1)).1.b).toNat).e 0)).1)).1) rfl,w,ZH,Qi,G];refine aS ?_;exact jo [.cell 4 37,.tmp 5] f
     ·have a:=G.2;try(simp at G;done)
      all_goals
       simp[G];refine aS ?_;refine aE f ?_ ?_<;>intro af h5 f
       ·simp[G];refine aS ?_;exact jo [.cell 4 37,.tmp 5] f
       ·simp[G]at h5
    ·simp[G];refine aS ?_;refine cR (Oc A.b.a (Zn.mk (Zh (I (I (I A.a (u A C).1.toNat).a (u A C).2.toNat).a.b 1)).1.b A.b.d (-1) (I A.c (YQ A.c (Zh (I (I (I A.a (u A C).1.toNat).a (u A C).2.toNat).a.b 1)).1.b).toNat).e 0) (B (ZI.Yf (P.Yc g)))) ?_;simp[G];refine aS ?_;refine ae ac ?_;simp[G];refine aS ?_;refine fE G ?_ ?_<;>intro G
     ·have c:=G.2;try(simp at G;done)
      all_goals
       have y:=G.2;try simp at y
       all_goals
        have s:(Zz A.b.a (I A.c (YQ A.c (Zh (I (I (I A.a (u A C).1.toNat).a (u A C).2.toNat).a.b 1)).1.b).toNat).e).toNat<A.b.a.length:=ho;simp[s,ZH,G];refine aS ?_;refine aE f ?_ ?_<;>intro ad h6 f
        ·simp[G];refine aS ?_;exact jo [.cell 4 37,.tmp 5] f
        ·simp[G];refine aS ?_;refine ae ac ?_;simp[w,ZH,G];refine aS ?_;refine cR (Z7.rd (Pe (Y8 A.b.a (Zn.mk (Zh (I (I (I A.a (u A C).1.toNat).a (u A C).2.toNat).a.b 1)).1.b A.b.d (-1) (I A.c (YQ A.c (Zh (I (I (I A.a (u A C).1.toNat).a (u A C).2.toNat).a.b 1)).1.b).toNat).e 0)).1)) ?_;simp[G];refine aS ?_;refine cD [] (Mu (I A.a (u A C).1.toNat) C (XO (Y8 A.b.a (Zn.mk (Zh (I (I (I A.a (u A C).1.toNat).a (u A C).2.toNat).a.b 1)).1.b A.b.d (-1) (I A.c (YQ A.c (Zh (I (I (I A.a (u A C).1.toNat).a (u A C).2.toNat).a.b 1)).1.b).toNat).e 0)).1) (B (ZY (P.Zs g))) e8) ?_;simp[w,ZH,G];refine aS ?_;refine C8 (t:=18) (j:=7) (i:=(u A C).1.toNat) (X:=2) (Q:=A.a.map ZD.row) (ds:=(QD (I A.a (u A C).1.toNat) C (XO (Y8 A.b.a (Zn.mk (Zh (I (I (I A.a (u A C).1.toNat).a (u A C).2.toNat).a.b 1)).1.b A.b.d (-1) (I A.c (YQ A.c (Zh (I (I (I A.a (u A C).1.toNat).a (u A C).2.toNat).a.b 1)).1.b).toNat).e 0)).1)).1.row) (L:=[(150,1)]) ?_;simp[VT (x:=(QD (I A.a (u A C).1.toNat) C (XO (Y8 A.b.a (Zn.mk (Zh (I (I (I A.a (u A C).1.toNat).a (u A C).2.toNat).a.b 1)).1.b A.b.d (-1) (I A.c (YQ A.c (Zh (I (I (I A.a (u A C).1.toNat).a (u A C).2.toNat).a.b 1)).1.b).toNat).e 0)).1)).1) rfl,w,ZH,Qi,G];refine aS ?_;exact jo [.cell 4 37,.tmp 5] f
     ·have c:=G.2;try(simp at G;done)
      all_goals
       simp[G];refine aS ?_;refine aE f ?_ ?_<;>intro v h7 f
       ·simp[G];refine aS ?_;exact jo [.cell 4 37,.tmp 5] f
       ·simp[G]at h7
 ·have o:=G;simp[G];refine aS ?_;refine aN ?_;simp[G];refine aS ?_;refine aE f ?_ ?_<;>intro ax h8 f
  ·simp[G];refine aS ?_;exact jo [.cell 4 37,.tmp 5] f
  ·simp[G]at h8
theorem tG(A:P)(C:Int)(g:R 2318336 A):Sd 75 [A.row,rI C] [(qz A C).1.row,rB (qz A C).2]:=by
 have f:=me (qz.eq_1 A C);refine ar func75 ntmps75 ?_;refine ai qW (Y3 A (B g)) ?_;refine aa (YP C 0 (W ((A.d.length:Int)-1))) ?_;refine aK ?_ ?_<;>intro G
 ·have c1:=sl 2318336 A.d g;have D:IntKind.i64.wrap ((A.d.length:Int)-1)=(A.d.length:Int)-1:=YB Y Y;have g1:=G;try simp[Z1,D]at g1
  have w:=ik C.toNat A.d;refine xg w ?_;refine aE f ?_ ?_<;>intro k1 M f
  ·have q1:=M;try simp[Z1,D]at q1
   simp;refine ax ?_;exact jo _ f
  ·have q1:=M;try simp[Z1,D]at q1
   simp[w,ZH];refine ax ?_;refine BL (rv:=[.cell 4 37,.tmp 5]) rfl ?_;simp[f.h];all_goals(repeat' (first|exact ss ab ab|refine And.intro ?_ ?_))
 ·have c2:=sl 2318336 A.d g;refine aE f ?_ ?_<;>intro k2 Z f
  ·have q2:=Z;try simp[Z1,w2]at q2
   simp;refine ax ?_;exact jo _ f
  ·simp[G]at Z
theorem Ke(A:List ZS)(C:Int):c 137 [rL 3 ZS.row A,rI C] [rI (Zp A C)]:=by
 have f:=me (Zp.eq_1 A C);refine so func137 ntmps137 ?_;refine aI (yo.eq_2 A C) (fun J=>Z6 20 [eL 0 3 A ZS.row,eI 1 C,eI 5 (J:Int)]) (fun K J=>A.length<K+J/\J<=A.length) (A.length+1) 0 (fun p1 J H j1=>?_);refine aj H ?_ ?_<;>intro k2 M H
 ·have w:=ix M;have m2:=ml A (k2 0 _ rfl);have D:=wr J;refine xp w ?_;refine cF H ?_ ?_<;>intro k3 Z H
  ·exact rt [.tmp 4] (ms f H)
  exact aH D H
 exact rt [.tmp 4] (ms f H)
theorem n0(A:P)(C:List Int):c 135 [A.row,rL 1 r C] [rB (kL A C)]:=by
 have f:=me (kL.eq_1 A C);refine so func135 ntmps135 ?_;refine aI (SR.eq_2 A C) (fun J=>Z6 76 [eL 1 1 C r,eX 2 (A.row.map .d),eI 5 (J:Int)]) (fun K J=>C.length<K+J/\J<=C.length) (C.length+1) 0 (fun p1 J H j1=>?_);refine cF H ?_ ?_<;>intro k2 M H
 ·have w:=ix M;have m2:=ml C (k2 1 _ rfl);have D:=wr J;refine ae ac ?_;refine xp w ?_;refine aa (Ke A.b.b (I C J)) ?_;refine aw ac ?_;refine aK ?_ ?_<;>intro G
  ·have V:=ik (J-1) C;have w2:IntKind.i64.wrap ((J:Int)-1)=(J:Int)-1:=YB Y Y;refine xg (an V w2) ?_;refine gK (fun _=>?_);refine xg w ?_;refine cK H ?_ ?_<;>intro k5 Z H
   ·exact O _ (ms f H)
   ·refine ae ac ?_;have i3:(Zp A.b.b (I C J)).toNat<A.b.b.length:=by have:=Qv A.b.b (I C J);exact il
    simp[i3,ZH];refine ax ?_;refine a8 (Xz A.b.a (I A.b.b (Zp A.b.b (I C J)).toNat).a) ?_;refine bS ac ?_;refine aJ G ?_ ?_<;>intro G
    ·all_goals
      have i4:(Zz A.b.a (I A.b.b (Zp A.b.b (I C J)).toNat).a).toNat<A.b.a.length:=lg;refine xg i4 ?_;refine cK H ?_ ?_<;>intro k8 h3 H
      ·exact O _ (ms f H)
      ·exact aH (an D (an w2 G)) H
    ·all_goals
      refine cK H ?_ ?_<;>intro L h4 H
      ·exact O _ (ms f H)
      ·simp[G]at h4
  ·refine aR ?_;refine cK H ?_ ?_<;>intro af h5 H
   ·exact O _ (ms f H)
   ·refine ae ac ?_;have i7:(Zp A.b.b (I C J)).toNat<A.b.b.length:=by have:=Qv A.b.b (I C J);exact il
    simp[i7,ZH];refine ax ?_;refine a8 (Xz A.b.a (I A.b.b (Zp A.b.b (I C J)).toNat).a) ?_;refine bS ac ?_;refine aJ G ?_ ?_<;>intro G
    ·all_goals
      have s:(Zz A.b.a (I A.b.b (Zp A.b.b (I C J)).toNat).a).toNat<A.b.a.length:=lg;refine xg s ?_;refine cK H ?_ ?_<;>intro ad h6 H
      ·exact O _ (ms f H)
      ·exact aH (an D G) H
    ·all_goals
      refine cK H ?_ ?_<;>intro av h7 H
      ·exact O _ (ms f H)
      ·simp[G]at h7
 exact rt _ (ms f H)
theorem Gj(A:ZR)(C:ZO)(g:R 2318336 A)(S:R 2318336 C):Sd 225 [A.row,C.row] [rL 1 r (J2 A C)]:=by
 have f:=me (J2.eq_1 A C);refine ar func225 ntmps225 ?_;refine aq (yN.eq_2 A C) (fun J U=>Z6 27 [eX 2 (A.row.map .d),eX 3 (C.row.map .d),(5,.one (.E 5 0 0 J.length),[.arr false 1 (J.map r)]),eI 6 (U:Int)]) (fun K J U=>A.a.length<K+U/\U<=A.a.length/\J.length<=0+1*U) (A.a.length+1) ([]:List Int) 0 (fun p1 J U H j1=>?_) (h0:=az [((5,0),some (7,0))] []);refine cF H ?_ ?_<;>intro k2 M H
 ·have w:=ix M;have m2:=ml A.a (k2 10 _ rfl);have c1:=sl 2318336 A.a (an g S);have D:=wr U;refine ae ac ?_;refine xp w ?_;refine aa (RX (I A.a U).c C (B S)) ?_;exact aB H (hw:=YR [((5,0),some (25,0))] [] rfl ad)
 exact ah [.tmp 4] (ms f H)
theorem MY(A:ZX):Sd 218 [A.row] [rL 1 r (yf A)]:=by have f:=me (yf.eq_1 A);refine ar func218 ntmps218 ?_;exact ah [.tmp 2] f
theorem Md(A:Int)(C:ZZ)(g:R 2326528 C):c 281 [rI A,C.row] [rI (yv A C)]:=by
 have f:=me (yv.eq_1 A C);refine so func281 ntmps281 ?_;refine aq (yi.eq_2 C) (fun J U=>Z6 75 [eI 0 A,eX 3 (C.row.map .d),(5,.one (.E 5 0 0 J.length),[.arr false 1 (J.map r)]),eI 6 (U:Int)]) (fun K J U=>C.b.length<K+U/\U<=C.b.length/\J.length<=4+2*U) (C.b.length+1) ([4,C.d,C.c,C.e]:List Int) 0 (fun p1 J U H j1=>?_) (h0:=az [((5,0),some (14,0))] []);refine aF H ?_ ?_<;>intro k2 M H
 ·have q1:=M;try simp at q1
  have w:=ix M;have m2:=ml C.b (k2 17 _ rfl);have c1:=sl 2326528 C.b g;have D:=wr U;refine xp w ?_;refine aF H ?_ ?_<;>intro k3 Z H
  ·have q2:=Z;try simp at q2
   refine aU ?_;exact aB H (hw:=YR [((5,0),some (39,0))] [] rfl ad)
  have q2:=Z;try simp at q2
  refine aU ?_;exact aB H (hw:=YR [((5,0),some (42,0))] [] rfl ad)
 have q1:=M;try simp at q1
 have c2:=sl 2326528 C.b g;have f:=ms f H;refine aU ?_;refine aq (qv.eq_2 C) (fun T q=>Z6 75 [eI 0 A,eX 3 (C.row.map .d),(5,.one (.E 5 0 0 T.length),[.arr false 1 (T.map r)]),eI 7 (q:Int)]) (fun n2 T q=>C.a.length<n2+q/\q<=C.a.length/\T.length<=5+2*2326528+6*q) (C.a.length+1) (J++([(C.a.length:Int)]:List Int)) 0 (fun p2 T q e2 j2=>?_) (v:=by(have o:C.b.length<=2326528:=Zx (xs g);simp at*;omega)) (h0:=az [((5,0),some (48,0))] []);refine aF e2 ?_ ?_<;>intro k5 h3 e2
 ·have q3:=h3;try simp at q3
  have V:=ix h3;have m4:=ml C.a (k5 51 _ rfl);have c3:=sl 2326528 C.a g;have w2:=wr q;simp;refine ae ac ?_;refine xp V ?_;refine fI V (Z7.rd (MY (I C.a q))) ?_;exact aB e2 (v:=by(simp;omega)) (hw:=YR [((5,0),some (71,0))] [] rfl (by simp[w2]))
 have q3:=h3;try simp at q3
 have c4:=sl 2326528 C.a g;have f:=ms f e2;simp;refine aa (KS A T bG) ?_;exact rt [.tmp 4] f
theorem LO(A:Int)(C:List ZK)(g:R 2326528 C):c 343 [rI A,rL 3 ZK.row C] [rI (yY A C)]:=by
 have f:=me (yY.eq_1 A C);refine so func343 ntmps343 ?_;refine aq (kG.eq_2 A C) (fun J U=>Z6 39 [eI 0 A,eL 1 3 C ZK.row,(5,.one (.E 5 0 0 J.length),[.arr false 1 (J.map r)]),eI 6 (U:Int)]) (fun K J U=>C.length<K+U/\U<=C.length/\J.length<=1+1*U) (C.length+1) ([2]:List Int) 0 (fun p1 J U H j1=>?_) (h0:=az [((5,0),some (7,0))] []);refine cF H ?_ ?_<;>intro k2 M H
 ·have w:=ix M;have m2:=ml C (k2 1 _ rfl);have c1:=sl 2326528 C g;have D:=wr U;refine vT [2,3,4,5,6,7,8,9,10,11,12,13,14,15,16,17,18,0,1,19,20,21,22] ac d d d ?_;have c2:=sl 2326528 (I C U).b g;refine xp w ?_;refine aa (KS A (([(I C U).a,(I C U).f]:List Int)++(I C U).b) bH) ?_;exact aB H (hw:=YR [((5,0),some (35,0))] [] rfl ad)
 have c3:=sl 2326528 C g;have f:=ms f H;refine aa (KS A J bG) ?_;exact rt [.tmp 4] f
theorem uA(A C:Int)(E:List ZK)(N:Int)(g:R 2322432 E):c 282 [rI A,rI C,rL 3 ZK.row E,rI N] [rI (Hg A C E N)]:=by have f:=me (Hg.eq_1 A C E N);refine so func282 ntmps282 ?_;refine aa (LO A E (B g)) ?_;refine aa (KS A ([3,C,yY A E,N]:List Int) bH) ?_;exact rt [.tmp 8] f
theorem OV(h:b)(k:a:=by(intros;first|omega|with_unfolding_all (first|first|omega|(have cc:A.a.length<=2318336:=Zx (xs g);have d:=o;simp at d;have z:=Ms Y d.1;have t:=d.2;(try have w3:IntKind.i64.wrap (E-1)=E-1:=YB Y Y);(try have i:W (E-1)=E-1:=w3);first|omega|(refine⟨⟨d.1,Y⟩,Y,Y⟩)|(simp_all;omega)))|(simp_all;done)|(simp_all;omega)|grind|exact wt)):a/\b:=⟨k,h⟩
theorem vX(A:ZR)(C:List Int)(E:Int)(g:R 2318336 A)(S:R 2318336 C):c 224 [A.row,rL 1 r C,rI E] [rI (TO A C E)]:=by
 have f:=me (TO.eq_1 A C E);refine so func224 ntmps224 ?_;refine aw ac ?_;refine aa (YP E 0 (W ((A.a.length:Int)-1))) ?_;refine bp ?_ ?_<;>intro G
 ·have o:=G;have c1:=sl 2318336 A.a (an g S);have D:IntKind.i64.wrap ((A.a.length:Int)-1)=(A.a.length:Int)-1:=YB Y Y;have g1:=G;try simp[Z1,D]at g1
  have w:E.toNat<A.a.length:=dX;simp[w,ZH,G];repeat with_reducible refine OV ?_
  refine cW (fun p=>YP (I A.a E.toNat).d 0 (A.b.length:Int)) ?_;simp;refine aE f ?_ ?_<;>intro k2 M f
  ·have q1:=M;try simp[Z1,D]at q1
   simp;exact O _ f
  ·have q1:=M;try simp[Z1,D]at q1
   simp[w,ZH];repeat with_reducible refine OV ?_
   refine aE f ?_ ?_<;>intro k3 Z f
   ·have q2:=Z;try simp at q2
    have V:(W (E-1)).toNat<A.a.length:=dX;simp[V,ZH];repeat with_reducible refine OV ?_
    refine cR (Md (I A.a E.toNat).c (I A.a (W (E-1)).toNat) (B (ZY (ZR.QK g)))) ?_;simp;refine ae ac ?_;have i3:E.toNat<C.length:=dX
    simp[i3,ZH,w];repeat with_reducible refine OV ?_
    refine cR (uA (I A.a E.toNat).c (I C E.toNat) (A.b.take (I A.a E.toNat).d.toNat) (yv (I A.a E.toNat).c (I A.a (W (E-1)).toNat)) (ZJ (n:=2318336) au (xs (an g S)))) ?_;simp;exact O _ f
   ·have q2:=Z;try simp at q2
    simp;refine ae ac ?_;have i4:E.toNat<C.length:=dX
    simp[i4,ZH,w];repeat with_reducible refine OV ?_
    refine cR (uA (I A.a E.toNat).c (I C E.toNat) (A.b.take (I A.a E.toNat).d.toNat) 0 (ZJ (n:=2318336) au (xs (an g S)))) ?_;simp;exact O _ f
 ·simp[G];refine aN ?_;simp;have c2:=sl 2318336 A.a (an g S)
  refine aE f ?_ ?_<;>intro b h3 f
  ·have q3:=h3;try simp[Z1,w2]at q3
   simp;exact O _ f
  ·simp[G]at h3
theorem MA(A:ZD)(C:Int)(g:R 2314240 A):Sd 145 [A.row,rI C] [rL 1 r (Yl A C)]:=by
 have f:=me (Yl.eq_1 A C);refine ar func145 ntmps145 ?_;refine aq (yH.eq_2 A C) (fun J U=>Z6 51 [eI 1 C,eX 2 (A.row.map .d),(5,.one (.E 5 0 0 J.length),[.arr false 1 (J.map r)]),eI 6 (U:Int)]) (fun K J U=>A.a.length<K+U/\U<=A.a.length/\J.length<=0+1*U) (A.a.length+1) ([]:List Int) 0 (fun p1 J U H j1=>?_) (h0:=az [((5,0),some (8,0))] []);refine aj H ?_ ?_<;>intro k2 M H
 ·have w:=ix M;have m2:=ml A.a (k2 11 _ rfl);have c1:=sl 2314240 A.a g;have D:=wr U;refine xp w ?_;refine e3 (Z7.own (xX (I A.a U).a (B (ZU.YM (ZY (ZD.Z8 g)))))) ?_;refine bA ?_;have c2:=sl 2314240 (I A.a U).a.a g;refine bA ?_;refine ae ac ?_;refine xp w ?_;refine ai [false] (Gj (ZR.mk (I A.a U).a.b ((I A.a U).a.a++([ZZ.mk ((I A.a U).a.b.length:Int) C 0 ([]:List Xy) ([]:List ZX)]:List ZZ))) (I A.a U).c dL dL) ?_;refine aa (vX (ZR.mk (I A.a U).a.b ((I A.a U).a.a++([ZZ.mk ((I A.a U).a.b.length:Int) C 0 ([]:List Xy) ([]:List ZX)]:List ZZ))) (J2 (ZR.mk (I A.a U).a.b ((I A.a U).a.a++([ZZ.mk ((I A.a U).a.b.length:Int) C 0 ([]:List Xy) ([]:List ZX)]:List ZZ))) (I A.a U).c) (W ((((I A.a U).a.a++([ZZ.mk ((I A.a U).a.b.length:Int) C 0 ([]:List Xy) ([]:List ZX)]:List ZZ)).length:Int)-1)) dL dL) ?_ (al:=by first|(simp;done)|(simp[W,D];done));exact aB H (hw:=YR [((5,0),some (49,0))] [] rfl ad)
 exact ah [.tmp 4] (ms f H)
theorem Ov(A C E:Int):c 341 [rI A,rI C,rI E] [rI (WH A C E)]:=by have f:=me (WH.eq_1 A C E);refine so func341 ntmps341 ?_;refine aa (KS A ([1,C,E]:List Int) (by simp(maxDischargeDepth:=12) [I5,XG];try omega)) ?_;exact rt [.tmp 6] f
theorem GH(A:Int)(C:List Int)(g:R 2322432 C):Sd 278 [rI A,rL 1 r C] [rL 1 r (Pp A C)]:=by
 have f:=me (Pp.eq_1 A C);refine ar func278 ntmps278 ?_;refine aq (S7.eq_2 A C) (fun J U=>Z6 41 [eI 0 A,eL 1 1 C r,(5,.one (.E 5 0 0 J.length),[.arr false 1 (J.map r)]),eI 6 (U:Int)]) (fun K J U=>C.length<K+U/\U<=C.length+1/\J.length<=U) (C.length+1) ([]:List Int) 0 (fun p1 J U H j1=>?_) (h0:=az [((5,0),some (7,0))] []);refine cF H ?_ ?_<;>intro k2 M H
 ·have w:=ix M;have m2:=ml C (k2 1 _ rfl);have c1:=sl 2322432 C g;have D:=wr U;refine aQ H ?_ ?_<;>intro k3 Z H
  ·refine aW fun k4=>?_;refine ae ac ?_;have V:=ik (W ((U:Int)+1)).toNat C
   refine xp (an w V) ?_;refine aa (Ov A (I C U) (I C (W ((U:Int)+1)).toNat)) ?_ (al:=by first|(simp;done)|(simp[W,D];done));have w2:IntKind.i64.wrap ((U:Int)+2)=(U:Int)+2:=YB Y Y
   exact aB H (v:=by first|omega|(simp at*;omega)) (hw:=YR [((5,0),some (32,0))] [] rfl bC)
  refine xp w ?_;have w3:IntKind.i64.wrap ((U:Int)+2)=(U:Int)+2:=YB Y Y
  exact aB H (v:=by first|omega|(simp at*;omega)) (hw:=YR [((5,0),some (39,0))] [] rfl (by simp[D,w3]))
 exact ah [.tmp 4] (ms f H)
theorem L9(A:Int)(C:List Int)(g:R 2318336 C):c 217 [rI A,rL 1 r C] [rI (yz A C)]:=by
 have f:=me (yz.eq_1 A C);refine so func217 ntmps217 ?_;refine aa (YP (C.length:Int) 1 16) ?_;refine aF f ?_ ?_<;>intro k1 M f
 ·have q1:=M;try simp[Z1]at q1
  simp;exact rt [.tmp 4] f
 have q1:=M;try simp[Z1]at q1
 refine aU ?_;refine aI (RI.eq_2 A) (fun J=>Z6 22 [eI 0 A,(5,.one (.E 5 0 0 J.length),[.arr false 1 (J.map r)])]) (fun K J=>J.length<K/\1<=J.length/\J.length<=16) (C.length+1) C (fun p1 J H j1=>?_) (v:=by first|omega|(simp at*;omega)) (h0:=az [((5,0),some (12,0))] []);refine aQ H ?_ ?_<;>intro k3 Z H
 ·refine ai [false] (GH A J cm) ?_;exact iF H (v:=by(have z:=Ld A J Y;(try dsimp only);simp at*;omega)) (hw:=az [((5,0),some (18,0))] [])
 have f:=ms f H;have w:=ik 0 J;refine xp w ?_;exact rt [.tmp 4] f
theorem oy(A:ZD)(C:Int)(g:R 2310144 A):c 136 [A.row,rI C] [rI (kR A C)]:=by have f:=me (kR.eq_1 A C);refine so func136 ntmps136 ?_;refine aa (Z7.rd (MA A C (B g))) ?_;refine aa (L9 C (Yl A C) (by simp(maxDischargeDepth:=12) [RS,ZJ (m:=2318336) au g];try omega)) ?_;exact rt [.tmp 4] f
theorem WW(A:List Int)(C:Int):c 138 [rL 1 r A,rI C] [rB (Tl A C)]:=by
 have f:=me (Tl.eq_1 A C);refine so func138 ntmps138 ?_;refine aI (AO.eq_2 A C) (fun J=>Z6 18 [eL 0 1 A r,eI 1 C,eI 5 (J:Int)]) (fun K J=>A.length<K+J/\J<=A.length) (A.length+1) 0 (fun p1 J H j1=>?_);refine aj H ?_ ?_<;>intro k2 M H
 ·have w:=ix M;have m2:=ml A (k2 0 _ rfl);have D:=wr J;refine xp w ?_;refine cF H ?_ ?_<;>intro k3 Z H
  ·exact rt [.tmp 4] (ms f H)
  exact aH D H
 exact rt [.tmp 4] (ms f H)
theorem RN(A:List YF)(C:List ZS)(E:ZX)(g:R 2322432 A)(S:R 2322432 C):c 139 [rL 5 YF.row A,rL 3 ZS.row C,E.row] [(Qq A C E).1.row,rB (Qq A C E).2]:=by
 have f:=me (Qq.eq_1 A C E);refine so func139 ntmps139 ?_;refine aa (Ke C E.a) ?_;refine ak (fun p=>xi E.c) ?_;refine aQ f ?_ ?_<;>intro k1 M f
 ·exact rt _ f
 have w:(Zp C E.a).toNat<C.length:=by have:=Qv C E.a;exact il
 refine xp w ?_;refine aa (Xz A (I C (Zp C E.a).toNat).a) ?_;refine cF f ?_ ?_<;>intro k2 Z f
 ·exact rt _ f
 refine ae ac ?_;have V:(Zz A (I C (Zp C E.a).toNat).a).toNat<A.length:=by have:=Xd A (I C (Zp C E.a).toNat).a;exact il
 refine xp V ?_;refine aa (Z7.rd (MY E)) ?_;refine aa (Td (I A (Zz A (I C (Zp C E.a).toNat).a).toNat) (yf E) (by simp(maxDischargeDepth:=12) [w0];try omega)) ?_;exact rt _ f
theorem IX(h:b)(k:a:=by(intros;first|omega|with_unfolding_all (first|first|omega|(have c:=Int.tmod_eq_emod_of_nonneg (b:=2) (show 0<=J by omega);(try simp only[Xf,show ∀x,IntKind.i64.wrap x=W x from fun _=>rfl]at*);(try simp at*);omega))|exact wt)):a/\b:=⟨k,h⟩
theorem rz(A:Int)(C:List Int)(E:Int)(g:R 2318336 C):Sd 219 [rI A,rL 1 r C,rI E] [rL 2 Xy.row (xy A C E)]:=by
 have f:=me (xy.eq_1 A C E);refine ar func219 ntmps219 ?_;refine ak (fun p=>YP E 0 (W ((C.length:Int)-1))) ?_;have c1:=sl 2318336 C g;have D:IntKind.i64.wrap ((C.length:Int)-1)=(C.length:Int)-1:=YB Y Y;refine aF f ?_ ?_<;>intro k1 M f
 ·have q1:=M;try simp[Z1,D]at q1
  simp;exact ah [.tmp 6] f
 have q1:=M;try simp[Z1,D]at q1
 simp;repeat with_reducible refine IX ?_
 refine bu (xE.eq_2 A) (fun J U y=>Z6 60 [eI 0 A,eI 2 J,(7,.one (.E 7 0 0 U.length),[.arr false 2 (U.map Xy.row)]),(8,.one (.E 8 0 0 y.length),[.arr false 1 (y.map r)])]) (fun K J U y=>y.length<K/\0<=J/\J<(y.length:Int)/\y.length<=16/\U.length+K<=17) (C.length+1) E ([]:List Xy) C (fun p1 J U y H j1=>?_) (v:=by first|omega|(simp at*;omega)) (h0:=az [((7,0),some (9,0)),((8,0),some (24,0))] []);refine cF H ?_ ?_<;>intro k3 Z H
 ·refine aj H ?_ ?_<;>intro k4 h3 H
  ·have w:(W (J-1)).toNat<y.length:=hT;simp[w,ZH];repeat with_reducible refine IX ?_
   refine ai [false] (GH A y cm) ?_;exact be H (v:=by(have z:=Ld A y Y;have j:=Int.tdiv_eq_ediv_of_nonneg (b:=2) (show 0<=J by omega);have w2:W (Int.tdiv J 2)=Int.tdiv J 2:=YB Y Y;(try dsimp only);rw[w2];simp at*;omega)) (hw:=YR [((7,0),some (39,0)),((8,0),some (56,0))] [] rfl ad)
  refine aF H ?_ ?_<;>intro k5 h4 H
  ·have q4:=h4;try simp[D]at q4
   have V:(W (J+1)).toNat<y.length:=hT;simp[V,ZH];repeat with_reducible refine IX ?_
   refine ai [false] (GH A y cm) ?_;exact be H (v:=by(have z:=Ld A y Y;have j:=Int.tdiv_eq_ediv_of_nonneg (b:=2) (show 0<=J by omega);have w2:W (Int.tdiv J 2)=Int.tdiv J 2:=YB Y Y;(try dsimp only);rw[w2];simp at*;omega)) (hw:=YR [((7,0),some (53,0)),((8,0),some (56,0))] [] rfl ad)
  have q4:=h4;try simp[D]at q4
  simp;refine ai [false] (GH A y cm) ?_;exact be H (v:=by(have z:=Ld A y Y;have j:=Int.tdiv_eq_ediv_of_nonneg (b:=2) (show 0<=J by omega);have w2:W (Int.tdiv J 2)=Int.tdiv J 2:=YB Y Y;(try dsimp only);rw[w2];simp at*;omega)) (hw:=YR [((8,0),some (56,0))] [] rfl ad)
 exact ah [.tmp 6] (ms f H)
theorem FD(A:ZR)(C:ZZ)(g:R 2326528 A)(S:R 2326528 C):Sd 146 [A.row,C.row] [(JP A C).1.row,rB (JP A C).2]:=by
 have f:=me (JP.eq_1 A C);refine ar func146 ntmps146 ?_;refine ai [] (xX A (B g)) ?_;refine bc [14] ac ?_;simp;refine ai [true,true,true,false,false] (Dl C (B S)) ?_;refine SN ?_;have c1:=sl 2326528 A.a (an g S);simp;refine OT (au:=A.a.map ZZ.row) (am:=([C]:List ZZ).map ZZ.row) (l1:=[(8,1)]) (l2:=[(12,3),(12,4)]) (X:=5) ?_;simp;refine aa (IU (ZR.mk A.b (A.a++([C]:List ZZ)))) ?_;refine cF f ?_ ?_<;>intro k2 M f
 ·refine ai [] (xX A (B g)) ?_;exact ah _ f
 exact ah _ f
theorem wB(A:ZD)(C:Int)(E:List ZX)(g:R 2310144 A)(S:R 2310144 E):Sd 140 [A.row,rI C,rL 5 ZX.row E] [(Qn A C E).1.row,rB (Qn A C E).2]:=by
 have f:=me (Qn.eq_1 A C E);refine ar func140 ntmps140 ?_;refine ai [] (JA A (B g)) ?_;refine aa (Z7.rd (MA A C (B g))) ?_;refine aa (L9 C (Yl A C) iy) ?_;refine aa (kc A) ?_;refine bu (Qx.eq_2 A C E) (fun J U y=>Z6 84 [eI 1 C,eL 2 5 E ZX.row,eX 3 (A.row.map .d),(6,.one (.O 6 0),[.box [.d (.int .i64 0),.nil 16]]),(8,.one (.O 8 0),[.box [.d (.int .i64 A.b),.E 16 1 0 y.length]]),eL 9 1 (Yl A C) r,eI 10 (yz C (Yl A C)),eB 11 J,eI 12 (U:Int),(16,.any,[.none,.arr true 16 (y.map ZU.row)])]) (fun K J U y=>A.a.length<K+U/\U<=A.a.length/\y.length=A.a.length) (A.a.length+1) (Jg A&&(decide ((A.a.length:Int)>0))) 0 A.a (fun p1 J U y H j1=>?_);refine cF H ?_ ?_<;>intro k2 M H
 ·have w:U<A.a.length:=bK;have m2:=ml A.a (k2 33 _ rfl);have c1:=sl 2310144 A.a (an g S);have D:=wr U;refine ae ac ?_;refine xp w ?_;refine aa (Z7.rd (rz C (Yl A C) (U:Int) iy)) ?_;have V:=ik U y;refine cP V [] (FD (I A.a U).a (ZZ.mk ((I A.a U).a.b.length:Int) C (yz C (Yl A C)) (xy C (Yl A C) (U:Int)) E) (B (ZU.YM (ZY (ZD.Z8 g)))) (by simp(maxDischargeDepth:=12) [Dn,RS,ZJ (m:=2326528) au g,ZJ (m:=2326528) au S];try omega)) ?_;refine ea (t:=16) (j:=1) (i:=U) (c:=14) (X:=16) (Q:=y.map ZU.row) (ds:=(JP (I A.a U).a (ZZ.mk ((I A.a U).a.b.length:Int) C (yz C (Yl A C)) (xy C (Yl A C) (U:Int)) E)).1.row) (L:=[(64,0),(64,1)]) rfl rfl rfl rfl ab ab (by simp;try omega) ab ab ab ab ab ab ?_;simp[VT (x:=ZU.mk (I y U).b (I y U).e (I y U).c (I y U).d (JP (I A.a U).a (ZZ.mk ((I A.a U).a.b.length:Int) C (yz C (Yl A C)) (xy C (Yl A C) (U:Int)) E)).1) rfl,V,ZH,Qi];refine bN ?_;exact a3 D H
 have f:=ms f H;refine ak (fun p=>kc (ZD.mk A.b y)) ?_;refine cF f ?_ ?_<;>intro k4 Z f
 ·refine ai [] (JA A (B g)) ?_;exact ah [.cell 6 50,.tmp 7] f
 exact ah [.cell 6 50,.tmp 7] f
theorem Q0(h:b)(k:a:=by(intros;first|omega|with_unfolding_all (first|first|omega|(have z:=zd (A:=A) (C:=E) (j:=U) eJ Y;omega)|(have z:=zd (A:=A) (C:=E) (j:=T) eJ Y;omega))|exact wt)):a/\b:=⟨k,h⟩
theorem u0(A:P)(C:Int)(E:List Int)(N:Int)(g:R 2306048 A)(S:R 2306048 E):Sd 76 [A.row,rI C,rL 1 r E,rI N] [(WB A C E N).1.row,rB (WB A C E N).2]:=by
 have f:=me (WB.eq_1 A C E N);refine ar func76 ntmps76 ?_;refine ai qW (Y3 A (B g)) ?_;refine aa (T1 A.b.c A.b.d) ?_;refine aa (Sj A C) ?_;refine ak (fun p=>n0 A E) ?_;refine ak (fun p=>YP N (-10000) 10000) ?_;have c1:=sl 2306048 A.a (an g S);have D:IntKind.i64.wrap ((A.a.length:Int)-1)=(A.a.length:Int)-1:=YB Y Y;refine aF f ?_ ?_<;>intro k1 M f
 ·have q1:=M;try simp[Z1,D,J8]at q1
  simp;exact ah [.cell 8 37,.tmp 9] f
 have q1:=M;try simp[Z1,D,J8]at q1
 have w:C.toNat<A.a.length:=by first|omega|(have z:=zd (A:=A) (C:=E) (j:=U) eJ Y;omega)|(have z:=zd (A:=A) (C:=E) (j:=T) eJ Y;omega)
 simp[w,ZH];refine bR ?_;refine aa (oy (I A.a C.toNat) (Zv A.b.c A.b.d) (B (ZY (P.Zs g)))) ?_;refine aq (KQ.eq_2 A C E N) (fun J U=>Z6 162 [eI 1 C,eL 2 1 E r,eI 3 N,eX 4 (A.row.map .d),(8,.one (.O 8 0),[.box [.nil 5,.nil 3,.nil 4,.d (.int .i64 0),.d (.int .i64 0),.nil 7,.nil 1,.nil 2,.nil 1,.nil 1,.d (.int .i64 0),.nil 1]]),(10,.one (.O 10 0),[.box [.E 24 0 0 A.b.a.length,.E 24 1 0 A.b.b.length,.E 24 2 0 A.b.c.length,.d (.int .i64 A.b.e),.d (.int .i64 A.b.d),.E 24 5 0 A.c.length,.E 24 6 0 A.d.length,.E 24 7 0 A.a.length,.E 24 8 0 A.e.length,.E 24 9 0 A.f.length,.d (.int .i64 A.h),.E 24 11 0 A.g.length]]),eI 11 (Zv A.b.c A.b.d),eI 12 (kR (I A.a C.toNat) (Zv A.b.c A.b.d)),(13,.one (.E 13 0 0 J.length),[.arr false 5 (J.map ZX.row)]),eI 14 (U:Int),(24,.any,[.arr false 5 (A.b.a.map YF.row),.arr false 3 (A.b.b.map ZS.row),.arr false 4 (A.b.c.map Zy.row),.none,.none,.arr false 7 (A.c.map YE.row),.arr false 1 (A.d.map r),.arr true 2 (A.a.map ZD.row),.arr false 1 (A.e.map r),.arr false 1 (A.f.map r),.none,.arr false 1 (A.g.map r)])]) (fun K J U=>E.length<K+U/\U<=E.length/\J.length<=0+1*U) (E.length+1) ([]:List ZX) 0 (fun p1 J U H j1=>?_) (h0:=az [((13,0),some (59,0))] []);try dsimp only at j1
 refine aQ H ?_ ?_<;>intro k3 Z H
 ·have V:=ix Z;have m2:=ml E (k3 2 _ rfl);have c2:=sl 2306048 E (an g S);have w2:=wr U;refine ae ac ?_;simp[V,ZH];refine bR ?_;refine aa (Ke A.b.b (I E U)) ?_;refine ae ac ?_;simp[V,ZH];refine bR ?_;refine aa (WW A.f (I E U)) ?_;refine cF H ?_ ?_<;>intro b h3 H
  ·refine aa (yS 0 (W (A.b.d+N))) ?_ (al:=by first|(simp;done)|(simp[W,D,w2];done));refine aa (Ry 10000 (zX 0 (W (A.b.d+N)))) ?_ (al:=by first|(simp;done)|(simp[W,D,w2];done));refine ae ac ?_;have i3:(Zp A.b.b (I E U)).toNat<A.e.length:=iN
   simp[V,ZH,i3];refine bR ?_;refine aa (RN A.b.a A.b.b (ZX.mk (I E U) (I A.e (Zp A.b.b (I E U)).toNat) (VU 10000 (zX 0 (W (A.b.d+N)))) (kR (I A.a C.toNat) (Zv A.b.c A.b.d)) 0) (B (ZI.Yf (P.Yc g))) (B (ZI.Yh (P.Yc g)))) ?_ (al:=by first|(simp;done)|(simp[W,D,w2];done));refine aF H ?_ ?_<;>intro k8 h4 H
   ·have q4:=h4;try simp[D]at q4
    have f:=ms f H;simp;exact ah [.cell 8 37,.tmp 9] f
   have q4:=h4;try simp[D]at q4
   simp;refine bR ?_;exact aB H (hw:=YR [((13,0),some (117,0))] [] rfl bC)
  refine ae ac ?_;have i4:(Zp A.b.b (I E U)).toNat<A.e.length:=iN
  simp[V,ZH,i4];refine bR ?_;refine aa (RN A.b.a A.b.b (ZX.mk (I E U) (I A.e (Zp A.b.b (I E U)).toNat) A.b.d (kR (I A.a C.toNat) (Zv A.b.c A.b.d)) 0) (B (ZI.Yf (P.Yc g))) (B (ZI.Yh (P.Yc g)))) ?_;refine aQ H ?_ ?_<;>intro af h5 H
  ·exact ah [.cell 8 37,.tmp 9] (ms f H)
  simp;refine bR ?_;exact aB H (hw:=YR [((13,0),some (117,0))] [] rfl bC)
 have c3:=sl 2306048 E (an g S);have f:=ms f H;simp[w,ZH];refine bR ?_;refine ai [] (wB (I A.a C.toNat) (Zv A.b.c A.b.d) J (B (ZY (P.Zs g))) (by first|(simp(maxDischargeDepth:=12) [XG];omega)|(simp(maxDischargeDepth:=12) [ZJ (m:=2310144) au g,ZJ (m:=2310144) au S];done))) ?_;refine cF f ?_ ?_<;>intro ao h6 f
 ·exact ah [.cell 8 37,.tmp 9] f
 refine aq (VF.eq_2 A E) (fun T q=>Z6 162 [eI 1 C,eL 2 1 E r,eX 4 (A.row.map .d),(8,.one (.O 8 0),[.box [.nil 5,.nil 3,.nil 4,.d (.int .i64 0),.d (.int .i64 0),.nil 7,.nil 1,.nil 2,.nil 1,.nil 1,.d (.int .i64 0),.nil 1]]),(10,.one (.O 10 0),[.box [.E 24 0 0 A.b.a.length,.E 24 1 0 A.b.b.length,.E 24 2 0 A.b.c.length,.d (.int .i64 A.b.e),.d (.int .i64 A.b.d),.E 24 5 0 A.c.length,.E 24 6 0 A.d.length,.E 24 7 0 A.a.length,.E 24 8 0 q.length,.E 24 9 0 A.f.length,.d (.int .i64 A.h),.E 24 11 0 A.g.length]]),(19,.one (.O 19 0),[.box [.d (.int .i64 (Qn (I A.a C.toNat) (Zv A.b.c A.b.d) J).1.b),.E 126 1 0 (Qn (I A.a C.toNat) (Zv A.b.c A.b.d) J).1.a.length]]),eI 21 (T:Int),(24,.any,[.arr false 5 (A.b.a.map YF.row),.arr false 3 (A.b.b.map ZS.row),.arr false 4 (A.b.c.map Zy.row),.none,.none,.arr false 7 (A.c.map YE.row),.arr false 1 (A.d.map r),.arr true 2 (A.a.map ZD.row),.arr false 1 (q.map r),.arr false 1 (A.f.map r),.none,.arr false 1 (A.g.map r)]),(126,.any,[.none,.arr true 16 ((Qn (I A.a C.toNat) (Zv A.b.c A.b.d) J).1.a.map ZU.row)])]) (fun n2 T q=>E.length<n2+T/\T<=E.length/\q.length=A.e.length) (E.length+1) 0 A.e (fun p2 T q e2 j2=>?_);try dsimp only at j2
 refine aQ e2 ?_ ?_<;>intro ad h7 e2
 ·have i5:=ix h7;have m4:=ml E (ad 2 _ rfl);have w3:=wr T;refine ae ac ?_;simp[i5,ZH];refine bR ?_;refine aa (Ke A.b.b (I E T)) ?_;refine ae ac ?_;have i6:(Zp A.b.b (I E T)).toNat<A.e.length:=h2;have i7:(Zp A.b.b (I E T)).toNat<q.length:=h2;simp[i6,ZH,i7,VT (x:=W (I A.e (Zp A.b.b (I E T)).toNat+1)) rfl];refine bR ?_;exact ay (an D w3) e2
 have f:=ms f e2;simp[w,ZH];refine bR ?_;refine C8 (t:=24) (j:=7) (i:=C.toNat) (X:=2) (Q:=A.a.map ZD.row) (ds:=(Qn (I A.a C.toNat) (Zv A.b.c A.b.d) J).1.row) (L:=[(126,1)]) ?_;simp[VT (x:=(Qn (I A.a C.toNat) (Zv A.b.c A.b.d) J).1) rfl,c1,w,ZH,Qi];refine bR ?_;exact ah [.cell 8 37,.tmp 9] f
theorem Yc(A:Int)(C:ZU)(g:R 2318336 C):c 342 [rI A,C.row] [rI (R8 A C)]:=by
 have f:=me (R8.eq_1 A C);refine so func342 ntmps342 ?_;refine aw ac ?_;refine aa (RX A C.c (B (ZU.JM g))) ?_;refine aa (LO A C.a.b (B (ZR.Yp (ZU.YM g)))) ?_;refine aq (Vr.eq_2 A C) (fun J U=>Z6 43 [eI 0 A,eX 3 (C.row.map .d),(5,.one (.E 5 0 0 J.length),[.arr false 1 (J.map r)]),eI 6 (U:Int)]) (fun K J U=>C.a.a.length<K+U/\U<=C.a.a.length/\J.length<=5+1*U) (C.a.a.length+1) ([5,C.b,C.e,JG A C.c,yY A C.a.b]:List Int) 0 (fun p1 J U H j1=>?_) (h0:=az [((5,0),some (20,0))] []);refine aj H ?_ ?_<;>intro k3 M H
 ·have w:=ix M;have m2:=ml C.a.a (k3 24 _ rfl);have c1:=sl 2318336 C.a.a g;have D:=wr U;refine xp w ?_;refine aa (Md A (I C.a.a U) (B (ZY (ZR.QK (ZU.YM g))))) ?_;exact aB H (hw:=YR [((5,0),some (39,0))] [] rfl ad)
 have c2:=sl 2318336 C.a.a g;have f:=ms f H;refine aa (KS A J bG) ?_;exact rt [.tmp 4] f
theorem AH(A:Int)(C:List ZU)(g:R 2314240 C):c 279 [rI A,rL 16 ZU.row C] [rI (Np A C)]:=by
 have f:=me (Np.eq_1 A C);refine so func279 ntmps279 ?_;refine aq (P6.eq_2 A C) (fun J U=>Z6 26 [eI 0 A,eL 1 16 C ZU.row,(5,.one (.E 5 0 0 J.length),[.arr false 1 (J.map r)]),eI 6 (U:Int)]) (fun K J U=>C.length<K+U/\U<=C.length/\J.length<=0+1*U) (C.length+1) ([]:List Int) 0 (fun p1 J U H j1=>?_) (h0:=az [((5,0),some (7,0))] []);refine aj H ?_ ?_<;>intro k2 M H
 ·have w:=ix M;have m2:=ml C (k2 1 _ rfl);have c1:=sl 2314240 C g;have D:=wr U;refine xp w ?_;refine aa (Yc A (I C U) (B (ZY g))) ?_;exact aB H (hw:=YR [((5,0),some (22,0))] [] rfl ad)
 have c2:=sl 2314240 C g;have f:=ms f H;refine aa (L9 A J g3) ?_;exact rt [.tmp 4] f
theorem wh(A:ZD)(C:Int)(E:List Int)(N:Int)(g:R 2310144 A)(S:R 2310144 E):So 220 [A.row,rI C,rL 1 r E,rI N] [(Xm A C E N).1.row,rB (Xm A C E N).2]:=by
 have f:=me (Xm.eq_1 A C E N);refine so func220 ntmps220 ?_;refine aq (yg.eq_2 A E) (fun J U=>Z6 53 [eL 2 1 E r,eI 3 N,eX 4 (A.row.map .d),(8,.one (.O 8 0),[.box [.d (.int .i64 0),.d (.int .i64 0),.nil 16,.d (.int .i64 0)]]),(10,.one (.O 10 0),[.box [.d (.int .i64 A.b),.d (.int .i64 C),.E 10 3 0 U.length,.d (.int .i64 0)],.none,.none,.arr false 16 (U.map ZU.row)]),eI 11 (J:Int)]) (fun K J U=>E.length<K+J/\J<=E.length/\U.length<=J/\(∀x∈U,R 2310144 x)) (E.length+1) 0 ([]:List ZU) (fun p1 J U H j1=>?_) (v:=by exact⟨Y,Y,Nat.zero_le _,Nat.zero_le _,fun x h=>by cases h⟩) (h0:=az [((10,3),none)] []);refine cF H ?_ ?_<;>intro k2 M H
 ·have w:=ix M;have m2:=ml E (k2 2 _ rfl);have c1:=sl 2310144 E (an g S);have D:=wr J;refine ae ac ?_;refine xp w ?_;refine aa (TN A (I E J)) ?_;refine cF H ?_ ?_<;>intro k4 Z H
  ·exact bJ [.cell 8 218,.tmp 9] (ms f H)
  refine ae ac ?_;have V:(XY A (I E J)).toNat<A.a.length:=by have:=IW A (I E J);exact il
  refine xp V ?_;refine aa (Z7.rd (yE (I A.a (XY A (I E J)).toNat) (B (ZY (ZD.Z8 g))))) ?_;refine bA ?_;refine bA ?_;exact aB H (v:=by((try dsimp only);refine⟨Y,Y,Y,by simp;omega,fun x O=>?_⟩;rcases List.mem_append.1 O with O|O;exact j1.2.2.2.2 x O;have e:=List.mem_singleton.1 O;subst e;exact ZY (ZD.Z8 g))) (hw:=YR [((10,3),some (41,0))] [] rfl ad)
 have c2:=sl 2310144 E (an g S);have f:=ms f H;refine cF f ?_ ?_<;>intro b h3 f
 ·exact bJ [.cell 8 218,.tmp 9] f
 refine aa (AH N U gw) ?_;exact bJ [.cell 8 218,.tmp 9] f
theorem Xb(A:Y7)(C:Int)(g:R 2310144 A):c 280 [A.row,rI C] [rB (yA A C)]:=by
 have f:=me (yA.eq_1 A C);refine so func280 ntmps280 ?_;refine aI (za.eq_2 A) (fun J=>Z6 33 [eI 1 C,eX 2 (A.row.map .d),eI 5 (J:Int)]) (fun K J=>A.a.length<K+J/\J<=A.a.length) (A.a.length+1) 0 (fun p1 J H j1=>?_);refine aj H ?_ ?_<;>intro k2 M H
 ·have w:=ix M;have m2:=ml A.a (k2 8 _ rfl);have c1:=sl 2310144 A.a g;have D:=wr J;refine xp w ?_;refine aa (vY (I A.a J)) ?_;refine cF H ?_ ?_<;>intro k3 Z H
  ·exact rt [.tmp 4] (ms f H)
  exact aH D H
 have f:=ms f H;refine aw ac ?_;refine aa (YP (A.a.length:Int) 1 8) ?_;refine ak (fun p=>AH C A.a (B (Y7.Z8 g))) ?_;exact rt [.tmp 4] f
theorem AK(A:ZD)(C:Y7)(E:Int)(g:R 2306048 A)(S:R 2306048 C):Sd 221 [A.row,C.row,rI E] [(X7 A C E).1.row,rB (X7 A C E).2]:=by
 have f:=me (X7.eq_1 A C E);refine ar func221 ntmps221 ?_;refine ai [] (JA A (B g)) ?_;refine aa (Xb C E (B S)) ?_;refine dd (JD.eq_2 C) (fun J U y i=>Z6 52 [eX 3 (A.row.map .d),eX 4 (C.row.map .d),(6,.one (.O 6 0),[.box [.d (.int .i64 0),.nil 16]]),(8,.one (.O 8 0),[.box [.d (.int .i64 y),.E 8 2 0 i.length],.none,.arr true 16 (i.map ZU.row)]),eB 9 J,eI 10 (U:Int)]) (fun K J U y i=>C.a.length<K+U/\U<=C.a.length/\(J=true->C.a.length<=8)/\R (2306048+U) (ZD.mk y i)) (C.a.length+1) (yA C E&&(C.c==A.b)) 0 A.b A.a (fun p1 J U y i H j1=>?_) (v:=by exact⟨Y,Y,Nat.zero_le _,fun h=>B6 C E (by simp at h;exact h.1),g⟩) (h0:=az [((8,2),some (14,1))] []);refine cF H ?_ ?_<;>intro k2 M H
 ·have w:U<C.a.length:=bK;have m2:=ml C.a (k2 27 _ rfl);have c1:=sl 2306048 C.a (an g S);have D:=wr U;refine ae ac ?_;refine xp w ?_;refine ai [] (Hq (ZD.mk y i) (I C.a U) iK iK) ?_;exact eh H (v:=by(have hc:=M;simp at hc;(try dsimp only);refine⟨Y,Y,Y,fun _=>j1.2.2.2.1 hc.2,?_⟩;exact Na (n:=2306048+U) j1.2.2.2.2 (ZJ (n:=2306048) Y (ZY (Y7.Z8 S))))) (hw:=YR [((8,2),some (42,1))] [] rfl ad)
 have f:=ms f H;refine cF f ?_ ?_<;>intro k4 Z f
 ·refine ai [] (JA A (B g)) ?_;exact ah [.cell 6 50,.tmp 7] f
 exact ah [.cell 6 50,.tmp 7] f
theorem ti(A:ZD)(C:Int)(g:R 2322432 A):Sd 222 [A.row,rI C] [(WO A C).1.row,rB (WO A C).2]:=by
 have f:=me (WO.eq_1 A C);refine ar func222 ntmps222 ?_;refine aa (TN A C) ?_;refine cF f ?_ ?_<;>intro k1 M f
 ·refine ai [] (JA A (B g)) ?_;exact ah [.cell 4 50,.tmp 5] f
 refine aq (qm.eq_2 A C) (fun J U=>Z6 41 [eX 2 (A.row.map .d),(4,.one (.O 4 0),[.box [.d (.int .i64 0),.nil 16]]),eI 6 (XY A C),(7,.one (.O 7 0),[.box [.d (.int .i64 A.b),.E 7 2 0 U.length],.none,.arr true 16 (U.map ZU.row)]),eI 8 (J:Int)]) (fun K J U=>A.a.length<K+J/\J<=A.a.length/\U.length<=0+1*J) (A.a.length+1) 0 ([]:List ZU) (fun p1 J U H j1=>?_) (h0:=az [((7,2),none)] []);refine cF H ?_ ?_<;>intro k3 Z H
 ·have w:=ix Z;have m2:=ml A.a (k3 21 _ rfl);have c1:=sl 2322432 A.a g;have D:=wr J;refine cF H ?_ ?_<;>intro k4 h3 H
  ·refine aW fun k5=>?_;refine bc [38] ac ?_;refine xp w ?_;refine ai [true,true,true,false,false] (yE (I A.a J) (B (ZY (ZD.Z8 g)))) ?_;refine SN ?_;simp;refine OT (au:=U.map ZU.row) (am:=([I A.a J]:List ZU).map ZU.row) (l1:=[(7,2)]) (l2:=[(36,3),(36,4),(36,14),(36,15)]) (X:=16) ?_;simp;exact aB H (hw:=YR [((7,2),some (38,0))] [] rfl ad)
  exact ay D H
 exact ah [.cell 4 50,.tmp 5] (ms f H)
theorem pG(A C:ZD)(E:List Int)(N:Int)(g:R 2301952 A)(S:R 2301952 C)(u2:R 2301952 E):Sd 141 [A.row,C.row,rL 1 r E,rI N] [(Jm A C E N).1.row,(Jm A C E N).2.1.row,rB (Jm A C E N).2.2]:=by
 have f:=me (Jm.eq_1 A C E N);refine ar func141 ntmps141 ?_;refine aa (wh A C.b E N dV dV) ?_;refine ai [] (AK C (Xm A C.b E N).1 N hc hc) ?_;refine ai [] (JA A (B g)) ?_;refine dd (Kw.eq_2 A C E N) (fun J U y i=>Z6 72 [eL 2 1 E r,eX 4 (A.row.map .d),eX 5 (C.row.map .d),(8,.one (.O 8 0),[.box [.d (.int .i64 0),.nil 16]]),(9,.one (.O 9 0),[.box [.d (.int .i64 0),.nil 16]]),eB 12 (Xm A C.b E N).2,(13,.one (.O 13 0),[.box [.d (.int .i64 (X7 C (Xm A C.b E N).1 N).1.b),.E 32 1 0 (X7 C (Xm A C.b E N).1 N).1.a.length]]),eB 14 J,(15,.one (.O 15 0),[.box [.d (.int .i64 y),.E 15 2 0 i.length],.none,.arr true 16 (i.map ZU.row)]),eI 16 (U:Int),(32,.any,[.none,.arr true 16 ((X7 C (Xm A C.b E N).1 N).1.a.map ZU.row)])]) (fun K J U y i=>E.length<K+U/\U<=E.length/\R 2301952 (ZD.mk y i)) (E.length+1) (X7 C (Xm A C.b E N).1 N).2 0 A.b A.a (fun p1 J U y i H j1=>?_) (v:=by exact⟨Y,Y,Nat.zero_le _,g⟩) (h0:=az [((15,2),some (36,1))] []);refine cF H ?_ ?_<;>intro k2 M H
 ·have w:U<E.length:=bK;have m2:=ml E (k2 2 _ rfl);have c1:=sl 2301952 E (an g (an S u2));have D:=wr U;refine ae ac ?_;refine xp w ?_;refine ai [] (ti (ZD.mk y i) (I E U) (by exact ZJ (n:=2301952) au j1.2.2.2)) ?_;exact eh H (v:=by((try dsimp only);refine⟨Y,Y,Y,?_⟩;exact Dx j1.2.2.2)) (hw:=YR [((15,2),some (55,1))] [] rfl ad)
 have f:=ms f H;refine cF f ?_ ?_<;>intro k4 Z f
 ·refine aW fun k5=>?_;refine aw ac ?_;refine ai [] (JA A (B g)) ?_;refine ai [] (JA C (B S)) ?_;exact ah [.cell 8 50,.cell 9 50,.tmp 10] f
 refine e9 [(8,8),(9,9),(13,13),(15,15)] ac d d d d ?_;simp;exact ah [.cell 8 50,.cell 9 50,.tmp 10] f
theorem mD(A:P)(C E N:Int)(g:R 2297856 A):Sd 77 [A.row,rI C,rI E,rI N] [(UQ A C E N).1.row,rB (UQ A C E N).2]:=by
 have f:=me (UQ.eq_1 A C E N);refine ar func77 ntmps77 ?_;refine ai qW (Y3 A (B g)) ?_;refine aa (T1 A.b.c A.b.d) ?_;refine aa (Sj A C) ?_;refine ak (fun p=>Sj A E) ?_;have c1:=sl 2297856 A.a g;have D:IntKind.i64.wrap ((A.a.length:Int)-1)=(A.a.length:Int)-1:=YB Y Y;refine aF f ?_ ?_<;>intro k1 M f
 ·have q1:=M;try simp[D,J8,Z1]at q1
  simp;exact ah [.cell 8 37,.tmp 9] f
 have q1:=M;try simp[D,J8,Z1]at q1
 simp;refine ae ac ?_;have w:=ik C.toNat A.a
 have V:=ik E.toNat A.a;refine xp (an w V) ?_;refine cP w [] (pG (I A.a C.toNat) (I A.a E.toNat) ([N]:List Int) (Zv A.b.c A.b.d) (B (ZY (P.Zs g))) (B (ZY (P.Zs g))) bH) ?_;refine C8 (t:=16) (j:=7) (i:=C.toNat) (X:=2) (Q:=A.a.map ZD.row) (ds:=(Jm (I A.a C.toNat) (I A.a E.toNat) ([N]:List Int) (Zv A.b.c A.b.d)).1.row) (L:=[(58,1)]) ?_;refine aU ?_;refine C8 (t:=16) (j:=7) (i:=E.toNat) (X:=2) (Q:=(A.a.set C.toNat (Jm (I A.a C.toNat) (I A.a E.toNat) ([N]:List Int) (Zv A.b.c A.b.d)).1).map ZD.row) (ds:=(Jm (I A.a C.toNat) (I A.a E.toNat) ([N]:List Int) (Zv A.b.c A.b.d)).2.1.row) (L:=[(58,3)]) ?_;refine aU ?_;exact ah [.cell 8 37,.tmp 9] f
theorem tj(A:ZD)(C:Int)(g:R 2326528 A):So 142 [A.row,rI C] [(jV A C).1.row,rI (jV A C).2]:=by
 have f:=me (jV.eq_1 A C);refine so func142 ntmps142 ?_;refine bu (K3.eq_2 A C) (fun J U y=>Z6 42 [eI 1 C,eX 2 (A.row.map .d),(4,.one (.O 4 0),[.box [.d (.int .i64 0),.nil 16]]),(6,.one (.O 6 0),[.box [.d (.int .i64 A.b),.E 6 2 0 y.length],.none,.arr false 16 (y.map ZU.row)]),eI 7 J,eI 8 (U:Int)]) (fun K J U y=>A.a.length<K+U/\U<=A.a.length/\y.length<=0+1*U) (A.a.length+1) 0 0 ([]:List ZU) (fun p1 J U y H j1=>?_) (h0:=az [((6,2),none)] []);refine aj H ?_ ?_<;>intro k2 M H
 ·have w:=ix M;have m2:=ml A.a (k2 14 _ rfl);have c1:=sl 2326528 A.a g;have D:=wr U;refine xp w ?_;refine cF H ?_ ?_<;>intro k3 Z H
  ·exact a3 D H
  refine ae ac ?_;refine xp w ?_;refine aa (Z7.rd (yE (I A.a U) (B (ZY (ZD.Z8 g))))) ?_;refine bA ?_;refine bA ?_;exact be H (hw:=YR [((6,2),some (38,0))] [] rfl ad)
 exact bJ [.cell 4 50,.tmp 5] (ms f H)
theorem E8(A:P)(C:Int)(g:R 2318336 A):So 78 [A.row,rI C] [(qk A C).1.row,rB (qk A C).2]:=by
 have f:=me (qk.eq_1 A C);refine so func78 ntmps78 ?_;refine e3 (Z7.own (Y3 A (B g))) ?_;refine aa (Sj A C) ?_;have c1:=sl 2318336 A.a g;have D:IntKind.i64.wrap ((A.a.length:Int)-1)=(A.a.length:Int)-1:=YB Y Y;refine aF f ?_ ?_<;>intro k1 M f
 ·have q1:=M;try simp[D,J8,Z1]at q1
  simp;exact bJ _ f
 have q1:=M;try simp[D,J8,Z1]at q1
 simp;refine ae ac ?_;have w:=ik C.toNat A.a
 refine xp w ?_;refine cR (tj (I A.a C.toNat) A.b.d (B (ZY (P.Zs g)))) ?_;refine xp w ?_;exact bJ _ f
theorem Oi(A:List Zy)(C:Int):c 147 [rL 4 Zy.row A,rI C] [rI (Qf A C)]:=by
 have f:=me (Qf.eq_1 A C);refine so func147 ntmps147 ?_;refine aI (kQ.eq_2 A C) (fun J=>Z6 20 [eL 0 4 A Zy.row,eI 1 C,eI 5 (J:Int)]) (fun K J=>A.length<K+J/\J<=A.length) (A.length+1) 0 (fun p1 J H j1=>?_);refine aj H ?_ ?_<;>intro k2 M H
 ·have w:=ix M;have m2:=ml A (k2 0 _ rfl);have D:=wr J;refine xp w ?_;refine cF H ?_ ?_<;>intro k3 Z H
  ·exact rt [.tmp 4] (ms f H)
  exact aH D H
 exact rt [.tmp 4] (ms f H)
theorem Uf(A:List Zy)(C:Int):c 223 [rL 4 Zy.row A,rI C] [rI (qY A C)]:=by
 have f:=me (qY.eq_1 A C);refine so func223 ntmps223 ?_;refine aa (Oi A C) ?_;refine aQ f ?_ ?_<;>intro k1 M f
 ·exact rt [.tmp 4] f
 have w:(Qf A C).toNat<A.length:=ew;refine xp w ?_;exact rt [.tmp 4] f
theorem L8(A:ZI)(C:Int):c 143 [A.row,rI C] [rB (SK A C)]:=by
 have f:=me (SK.eq_1 A C);refine so func143 ntmps143 ?_;refine aa (Xz A.a C) ?_;refine aw ac ?_;refine aK ?_ ?_<;>intro G
 ·have w:(Zz A.a C).toNat<A.a.length:=by have:=Xd A.a C;exact il
  refine xg w ?_;refine aO (fun p=>Uf A.c (I A.a (Zz A.a C).toNat).c) ?_;exact O [.tmp 4] f
 ·refine aN ?_;simp;refine ax ?_;exact O [.tmp 4] f
theorem rD(A:P)(C E:Int)(N:ZO)(g:R 2314240 A)(S:R 2314240 N):Sd 79 [A.row,rI C,rI E,N.row] [(kh A C E N).1.row,rB (kh A C E N).2]:=by
 have f:=me (kh.eq_1 A C E N);refine ar func79 ntmps79 ?_;refine ai qW (Y3 A (B g)) ?_;refine aa (Sj A C) ?_;refine ak (fun p=>L8 A.b E) ?_;have c1:=sl 2314240 A.a (an g S);have D:IntKind.i64.wrap ((A.a.length:Int)-1)=(A.a.length:Int)-1:=YB Y Y;refine aF f ?_ ?_<;>intro k1 M f
 ·have q1:=M;try simp[D,J8,Z1]at q1
  simp;refine BL (rv:=[.cell 8 37,.tmp 9]) rfl ?_;simp[f.h];all_goals((try simp only[q3,true_and]);(try(rintro r (⟨a,_,rfl⟩|rfl) x O<;>simp at O<;>subst O<;>rfl)))
 have q1:=M;try simp[D,J8,Z1]at q1
 simp;refine aa (Cy A E N 0 10000 (B g) (B S)) ?_;refine aF f ?_ ?_<;>intro k2 Z f
 ·have q2:=Z;try simp at q2
  simp;refine BL (rv:=[.cell 8 37,.tmp 9]) rfl ?_;simp[f.h];all_goals((try simp only[q3,true_and]);(try(rintro r (⟨a,_,rfl⟩|rfl) x O<;>simp at O<;>subst O<;>rfl)))
 have q2:=Z;try simp at q2
 simp;refine ae ac ?_;have w:=ik C.toNat A.a
 refine xp w ?_;refine ai [] (Hq (I A.a C.toNat) (QV A E N 0 10000).1 dC dC) ?_;refine aF f ?_ ?_<;>intro k4 h3 f
 ·have q3:=h3;try simp at q3
  simp;refine BL (rv:=[.cell 8 37,.tmp 9]) rfl ?_;simp[f.h];all_goals((try simp only[q3,true_and]);(try(rintro r (⟨a,_,rfl⟩|rfl) x O<;>simp at O<;>subst O<;>rfl)))
 have q3:=h3;try simp at q3
 refine aU ?_;refine C8 (t:=16) (j:=7) (i:=C.toNat) (X:=2) (Q:=A.a.map ZD.row) (ds:=(J7 (I A.a C.toNat) (QV A E N 0 10000).1).1.row) (L:=[(46,1)]) ?_;have c2:=sl 2314240 A.g (an g S)
 refine aU ?_;refine BL (rv:=[.cell 8 37,.tmp 9]) rfl ?_;simp[f.h];all_goals((try simp only[q3,true_and]);(try(rintro r (⟨a,_,rfl⟩|rfl) x O<;>simp at O<;>subst O<;>rfl)))
theorem FF(A:P)(g:R 2330624 A):Sd 144 [A.row] [rL 1 r (Yw A)]:=by
 have f:=me (Yw.eq_1 A);refine ar func144 ntmps144 ?_;refine aq (Je.eq_2 A) (fun J U=>Z6 39 [eX 1 (A.row.map .d),(3,.one (.E 3 0 0 J.length),[.arr false 1 (J.map r)]),eI 4 (U:Int)]) (fun K J U=>A.b.b.length<K+U/\U<=A.b.b.length/\J.length<=0+1*U) (A.b.b.length+1) ([]:List Int) 0 (fun p1 J U H j1=>?_) (h0:=az [((3,0),some (6,0))] []);refine aj H ?_ ?_<;>intro k2 M H
 ·have w:=ix M;have m2:=ml A.b.b (k2 10 _ rfl);have c1:=sl 2330624 A.b.b g;have D:=wr U;refine xp w ?_;refine aa (WW A.f (I A.b.b U).b) ?_;refine ak (fun p=>L8 A.b (I A.b.b U).a) ?_;refine cF H ?_ ?_<;>intro k3 Z H
  ·exact aB H (hw:=YR [((3,0),some (37,0))] [] rfl ad)
  exact ay D H
 exact ah [.tmp 2] (ms f H)
theorem K4(h:b)(k:a:=by(intros;first|omega|with_unfolding_all (first|first|omega|(have f0:0<=(u A C).1:=(by first|omega|(simp at*;omega));have d:=Y2 A C f0;omega)|(have f0:0<=(u A C).1:=(by first|omega|(simp at*;omega));have d:=Y2 A C f0;have v:=Tz (I A.a (u A C).1.toNat) (Zv A.b.c A.b.d);omega)|(have o:=xI A;have l:=Zx (ZI.Yh (P.Yc g));(try dsimp only at*);omega))|exact wt)):a/\b:=⟨k,h⟩
theorem BJ(A:P)(C E:Int)(g:R 2310144 A):Sd 80 [A.row,rI C,rI E] [(yL A C E).1.row,rB (yL A C E).2]:=by
 have f:=me (yL.eq_1 A C E);refine ar func80 ntmps80 ?_;refine ai qW (Y3 A (B g)) ?_;refine aa (OG A C) ?_;refine aa (T1 A.b.c A.b.d) ?_;refine aa (Z7.rd (FF A (B g))) ?_;refine ak (fun p=>WW A.g C) ?_;refine aQ f ?_ ?_<;>intro k1 M f
 ·exact ah [.cell 6 37,.tmp 7] f
 have w:(u A C).1.toNat<A.a.length:=fV;simp[w,ZH];repeat with_reducible refine K4 ?_
 refine cR (Z7.rd (MA (I A.a (u A C).1.toNat) (Zv A.b.c A.b.d) (B (ZY (P.Zs g))))) ?_;have V:(u A C).2.toNat<(Yl (I A.a (u A C).1.toNat) (Zv A.b.c A.b.d)).length:=fV
 have i3:(u A C).2.toNat<(I A.a (u A C).1.toNat).a.length:=fV;simp[V,ZH,w,i3];repeat with_reducible refine K4 ?_
 refine aq (Jy.eq_2 A C E) (fun J U=>Z6 140 [eI 2 E,eX 3 (A.row.map .d),(6,.one (.O 6 0),[.box [.nil 5,.nil 3,.nil 4,.d (.int .i64 0),.d (.int .i64 0),.nil 7,.nil 1,.nil 2,.nil 1,.nil 1,.d (.int .i64 0),.nil 1]]),(8,.one (.O 8 0),[.box [.E 21 0 0 A.b.a.length,.E 21 1 0 A.b.b.length,.E 21 2 0 A.b.c.length,.d (.int .i64 A.b.e),.d (.int .i64 A.b.d),.E 21 5 0 A.c.length,.E 21 6 0 A.d.length,.E 21 7 0 A.a.length,.E 21 8 0 A.e.length,.E 21 9 0 A.f.length,.d (.int .i64 A.h),.E 21 11 0 A.g.length]]),eI 9 (u A C).1,eI 10 (u A C).2,eL 12 1 (Yw A) r,eI 13 (I (Yl (I A.a (u A C).1.toNat) (Zv A.b.c A.b.d)) (u A C).2.toNat),(14,.one (.O 14 0),[.box [.d (.int .i64 ((I (I A.a (u A C).1.toNat).a (u A C).2.toNat).a.b.length:Int)),.d (.int .i64 (Zv A.b.c A.b.d)),.d (.int .i64 (I (Yl (I A.a (u A C).1.toNat) (Zv A.b.c A.b.d)) (u A C).2.toNat)),.nil 2,.E 14 5 0 U.length],.none,.none,.none,.none,.arr false 5 (U.map ZX.row)]),eI 15 (J:Int),(21,.any,[.arr false 5 (A.b.a.map YF.row),.arr false 3 (A.b.b.map ZS.row),.arr false 4 (A.b.c.map Zy.row),.none,.none,.arr false 7 (A.c.map YE.row),.arr false 1 (A.d.map r),.arr true 2 (A.a.map ZD.row),.arr false 1 (A.e.map r),.arr false 1 (A.f.map r),.none,.arr false 1 (A.g.map r)])]) (fun K J U=>(Yw A).length<K+J/\J<=(Yw A).length/\U.length<=0+1*J) ((Yw A).length+1) 0 ([]:List ZX) (fun p1 J U H j1=>?_) (h0:=az [((14,5),none)] []);try dsimp only at j1
 refine cF H ?_ ?_<;>intro k3 Z H
 ·have i4:=ix Z;have m2:=ml (Yw A) (k3 12 _ rfl);have D:=wr J;refine ae ac ?_;simp[i4,ZH];repeat with_reducible refine K4 ?_
  refine aa (RN A.b.a A.b.b (ZX.mk (I (Yw A) J) 0 E (I (Yl (I A.a (u A C).1.toNat) (Zv A.b.c A.b.d)) (u A C).2.toNat) 0) (B (ZI.Yf (P.Yc g))) (B (ZI.Yh (P.Yc g)))) ?_;refine aQ H ?_ ?_<;>intro k5 h3 H
  ·exact ah [.cell 6 37,.tmp 7] (ms f H)
  simp;repeat with_reducible refine K4 ?_
  exact aB H (hw:=YR [((14,5),some (111,0))] [] rfl ad)
 have f:=ms f H;refine ae ac ?_;simp[w,ZH,i3];repeat with_reducible refine K4 ?_
 refine ai [] (FD (I (I A.a (u A C).1.toNat).a (u A C).2.toNat).a (ZZ.mk ((I (I A.a (u A C).1.toNat).a (u A C).2.toNat).a.b.length:Int) (Zv A.b.c A.b.d) (I (Yl (I A.a (u A C).1.toNat) (Zv A.b.c A.b.d)) (u A C).2.toNat) ([]:List Xy) U) h4 h4) ?_;refine bc [] ac ?_;simp[w,ZH,i3];repeat with_reducible refine K4 ?_
 refine iR (t:=21) (j:=7) (i:=(u A C).1.toNat) (c:=1) (k':=(u A C).2.toNat) (q:=14) (n:=16) (X:=2) (s:=(I A.a (u A C).1.toNat).a.map ZU.row) (Q:=A.a.map ZD.row) (ds:=(JP (I (I A.a (u A C).1.toNat).a (u A C).2.toNat).a (ZZ.mk ((I (I A.a (u A C).1.toNat).a (u A C).2.toNat).a.b.length:Int) (Zv A.b.c A.b.d) (I (Yl (I A.a (u A C).1.toNat) (Zv A.b.c A.b.d)) (u A C).2.toNat) ([]:List Xy) U)).1.row) (L:=[(125,0),(125,1)]) rfl rfl rfl rfl (by simp;rfl) ab ab (by simp[w,i3]) (by simp[ZH,Qi,w,i3]) (by simp[w,i3]) ab ab ab ab ab ab ?_;simp[VT (x:=ZD.mk (I A.a (u A C).1.toNat).b ((I A.a (u A C).1.toNat).a.set (u A C).2.toNat (ZU.mk (I (I A.a (u A C).1.toNat).a (u A C).2.toNat).b (I (I A.a (u A C).1.toNat).a (u A C).2.toNat).e (I (I A.a (u A C).1.toNat).a (u A C).2.toNat).c (I (I A.a (u A C).1.toNat).a (u A C).2.toNat).d (JP (I (I A.a (u A C).1.toNat).a (u A C).2.toNat).a (ZZ.mk ((I (I A.a (u A C).1.toNat).a (u A C).2.toNat).a.b.length:Int) (Zv A.b.c A.b.d) (I (Yl (I A.a (u A C).1.toNat) (Zv A.b.c A.b.d)) (u A C).2.toNat) ([]:List Xy) U)).1))) rfl,ZH,Qi,w,i3];repeat with_reducible refine K4 ?_
 exact ah [.cell 6 37,.tmp 7] f
theorem XC(h:b)(k:a:=by(intros;first|omega|with_unfolding_all (first|first|omega|(have d:=Y2 A C bg;omega)|(simp only[Bool.or_eq_false_iff,decide_eq_false_iff_not]at*;omega))|(simp_all;done)|(simp_all;omega)|grind|exact wt)):a/\b:=⟨k,h⟩
theorem mL(A:P)(C E:Int)(g:R 2318336 A):Sd 81 [A.row,rI C,rI E] [(V0 A C E).1.row,rB (V0 A C E).2]:=by
 have f:=me (V0.eq_1 A C E);refine ar func81 ntmps81 ?_;refine ai qW (Y3 A (B g)) ?_;refine aa (OG A C) ?_;refine bp ?_ ?_<;>intro G
 ·have o:=G;have g1:=G;try simp at g1
  have w:(u A C).1.toNat<A.a.length:=fJ;simp[w,ZH,G];refine ba ?_;refine gK (fun _=>?_);have V:(u A C).2.toNat<(I A.a (u A C).1.toNat).a.length:=fJ;simp[V,ZH,G];refine ba ?_;refine aE f ?_ ?_<;>intro k1 M f
  ·simp[G];refine ba ?_;exact jo [.cell 6 37,.tmp 7] f
  ·have i3:1<(I (I A.a (u A C).1.toNat).a (u A C).2.toNat).a.b.length:=fJ;simp[w,ZH,V,i3,G];refine ba ?_;refine cR (Rx (I (I (I A.a (u A C).1.toNat).a (u A C).2.toNat).a.b 1)) ?_;simp[G];refine ba ?_;refine cR (IT A.c (Zh (I (I (I A.a (u A C).1.toNat).a (u A C).2.toNat).a.b 1)).1.b) ?_;simp[G];refine ba ?_;refine ae ac ?_;simp[G];refine ba ?_;refine fE G ?_ ?_<;>intro G
   ·have a:=G.2;try(simp at G;done)
    all_goals
     have g2:=G.2;try simp at g2
     all_goals
      have i4:(YQ A.c (Zh (I (I (I A.a (u A C).1.toNat).a (u A C).2.toNat).a.b 1)).1.b).toNat<A.c.length:=by have:=L0 A.c (Zh (I (I (I A.a (u A C).1.toNat).a (u A C).2.toNat).a.b 1)).1.b;first|omega|(have d:=Y2 A C bg;omega)|(simp only[Bool.or_eq_false_iff,decide_eq_false_iff_not]at*;omega)
      simp[i4,ZH,G];refine ba ?_;refine cW (fun p=>L8 A.b (I A.c (YQ A.c (Zh (I (I (I A.a (u A C).1.toNat).a (u A C).2.toNat).a.b 1)).1.b).toNat).e) ?_;simp[G];refine ba ?_;refine aE f ?_ ?_<;>intro k3 Z f
      ·simp[G];refine ba ?_;exact jo [.cell 6 37,.tmp 7] f
      ·simp[G];refine ba ?_;refine ae ac ?_;simp[i4,ZH,G];refine ba ?_;refine cR (Oc A.b.a (Zn.mk (Zh (I (I (I A.a (u A C).1.toNat).a (u A C).2.toNat).a.b 1)).1.b E (-1) (I A.c (YQ A.c (Zh (I (I (I A.a (u A C).1.toNat).a (u A C).2.toNat).a.b 1)).1.b).toNat).e 0) (B (ZI.Yf (P.Yc g)))) ?_;simp[G];refine ba ?_;refine aE f ?_ ?_<;>intro k5 h3 f
       ·simp[G];refine ba ?_;exact jo [.cell 6 37,.tmp 7] f
       ·simp[G];refine ba ?_;refine ae ac ?_;simp[w,ZH,G];refine ba ?_;refine cR (Z7.rd (Pe (Y8 A.b.a (Zn.mk (Zh (I (I (I A.a (u A C).1.toNat).a (u A C).2.toNat).a.b 1)).1.b E (-1) (I A.c (YQ A.c (Zh (I (I (I A.a (u A C).1.toNat).a (u A C).2.toNat).a.b 1)).1.b).toNat).e 0)).1)) ?_;simp[G];refine ba ?_;refine cD [] (Mu (I A.a (u A C).1.toNat) C (XO (Y8 A.b.a (Zn.mk (Zh (I (I (I A.a (u A C).1.toNat).a (u A C).2.toNat).a.b 1)).1.b E (-1) (I A.c (YQ A.c (Zh (I (I (I A.a (u A C).1.toNat).a (u A C).2.toNat).a.b 1)).1.b).toNat).e 0)).1) (B (ZY (P.Zs g))) e8) ?_;simp[w,ZH,G];refine ba ?_;refine C8 (t:=19) (j:=7) (i:=(u A C).1.toNat) (X:=2) (Q:=A.a.map ZD.row) (ds:=(QD (I A.a (u A C).1.toNat) C (XO (Y8 A.b.a (Zn.mk (Zh (I (I (I A.a (u A C).1.toNat).a (u A C).2.toNat).a.b 1)).1.b E (-1) (I A.c (YQ A.c (Zh (I (I (I A.a (u A C).1.toNat).a (u A C).2.toNat).a.b 1)).1.b).toNat).e 0)).1)).1.row) (L:=[(114,1)]) ?_;simp[VT (x:=(QD (I A.a (u A C).1.toNat) C (XO (Y8 A.b.a (Zn.mk (Zh (I (I (I A.a (u A C).1.toNat).a (u A C).2.toNat).a.b 1)).1.b E (-1) (I A.c (YQ A.c (Zh (I (I (I A.a (u A C).1.toNat).a (u A C).2.toNat).a.b 1)).1.b).toNat).e 0)).1)).1) rfl,w,ZH,Qi,G];refine ba ?_;exact jo [.cell 6 37,.tmp 7] f
   ·have a:=G.2;try(simp at G;done)
    all_goals
     simp[G];refine ba ?_;refine aN ?_;simp[G];refine ba ?_;refine aE f ?_ ?_<;>intro l h4 f
     ·simp[G];refine ba ?_;exact jo [.cell 6 37,.tmp 7] f
     ·simp[G]at h4
 ·have o:=G;simp[G];refine ba ?_;refine aN ?_;simp[G];refine ba ?_;refine aE f ?_ ?_<;>intro ao h6 f
  ·simp[G];refine ba ?_;exact jo [.cell 6 37,.tmp 7] f
  ·simp[G]at h6
theorem Ot(A:P)(C:YS)(g:R 2293760 A)(S:R 2293760 C):c 37 [A.row,C.row] [(KV A C).1.row,rB (KV A C).2]:=by
 have f:=me (KV.eq_1 A C);refine so func37 ntmps37 ?_;refine cF f ?_ ?_<;>intro k1 M f
 ·refine ai qW (rG A C.A (B g)) ?_;exact rt _ f
 refine cF f ?_ ?_<;>intro k2 Z f
 ·refine ai qW (py A C.A C.B C.c C.C C.D (B g) (B (YS.JM S))) ?_;exact rt _ f
 refine cF f ?_ ?_<;>intro k3 h3 f
 ·refine ai qW (IR A C.A (B g)) ?_;exact rt _ f
 refine cF f ?_ ?_<;>intro k4 h4 f
 ·refine ai qW (tG A C.A (B g)) ?_;exact rt _ f
 refine cF f ?_ ?_<;>intro k5 h5 f
 ·refine ai qW (u0 A C.A C.a C.B (B g) (B (YS.ZB2 S))) ?_;exact rt _ f
 refine cF f ?_ ?_<;>intro b h6 f
 ·refine ai qW (mD A C.A C.B C.C (B g)) ?_;exact rt _ f
 refine cF f ?_ ?_<;>intro l h7 f
 ·refine e3 (E8 A C.A (B g)) ?_;exact rt _ f
 refine cF f ?_ ?_<;>intro k8 h8 f
 ·refine ai qW (rD A C.A C.B C.c (B g) (B (YS.JM S))) ?_;exact rt _ f
 refine cF f ?_ ?_<;>intro L h9 f
 ·refine ai qW (BJ A C.A C.B (B g)) ?_;exact rt _ f
 refine cF f ?_ ?_<;>intro af al f
 ·refine ai qW (mL A C.A C.B (B g)) ?_;exact rt _ f
 refine ai qW (Y3 A (B g)) ?_;exact rt _ f
end Go.Proofs.YtifogammcgmjpaaGreat
